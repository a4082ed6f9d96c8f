/- Parts of the proof of the seat's statements (SaC, SaD, SaE, ShMn, TkSpec2, TkR, TkS, TkT, TkSpec3, HRc, HRd, HFo, FoA, FoB, FoC, FoD, HRa, HRb, RfA, RfB, RfC, RfD, RfE, RfF, RfG, RfH, RfI, TcF, RgA, HHi, FqA, FoE, FoF, FoG, FoH, FoI, FqB, FqC, HiSpec, HiExp, HiLaw, HiDot, HiCore, FqD, FqE, FqF, FqG, FqI, FqJ, FqK): lemmas about the given translation and plain laws. No condition of their own. -/
import Derived.Test.YtpimhdkjpccihaaGreatDoorHic
import Derived.Test.YtpimhdkjpccihaaGreatDoorProg
import Derived.Laws.IdiomStrings
set_option linter.all false
namespace Go.Proofs
open Go Go.Sh Go.RowKit ShaSpec
set_option linter.unusedSimpArgs false
set_option linter.unusedVariables false
set_option maxRecDepth 10000
section
variable {K : Value → World → Prop} {w : World}
@[go_sem] theorem idx_bytes (T : TypeId) (b o n c : Nat) (x : Int) : oM Tryz.prog (.indexAddr 189 (.tmp 0) (.tmp 1)) T [.slice (some ⟨b, o, none⟩) n c, .int .i64 x] = onM (0 ≤ x ∧ x < n) (.pointer (some ⟨b, o + x.toNat, none⟩)) := by
  funext K w
  rw [oM_indexAddr, run_indexAt_slice (h := by kernel_rfl)]
  have hs : (sizeOf (Tryz.prog.elem 189)).run Tryz.prog w = .ok 1 w := by kernel_rfl
  by_cases hi : 0 ≤ x ∧ x < n
  · rw [if_pos hi, hs]
    simp only [Result.andThen, add_none, Nat.mul_one, rM_ok]
    exact propext ⟨fun h => ⟨hi, h⟩, fun h => h.2⟩
  · rw [if_neg hi]
    obtain ⟨e', w', he⟩ := halts Value Tryz.prog .i64 x n .index w
    rw [he]
    exact propext ⟨fun h => h.elim, fun h => hi h.1⟩
theorem shl24 (t t' T : TypeId) (x : W) : oM Tryz.prog (.binOp .shl t (.tmp 0) (.tmp 1) t') T [w32 x, .int .u64 24] = pureM (w32 (x <<< 24)) := wshl t t' T .u64 x 24 (by omega)
theorem shl16 (t t' T : TypeId) (x : W) : oM Tryz.prog (.binOp .shl t (.tmp 0) (.tmp 1) t') T [w32 x, .int .u64 16] = pureM (w32 (x <<< 16)) := wshl t t' T .u64 x 16 (by omega)
theorem shl8 (t t' T : TypeId) (x : W) : oM Tryz.prog (.binOp .shl t (.tmp 0) (.tmp 1) t') T [w32 x, .int .u64 8] = pureM (w32 (x <<< 8)) := wshl t t' T .u64 x 8 (by omega)
theorem shr3 (t t' T : TypeId) (x : W) : oM Tryz.prog (.binOp .shr t (.tmp 0) (.tmp 1) t') T [w32 x, .int .u64 3] = pureM (w32 (x >>> 3)) := wshr t t' T .u64 x 3 (by omega)
theorem shr10 (t t' T : TypeId) (x : W) : oM Tryz.prog (.binOp .shr t (.tmp 0) (.tmp 1) t') T [w32 x, .int .u64 10] = pureM (w32 (x >>> 10)) := wshr t t' T .u64 x 10 (by omega)
theorem shr24 (t t' T : TypeId) (x : W) : oM Tryz.prog (.binOp .shr t (.tmp 0) (.tmp 1) t') T [w32 x, .int .u64 24] = pureM (w32 (x >>> 24)) := wshr t t' T .u64 x 24 (by omega)
theorem shr16 (t t' T : TypeId) (x : W) : oM Tryz.prog (.binOp .shr t (.tmp 0) (.tmp 1) t') T [w32 x, .int .u64 16] = pureM (w32 (x >>> 16)) := wshr t t' T .u64 x 16 (by omega)
theorem shr8 (t t' T : TypeId) (x : W) : oM Tryz.prog (.binOp .shr t (.tmp 0) (.tmp 1) t') T [w32 x, .int .u64 8] = pureM (w32 (x >>> 8)) := wshr t t' T .u64 x 8 (by omega)
theorem rot6 (x : W) (h : K (w32 (rotr x 6)) w) : callM Tryz.prog 217 #[w32 x, .int .i64 (-6)] K w := rotl_ok x 6 (by omega) (by omega) h
theorem rot11 (x : W) (h : K (w32 (rotr x 11)) w) : callM Tryz.prog 217 #[w32 x, .int .i64 (-11)] K w := rotl_ok x 11 (by omega) (by omega) h
theorem rot25 (x : W) (h : K (w32 (rotr x 25)) w) : callM Tryz.prog 217 #[w32 x, .int .i64 (-25)] K w := rotl_ok x 25 (by omega) (by omega) h
theorem rot2 (x : W) (h : K (w32 (rotr x 2)) w) : callM Tryz.prog 217 #[w32 x, .int .i64 (-2)] K w := rotl_ok x 2 (by omega) (by omega) h
theorem rot13 (x : W) (h : K (w32 (rotr x 13)) w) : callM Tryz.prog 217 #[w32 x, .int .i64 (-13)] K w := rotl_ok x 13 (by omega) (by omega) h
theorem rot22 (x : W) (h : K (w32 (rotr x 22)) w) : callM Tryz.prog 217 #[w32 x, .int .i64 (-22)] K w := rotl_ok x 22 (by omega) (by omega) h
theorem rot7 (x : W) (h : K (w32 (rotr x 7)) w) : callM Tryz.prog 217 #[w32 x, .int .i64 (-7)] K w := rotl_ok x 7 (by omega) (by omega) h
theorem rot18 (x : W) (h : K (w32 (rotr x 18)) w) : callM Tryz.prog 217 #[w32 x, .int .i64 (-18)] K w := rotl_ok x 18 (by omega) (by omega) h
theorem rot17 (x : W) (h : K (w32 (rotr x 17)) w) : callM Tryz.prog 217 #[w32 x, .int .i64 (-17)] K w := rotl_ok x 17 (by omega) (by omega) h
theorem rot19 (x : W) (h : K (w32 (rotr x 19)) w) : callM Tryz.prog 217 #[w32 x, .int .i64 (-19)] K w := rotl_ok x 19 (by omega) (by omega) h
def schL (b : List UInt8) (k : Nat) : List W := sched b k ++ List.replicate (64 - k) 0
theorem schL_length (b : List UInt8) (k : Nat) (hk : k ≤ 64) : (schL b k).length = 64 := by simp [schL, sched_length]; omega
theorem schL_next (b : List UInt8) (k : Nat) (hk : k < 64) : (schL b k).set k (nextW b (sched b k) k) = schL b (k + 1) := by
  unfold schL
  rw [List.set_append_right _ _ (by rw [sched_length]; omega), sched_length, Nat.sub_self]
  obtain ⟨m, hm⟩ : ∃ m, 64 - k = m + 1 := ⟨63 - k, by omega⟩
  rw [hm, List.replicate_succ, List.set_cons_zero, show 64 - (k + 1) = m by omega]
  simp [sched]
structure SchI (b : List UInt8) (g : Nat) (w0 : World) (k : Nat) (w' : World) : Prop where
  below : Below w0.heap.size w0 w'
  holds : Holds w' g 224 (ws (schL b k))
structure SchC (b : List UInt8) (g : Nat) (w0 : World) (k : Nat) (w' : World) : Prop where
  one : Below w0.heap.size w0 w'
  two : ∀ j, j < k → w'.cell? ⟨g, j, none⟩ = some (w32 (at' (sched b k) j))
theorem SchC.less {b : List UInt8} {g : Nat} {w0 w' : World} {k : Nat} (h : SchC b g w0 (k + 1) w') : SchC b g w0 k w' := by
  refine ⟨h.one, fun j hj => ?_⟩
  rw [h.two j (by omega)]
  have e : at' (sched b (k + 1)) j = at' (sched b k) j := by
    show (sched b k ++ [nextW b (sched b k) k]).getD j 0 = (sched b k).getD j 0
    rw [List.getD_eq_getElem?_getD, List.getElem?_append_left (by rw [sched_length]; omega), ← List.getD_eq_getElem?_getD]
  rw [e]
theorem schL_at (b : List UInt8) (k j : Nat) (hj : j < k) : (schL b k).getD j 0 = at' (sched b k) j := by
  unfold schL at'
  rw [List.getD_eq_getElem?_getD, List.getElem?_append_left (by rw [sched_length]; omega), ← List.getD_eq_getElem?_getD]
theorem SchI.c {b : List UInt8} {g : Nat} {w0 w' : World} {k : Nat} (hk : k ≤ 64) (h : SchI b g w0 k w') : SchC b g w0 k w' := by
  refine ⟨h.below, fun j hj => ?_⟩
  have hl := schL_length b k hk
  rw [h.holds.cell j (by simp [hl]; omega), ← schL_at b k j hj]
  simp [List.getD_eq_getElem?_getD, hl, show j < 64 by omega]
def SchJ (b : List UInt8) (g : Nat) (w0 : World) (l : List Value) (w' : World) : Prop := ∃ (v0 v1 v2 v3 v4 : Value) (k : Nat), l = [v0, v1, v2, v3, v4, .int .i64 (k : Int)] ∧ k ≤ 64 ∧ SchI b g w0 k w'
def schMu (l : List Value) (_ : World) : Nat := match l with | [_, _, _, _, _, .int _ i] => 64 - i.toNat | _ => 0
theorem schMu_eq (a b c d e : Value) (q : IntKind) (i : Int) (w : World) : schMu [a, b, c, d, e, .int q i] w = 64 - i.toNat := rfl
theorem SchI.drew {b : List UInt8} {g : Nat} {w0 w' : World} {k : Nat} (h : SchI b g w0 k w') : SchI b g w0 k { w' with drawn := w'.drawn + 1 } :=
  ⟨h.below.on .drawn, h.holds.next .drawn⟩
theorem SchI.set {b : List UInt8} {g : Nat} {w0 w' W : World} {k : Nat} (h : SchI b g w0 k w') (h0 : w0.heap.size ≤ g) (hk : k < 64) (hg : w'.grownBy W (some g)) (hh : Holds W g 224 ((ws (schL b k)).set k (w32 (nextW b (sched b k) k)))) : SchI b g w0 (k + 1) W := by
  refine ⟨grown_below h.below hg h0, ?_⟩
  rw [← schL_next b k hk]
  unfold ws at hh ⊢
  rw [List.map_set]
  exact hh
theorem schedule_ok (b : List UInt8) {B o c : Nat} (hl : b.length = 64) (hb : ByR w B o b) (k : ∀ w', Below w.heap.size w w' → K (.agg (ws (sched b 64)).toArray) w') : callM Tryz.prog 215 #[.slice (some ⟨B, o, none⟩) 64 c] K w := by
  apply sh_215_ok
  unfold sh_215
  refine arr_alloc al_64 fun g W hbW hgW hh => ?_
  refine ⟨SchJ b g w, schMu, ⟨_, _, _, _, _, 0, rfl, by omega, hbW, hh⟩, ?_⟩
  clear hh hbW W
  rintro _ _ w1 ⟨v0, v1, v2, v3, v4, i, rfl, hi, hI⟩
  have hc := (hI.c hi)
  by_cases hi64 : i < 64
  · repeat (any_goals (first
    | (with_reducible ((refine idCond ?_); refine yN ?_))
    | ((with_reducible refine idO ?_); (with_reducible refine oM_gen fun Kv hK=>?_); simp [go_sem]; refine hK _ _ ?_; clear hK; clear Kv)))
    refine ⟨fun _ w' => SchI b g w (i + 1) w', ?_, ?_⟩
    · by_cases h16 : i < 16
      · repeat (any_goals (first
        | (with_reducible ((refine idCond ?_); refine yN ?_))
        | ((with_reducible refine idO ?_); (with_reducible refine oM_gen fun Kv hK=>?_); simp [go_sem]; refine hK _ _ ?_; clear hK; clear Kv)))
        refine ⟨fun w' => Below w.heap.size w w', hI.drew.below, ?_⟩
        have hI := hI.drew
        have cb : ∀ j, j < 64 → ∀ w', Below w.heap.size w w' → w'.cell? ⟨B, o + j, none⟩ = some (.int .u8 ((b.getD j 0).toNat : Int)) := fun j hj w' hw => (hb.next hw).2 j (by omega)
        have t1 : (4 * (i : Int)).toNat = 4 * i := by omega
        have t2 : (4 * (i : Int) + 1).toNat = 4 * i + 1 := by omega
        have t3 : (4 * (i : Int) + 2).toNat = 4 * i + 2 := by omega
        have t4 : (4 * (i : Int) + 3).toNat = 4 * i + 3 := by omega
        have c1 := cb (4 * i) (by omega)
        have c2 := cb (4 * i + 1) (by omega)
        have c3 := cb (4 * i + 2) (by omega)
        have c4 := cb (4 * i + 3) (by omega)
        have w1 : IntKind.i64.wrap (4 * (i : Int)) = 4 * i := wrapI64 _ (by omega) (by omega)
        have w2 : IntKind.i64.wrap (4 * (i : Int) + 1) = 4 * i + 1 := wrapI64 _ (by omega) (by omega)
        have w3 : IntKind.i64.wrap (4 * (i : Int) + 2) = 4 * i + 2 := wrapI64 _ (by omega) (by omega)
        have w4 : IntKind.i64.wrap (4 * (i : Int) + 3) = 4 * i + 3 := wrapI64 _ (by omega) (by omega)
        repeat (any_goals (first
        | (with_reducible refine pureH_in ?_)
        | ((with_reducible refine idOH ?_); (with_reducible refine oH_of ⟨_, rfl⟩ (fun W0 hW0 => by (refine oM_gen (fun Kv hK => ?_)); simp [go_sem, w1, w2, w3, w4, t1, t2, t3, t4, c1 _ hW0, c2 _ hW0, c3 _ hW0, c4 _ hW0, conv_u8, shl24, shl16, shl8, wor]; (first | exact hK _ _ ⟨rfl, rfl⟩ | exact ⟨by omega, hK _ _ ⟨rfl, rfl⟩⟩)) ?_))))
        have en : nextW b (sched b i) i = w8 (b[4 * i]?.getD 0) <<< 24 ||| w8 (b[4 * i + 1]?.getD 0) <<< 16 ||| w8 (b[4 * i + 2]?.getD 0) <<< 8 ||| w8 (b[4 * i + 3]?.getD 0) := by
          unfold nextW word
          rw [if_pos h16]
          simp only [List.getD_eq_getElem?_getD]
        rw [← en]
        refine arr_set sz_u32 rfl rfl hI.holds (by simp [schL_length b i hi, hi64]) (fun W hg2 hh => ?_)
        have hI2 := hI.set hgW hi64 hg2 hh
        exact ⟨hI2.below, hI2⟩
      · repeat (any_goals (first
        | (with_reducible ((refine idCond ?_); refine yO ?_))
        | ((with_reducible refine idO ?_); (with_reducible refine oM_gen fun Kv hK=>?_); simp [go_sem]; refine hK _ _ ?_; clear hK; clear Kv)))
        have hI := hI.drew
        refine ⟨fun w' => w' = { w1 with drawn := w1.drawn + 1 }, rfl, ?_⟩
        generalize ({ w1 with drawn := w1.drawn + 1 } : World) = w2 at hI ⊢
        have hc := hI.c hi
        have w1 : IntKind.i64.wrap ((i : Int) - 15) = (i : Int) - 15 := wrapI64 _ (by omega) (by omega)
        have w2 : IntKind.i64.wrap ((i : Int) - 2) = (i : Int) - 2 := wrapI64 _ (by omega) (by omega)
        have w3 : IntKind.i64.wrap ((i : Int) - 16) = (i : Int) - 16 := wrapI64 _ (by omega) (by omega)
        have w4 : IntKind.i64.wrap ((i : Int) - 7) = (i : Int) - 7 := wrapI64 _ (by omega) (by omega)
        have t1 : ((i : Int) - 15).toNat = i - 15 := by omega
        have t2 : ((i : Int) - 2).toNat = i - 2 := by omega
        have t3 : ((i : Int) - 16).toNat = i - 16 := by omega
        have t4 : ((i : Int) - 7).toNat = i - 7 := by omega
        have c1 := hc.two (i - 15) (by omega)
        have c2 := hc.two (i - 2) (by omega)
        repeat (any_goals (first
        | (with_reducible first|refine And.intro (Eq.refl (α := World) _) ?_|refine forall_one ?_)
        | ((with_reducible refine idOQ ?_); ((with_reducible refine oQ_one ?_ ?_); exact ⟨_, rfl⟩))
        | ((with_reducible refine idO ?_); (with_reducible refine oM_gen fun Kv hK=>?_); simp [go_sem, t1, t2, c1, c2]; (try simp (disch := omega) only [wrapI64, wrapU8, wrapU32, wrapU64]); (first|refine hK _ _ ?_|refine And.intro (by omega) (hK _ _ ?_)); clear hK; clear Kv)))
        repeat (any_goals (first
        | (with_reducible refine rot7 _ ?_) | (with_reducible refine rot18 _ ?_) | (with_reducible refine rot17 _ ?_) | (with_reducible refine rot19 _ ?_)
        | ((with_reducible refine idO ?_); (with_reducible refine oM_gen fun Kv hK=>?_); simp [go_sem, shr3, shr10, wxor]; refine hK _ _ ?_; clear hK; clear Kv)))
        refine ⟨SchC b g w i, hI.drew.c hi, ?_⟩
        have hI := hI.drew
        repeat (any_goals (first
        | (with_reducible refine pureH_in ?_)
        | ((with_reducible refine idOH ?_); (with_reducible refine oH_of ⟨_, rfl⟩ (fun W0 hW0 => by (refine oM_gen (fun Kv hK => ?_)); simp [go_sem, w3, w4, t3, t4, hW0.two (i - 16) (by omega), hW0.two (i - 7) (by omega), wadd]; (first | exact hK _ _ ⟨rfl, rfl⟩ | exact ⟨by omega, hK _ _ ⟨rfl, rfl⟩⟩)) ?_))))
        have en : nextW b (sched b i) i = at' (sched b i) (i - 16) + sig0 (at' (sched b i) (i - 15)) + at' (sched b i) (i - 7) + sig1 (at' (sched b i) (i - 2)) := by
          unfold nextW
          rw [if_neg h16]
        unfold sig0 sig1 at en
        rw [← en]
        refine arr_set sz_u32 rfl rfl hI.holds (by simp [schL_length b i hi, hi64]) (fun W hg2 hh => ?_)
        have hI2 := hI.set hgW hi64 hg2 hh
        exact ⟨(hI2.c hi64).less, hI2⟩
    · rintro l u w2 hI2
      repeat (any_goals ((with_reducible refine idO ?_); (with_reducible refine oM_gen fun Kv hK=>?_); simp [go_sem]; (try simp (disch := omega) only [wrapI64, wrapU8, wrapU32, wrapU64]); refine hK _ _ ?_; clear hK; clear Kv))
      refine ⟨⟨_, _, _, _, _, i + 1, rfl, hi64, hI2⟩, ?_⟩
      simp only [schMu_eq]; omega
  · obtain rfl : i = 64 := by omega
    repeat (any_goals (first
    | (with_reducible ((refine idCond ?_); refine yM ?_))
    | ((with_reducible refine idO ?_); (with_reducible refine oM_gen fun Kv hK=>?_); simp [go_sem]; refine hK _ _ ?_; clear hK; clear Kv)))
    have hh := hI.holds
    have e64 : schL b 64 = sched b 64 := by simp [schL]
    rw [e64] at hh
    have hl64 := sched_length b 64
    generalize sched b 64 = sl at *
    refine arr_load hh un_64 rfl (by rw [List.length_map, hl64]; kernel_rfl) ?_
    refine arr_store sz_64 (xs := ws sl) rfl (by rw [List.length_map, hl64]) (ws_one _) hh (by rw [List.length_map, hl64]) (fun W hg2 hh => ?_)
    exact arr_ret hh un_64 rfl (by rw [List.length_map, hl64]; kernel_rfl) (k _ (grown_below hI.below hg2 hgW))
end
end Go.Proofs
namespace Go.Proofs
open Go Go.Sh Go.RowKit ShaSpec
set_option linter.unusedSimpArgs false
set_option linter.unusedVariables false
set_option maxRecDepth 10000
section
variable {K : Value → World → Prop} {w : World}
theorem build8 (T : TypeId) (a b c d e f g h : W) : oM Tryz.prog (Go.Op.build 207 #[(0, (.tmp 0)), (1, (.tmp 1)), (2, (.tmp 2)), (3, (.tmp 3)), (4, (.tmp 4)), (5, (.tmp 5)), (6, (.tmp 6)), (7, (.tmp 7))]) T [w32 a, w32 b, w32 c, w32 d, w32 e, w32 f, w32 g, w32 h] = pureM (stV ⟨a, b, c, d, e, f, g, h⟩) := by
  funext K w
  kernel_rfl
structure MixI (w0 : World) (gh gr gs gt gv : Nat) (s : St) (sl : List W) (v : List W) (w' : World) : Prop where
  below : Below w0.heap.size w0 w'
  h : Holds w' gh 207 (ws s.list)
  r : ∃ zs, zs.length = 8 ∧ Holds w' gr 207 zs
  sch : Holds w' gs 224 (ws sl)
  tab : Holds w' gt 224 (ws consts)
  v : Holds w' gv 207 (ws v)
variable {w0 w' : World} {gh gr gs gt gv : Nat} {s : St} {sl v : List W}
theorem MixI.next {w2 : World} (h : MixI w0 gh gr gs gt gv s sl v w') (hb : Below w'.heap.size w' w2) : MixI w0 gh gr gs gt gv s sl v w2 :=
  ⟨h.below.on hb, h.h.next hb, h.r.imp fun _ h => ⟨h.1, h.2.next hb⟩, h.sch.next hb, h.tab.next hb, h.v.next hb⟩
theorem MixI.drew (h : MixI w0 gh gr gs gt gv s sl v w') : MixI w0 gh gr gs gt gv s sl v { w' with drawn := w'.drawn + 1 } := h.next .drawn
structure Apart (n gh gr gs gt gv : Nat) : Prop where
  h : gh ≠ gv
  r : gr ≠ gv
  s : gs ≠ gv
  t : gt ≠ gv
  v : n ≤ gv
  r0 : n ≤ gr
theorem MixI.wrote {W2 : World} {u : List W} (ha : Apart w0.heap.size gh gr gs gt gv) (h : MixI w0 gh gr gs gt gv s sl v w') (hg : w'.grownBy W2 (some gv)) (hh : Holds W2 gv 207 (ws u)) : MixI w0 gh gr gs gt gv s sl u W2 :=
  ⟨grown_below h.below hg ha.v, h.h.other hg ha.h, h.r.imp fun _ h => ⟨h.1, h.2.other hg ha.r⟩, h.sch.other hg ha.s, h.tab.other hg ha.t, hh⟩
theorem holds_at {g : Nat} {T : TypeId} {l : List W} (h : Holds w' g T (ws l)) (i : Nat) (hi : i < l.length) : w'.cell? ⟨g, i, none⟩ = some (w32 (at' l i)) := by
  rw [h.cell i (by simpa using hi)]
  simp [at', List.getD_eq_getElem?_getD, hi]
def MixJ (w0 : World) (gh gr gs gt gv : Nat) (s : St) (b : List UInt8) (sl : List W) (l : List Value) (w' : World) : Prop := ∃ (v0 v1 v2 v3 v4 : Value) (k : Nat), l = [v0, v1, v2, v3, v4, .int .i64 (k : Int)] ∧ k ≤ 64 ∧ MixI w0 gh gr gs gt gv s sl (rounds b s k).list w'
def Zr (St : World → Prop) (j : Nat) (w' : World) : Prop := j = 0 → St w'
theorem zGet {St : World → Prop} {w' : World} (h : upto (Zr St) 0 w') : St w' := by
  obtain ⟨s, hs, hc⟩ := h
  exact hc (by omega)
def adL (v s : St) (i : Nat) : List W := (List.range 8).map fun j => if j < i then at' v.list j + at' s.list j else at' v.list j
theorem adL_length (v s : St) (i : Nat) : (adL v s i).length = 8 := by simp [adL]
theorem adL_at (v s : St) {i : Nat} (hi : i < 8) : at' (adL v s i) i = at' v.list i := by
  unfold adL
  conv => lhs; unfold at'
  rw [List.getD_eq_getElem?_getD, List.getElem?_map, List.getElem?_range hi]
  simp [at', List.getD_eq_getElem?_getD]
theorem adL_set (v s : St) {i : Nat} (hi : i < 8) : (adL v s i).set i (at' v.list i + at' s.list i) = adL v s (i + 1) := by
  unfold adL
  apply List.ext_getElem
  · simp
  · intro j h1 h2
    rw [List.getElem_set]
    simp only [List.getElem_map, List.getElem_range]
    by_cases hji : i = j
    · subst hji; simp
    · rw [if_neg hji]
      by_cases hlt : j < i
      · rw [if_pos hlt, if_pos (by omega)]
      · rw [if_neg hlt, if_neg (by omega)]
def AdJ (w0 : World) (gh gr gs gt gv : Nat) (s : St) (sl : List W) (v : St) (l : List Value) (w' : World) : Prop := ∃ (v0 : Value) (k : Nat), l = [v0, .int .i64 (k : Int)] ∧ k ≤ 8 ∧ MixI w0 gh gr gs gt gv s sl (adL v s k) w'
def adMu (l : List Value) (_ : World) : Nat := match l with | [_, .int _ i] => 8 - i.toNat | _ => 0
theorem adMu_eq (a : Value) (q : IntKind) (i : Int) (w : World) : adMu [a, .int q i] w = 8 - i.toNat := rfl
theorem rotQ6 {C : World → Prop} {KQ : Value → Prop} (x : W) (u : Unit) (k : KQ (w32 (rotr x 6))) : callQ Tryz.prog 217 #[w32 x, .int .i64 (-6)] C KQ := callQ_of (v := w32 (rotr x 6)) (fun w hw => rot6 x ⟨rfl, hw⟩) k
theorem rotQ11 {C : World → Prop} {KQ : Value → Prop} (x : W) (u : Unit) (k : KQ (w32 (rotr x 11))) : callQ Tryz.prog 217 #[w32 x, .int .i64 (-11)] C KQ := callQ_of (v := w32 (rotr x 11)) (fun w hw => rot11 x ⟨rfl, hw⟩) k
theorem rotQ25 {C : World → Prop} {KQ : Value → Prop} (x : W) (u : Unit) (k : KQ (w32 (rotr x 25))) : callQ Tryz.prog 217 #[w32 x, .int .i64 (-25)] C KQ := callQ_of (v := w32 (rotr x 25)) (fun w hw => rot25 x ⟨rfl, hw⟩) k
theorem rotQ2 {C : World → Prop} {KQ : Value → Prop} (x : W) (u : Unit) (k : KQ (w32 (rotr x 2))) : callQ Tryz.prog 217 #[w32 x, .int .i64 (-2)] C KQ := callQ_of (v := w32 (rotr x 2)) (fun w hw => rot2 x ⟨rfl, hw⟩) k
theorem rotQ13 {C : World → Prop} {KQ : Value → Prop} (x : W) (u : Unit) (k : KQ (w32 (rotr x 13))) : callQ Tryz.prog 217 #[w32 x, .int .i64 (-13)] C KQ := callQ_of (v := w32 (rotr x 13)) (fun w hw => rot13 x ⟨rfl, hw⟩) k
theorem rotQ22 {C : World → Prop} {KQ : Value → Prop} (x : W) (u : Unit) (k : KQ (w32 (rotr x 22))) : callQ Tryz.prog 217 #[w32 x, .int .i64 (-22)] C KQ := callQ_of (v := w32 (rotr x 22)) (fun w hw => rot22 x ⟨rfl, hw⟩) k
theorem schedule_ok' (b : List UInt8) {B o c : Nat} (hl : b.length = 64) (hb : ByR w B o b) (k : ∀ sl w', sl = sched b 64 → Below w.heap.size w w' → K (.agg (ws sl).toArray) w') : callM Tryz.prog 215 #[.slice (some ⟨B, o, none⟩) 64 c] K w :=
  schedule_ok b hl hb fun w' h => k _ w' rfl h
theorem mix_ok (s : St) (b : List UInt8) {B o c : Nat} (hl : b.length = 64) (hb : ByR w B o b) (k : ∀ w', Below w.heap.size w w' → K (stV (mix s b)) w') : callM Tryz.prog 196 #[stV s, .slice (some ⟨B, o, none⟩) 64 c] K w := by
  apply sh_196_ok
  unfold sh_196
  refine arr_box (cs := ws s.list) rfl fun gh w1 hb1 hg1 h1 => ?_
  refine arr_alloc al_words fun gr w2 hb2 hg2 h2 => ?_
  refine schedule_ok' b hl ((hb.next hb1).next hb2) fun sl w3 hsl hb3 => ?_
  refine table_ok fun w4 hb4 => ?_
  refine arr_alloc al_64 fun gs w5 hb5 hg5 h5 => ?_
  refine arr_alloc al_64 fun gt w6 hb6 hg6 h6 => ?_
  have hl64 : sl.length = 64 := by rw [hsl]; exact sched_length b 64
  refine arr_store sz_64 (xs := ws (sl)) rfl (by rw [List.length_map, hl64]) (ws_one _) (h5.next hb6) rfl (fun w7 hg7 h7 => ?_)
  have l5 := h5.lt
  have l2 := h2.lt
  have l1 := h1.lt
  have z2 := hb2.size
  have z3 := hb3.size
  have z4 := hb4.size
  have z5 := hb5.size
  have z6 := hb6.size
  have h6' := h6.other hg7 (show gt ≠ gs by omega)
  have z7 := hg7.size
  have l6 := h6.lt
  refine arr_store sz_64 (xs := ws consts) rfl rfl (ws_one _) h6' rfl (fun w8 hg8 h8 => ?_)
  have z8 := hg8.size
  have h7' := h7.other hg8 (show gs ≠ gt by omega)
  have q1 : Holds w8 gh 207 (ws s.list) := (((((((h1.next hb2).next hb3).next hb4).next hb5).next hb6).other hg7 (by omega)).other hg8 (by omega))
  have q2 : Holds w8 gr 207 (ws (List.replicate 8 0)) := ((((((h2.next hb3).next hb4).next hb5).next hb6).other hg7 (by omega)).other hg8 (by omega))
  have qb : Below w.heap.size w w8 := grown_below (grown_below (((((hb1.on hb2).on hb3).on hb4).on hb5).on hb6) hg7 (by have := hb1.size; omega)) hg8 (by have := hb1.size; omega)
  refine arr_load q1 un_words rfl (by kernel_rfl) ?_
  refine arr_alloc al_words fun gv w9 hb9 hg9 h9 => ?_
  refine arr_store sz_words (xs := ws s.list) rfl rfl (ws_one _) h9 rfl (fun w10 hg10 h10 => ?_)
  have hA : Apart w.heap.size gh gr gs gt gv := by
    have := hb1.size
    constructor <;> omega
  have hI : MixI w gh gr gs gt gv s (sl) s.list w10 :=
    ⟨grown_below (qb.on hb9) hg10 hA.v, (q1.next hb9).other hg10 hA.h, ⟨_, rfl, (q2.next hb9).other hg10 hA.r⟩, (h7'.next hb9).other hg10 hA.s, (h8.next hb9).other hg10 hA.t, h10⟩
  refine ⟨MixJ w gh gr gs gt gv s b sl, schMu, ⟨_, _, _, _, _, 0, rfl, by omega, hI⟩, ?_⟩
  clear hI h10 hg10 h9 hb9 qb q2 q1 h7' z8 h8 hg8 l6 z7 h6' z6 z5 z4 z3 z2 l1 l2 l5 h7 hg7 h6 hb6 h5 hb5 hb4 hb3 h2 hb2 h1 hb1
  rintro _ _ w1 ⟨v0, v1, v2, v3, v4, i, rfl, hi, hI⟩
  by_cases hi64 : i < 64
  · have e1 : rounds b s (i + 1) = round (rounds b s i) (at' consts i) (at' sl i) := by rw [hsl]; rfl
    obtain ⟨v', e2⟩ : ∃ v', v' = rounds b s (i + 1) := ⟨_, rfl⟩
    rw [← e2] at e1
    generalize rounds b s i = v at *
    repeat (any_goals (first
    | (with_reducible ((refine idCond ?_); refine yN ?_))
    | ((with_reducible refine idO ?_); (with_reducible refine oM_gen fun Kv hK=>?_); simp [go_sem]; refine hK _ _ ?_; clear hK; clear Kv)))
    refine ⟨fun w' => w' = { w1 with drawn := w1.drawn + 1 }, rfl, ?_⟩
    have hI := hI.drew
    generalize ({ w1 with drawn := w1.drawn + 1 } : World) = w2 at hI ⊢
    have c4 : w2.cell? ⟨gv, 4, none⟩ = some (w32 v.e) := holds_at hI.v 4 (show (4 : Nat) < 8 by decide)
    repeat (any_goals (first
    | (with_reducible refine rotQ6 _ () ?_) | (with_reducible refine rotQ11 _ () ?_) | (with_reducible refine rotQ25 _ () ?_) | (with_reducible refine rotQ2 _ () ?_) | (with_reducible refine rotQ13 _ () ?_) | (with_reducible refine rotQ22 _ () ?_)
    | (with_reducible first|refine And.intro (Eq.refl (α := World) _) ?_|refine forall_one ?_)
    | ((with_reducible refine idOQ ?_); ((with_reducible refine oQ_one ?_ ?_); exact ⟨_, rfl⟩))
    | ((with_reducible refine idO ?_); (with_reducible refine oM_gen fun Kv hK=>?_); simp [go_sem, c4, wxor]; refine hK _ _ ?_; clear hK; clear Kv)))
    have hI := hI.drew
    clear c4
    refine ⟨fun w' => w' = { w2 with drawn := w2.drawn + 1 }, rfl, ?_⟩
    generalize ({ w2 with drawn := w2.drawn + 1 } : World) = w3 at hI ⊢
    have c4 : w3.cell? ⟨gv, 4, none⟩ = some (w32 v.e) := holds_at hI.v 4 (show (4 : Nat) < 8 by decide)
    have c5 : w3.cell? ⟨gv, 5, none⟩ = some (w32 v.f) := holds_at hI.v 5 (show (5 : Nat) < 8 by decide)
    have c6 : w3.cell? ⟨gv, 6, none⟩ = some (w32 v.g) := holds_at hI.v 6 (show (6 : Nat) < 8 by decide)
    have c7 : w3.cell? ⟨gv, 7, none⟩ = some (w32 v.h) := holds_at hI.v 7 (show (7 : Nat) < 8 by decide)
    have ck := holds_at hI.tab i (by rw [consts_length]; exact hi64)
    have cs := holds_at hI.sch i (by rw [hl64]; exact hi64)
    repeat (any_goals (first
    | (with_reducible first|refine And.intro (Eq.refl (α := World) _) ?_|refine forall_one ?_)
    | ((with_reducible refine idOQ ?_); ((with_reducible refine oQ_one ?_ ?_); exact ⟨_, rfl⟩))
    | ((with_reducible refine idO ?_); (with_reducible refine oM_gen fun Kv hK=>?_); simp [go_sem, c4, c5, c6, c7, ck, cs, wxor, wadd, wand]; (first|refine hK _ _ ?_|refine And.intro (by omega) (hK _ _ ?_)); clear hK; clear Kv)))
    clear c4 c5 c6 c7 ck cs
    have hI := hI.drew
    refine ⟨fun w' => w' = { w3 with drawn := w3.drawn + 1 }, rfl, ?_⟩
    generalize ({ w3 with drawn := w3.drawn + 1 } : World) = w4 at hI ⊢
    have c0 : w4.cell? ⟨gv, 0, none⟩ = some (w32 v.a) := holds_at hI.v 0 (show (0 : Nat) < 8 by decide)
    have c1 : w4.cell? ⟨gv, 1, none⟩ = some (w32 v.b) := holds_at hI.v 1 (show (1 : Nat) < 8 by decide)
    have c2 : w4.cell? ⟨gv, 2, none⟩ = some (w32 v.c) := holds_at hI.v 2 (show (2 : Nat) < 8 by decide)
    have c3 : w4.cell? ⟨gv, 3, none⟩ = some (w32 v.d) := holds_at hI.v 3 (show (3 : Nat) < 8 by decide)
    have c4 : w4.cell? ⟨gv, 4, none⟩ = some (w32 v.e) := holds_at hI.v 4 (show (4 : Nat) < 8 by decide)
    have c5 : w4.cell? ⟨gv, 5, none⟩ = some (w32 v.f) := holds_at hI.v 5 (show (5 : Nat) < 8 by decide)
    have c6 : w4.cell? ⟨gv, 6, none⟩ = some (w32 v.g) := holds_at hI.v 6 (show (6 : Nat) < 8 by decide)
    repeat (any_goals (first
    | (with_reducible refine rotQ6 _ () ?_) | (with_reducible refine rotQ11 _ () ?_) | (with_reducible refine rotQ25 _ () ?_) | (with_reducible refine rotQ2 _ () ?_) | (with_reducible refine rotQ13 _ () ?_) | (with_reducible refine rotQ22 _ () ?_)
    | (with_reducible first|refine And.intro (Eq.refl (α := World) _) ?_|refine forall_one ?_)
    | ((with_reducible refine idOQ ?_); ((with_reducible refine oQ_one ?_ ?_); exact ⟨_, rfl⟩))
    | ((with_reducible refine idO ?_); (with_reducible refine oM_gen fun Kv hK=>?_); simp [go_sem, c0, c1, c2, c3, c4, c5, c6, wxor, wadd, wand, wor, build8]; refine hK _ _ ?_; clear hK; clear Kv)))
    refine arr_store sz_words (xs := ws v'.list) (by rw [e1]; rfl) rfl (ws_one _) hI.v rfl (fun w5 hg5 h5 => ?_)
    have hI := hI.wrote hA hg5 h5
    repeat (any_goals ((with_reducible refine idO ?_); (with_reducible refine oM_gen fun Kv hK=>?_); simp [go_sem]; (try simp (disch := omega) only [wrapI64, wrapU8, wrapU32, wrapU64]); refine hK _ _ ?_; clear hK; clear Kv))
    refine ⟨⟨_, _, _, _, _, i + 1, rfl, hi64, by rw [← e2]; exact hI⟩, ?_⟩
    simp only [schMu_eq]; omega
  · obtain rfl : i = 64 := by omega
    have em : stV (mix s b) = .agg (ws (adL (rounds b s 64) s 8)).toArray := rfl
    rw [em] at k
    clear em
    generalize rounds b s 64 = v at *
    repeat (any_goals (first
    | (with_reducible ((refine idCond ?_); refine yM ?_))
    | ((with_reducible refine idO ?_); (with_reducible refine oM_gen fun Kv hK=>?_); simp [go_sem]; refine hK _ _ ?_; clear hK; clear Kv)))
    refine ⟨AdJ w gh gr gs gt gv s sl v, adMu, ⟨_, 0, rfl, by omega, hI⟩, ?_⟩
    clear hI
    rintro _ _ w2 ⟨v0, j, rfl, hj, hI⟩
    by_cases hj8 : j < 8
    · repeat (any_goals (first
      | (with_reducible ((refine idCond ?_); refine yN ?_))
      | ((with_reducible refine idO ?_); (with_reducible refine oM_gen fun Kv hK=>?_); simp [go_sem]; refine hK _ _ ?_; clear hK; clear Kv)))
      have hI := hI.drew
      have cv := holds_at hI.v j (by rw [adL_length]; exact hj8)
      have ch := holds_at hI.h j (show j < 8 from hj8)
      rw [adL_at v s hj8] at cv
      refine ⟨Zr (fun w' => w'.cell? ⟨gv, j, none⟩ = some (w32 (at' v.list j)) ∧ w'.cell? ⟨gh, j, none⟩ = some (w32 (at' s.list j))), fun _ => ⟨cv, ch⟩, ?_⟩
      repeat (any_goals (first
      | (with_reducible refine pureH_in ?_)
      | ((with_reducible refine idOH ?_); (with_reducible refine oH_of ⟨_, rfl⟩ (fun W0 hW0 => by (refine oM_gen (fun Kv hK => ?_)); simp [go_sem, (zGet hW0).1, (zGet hW0).2, wadd]; (first | exact hK _ _ ⟨rfl, rfl⟩ | exact ⟨by omega, hK _ _ ⟨rfl, rfl⟩⟩)) ?_))))
      refine arr_set sz_u32 rfl rfl hI.v (by simp [adL, hj8]) (fun W hg2 hh => ?_)
      refine ⟨fun h => by omega, ?_⟩
      have hI := hI.wrote hA hg2 (u := adL v s (j + 1)) (by rw [← adL_set v s hj8]; unfold ws at hh ⊢; rw [List.map_set]; exact hh)
      repeat (any_goals ((with_reducible refine idO ?_); (with_reducible refine oM_gen fun Kv hK=>?_); simp [go_sem]; (try simp (disch := omega) only [wrapI64, wrapU8, wrapU32, wrapU64]); refine hK _ _ ?_; clear hK; clear Kv))
      refine ⟨⟨_, j + 1, rfl, hj8, hI⟩, ?_⟩
      simp only [adMu_eq]; omega
    · obtain rfl : j = 8 := by omega
      repeat (any_goals (first
      | (with_reducible ((refine idCond ?_); refine yM ?_))
      | ((with_reducible refine idO ?_); (with_reducible refine oM_gen fun Kv hK=>?_); simp [go_sem]; refine hK _ _ ?_; clear hK; clear Kv)))
      refine arr_load hI.v un_words rfl (by kernel_rfl) ?_
      obtain ⟨zs, hz, hr⟩ := hI.r
      refine arr_store sz_words (xs := ws (adL v s 8)) rfl rfl (ws_one _) hr hz (fun W hg2 hh => ?_)
      exact arr_ret hh un_words rfl (by kernel_rfl) (k _ (grown_below hI.below hg2 hA.r0))
end
end Go.Proofs
namespace Go.Proofs
open Go Go.Sh Go.RowKit ShaSpec
set_option linter.unusedSimpArgs false
set_option linter.unusedVariables false
set_option maxRecDepth 10000
section
variable {K : Value → World → Prop} {w w0 : World}
structure Buf (w0 : World) (v : Value) (l : List UInt8) (w : World) : Prop where
  below : Below w0.heap.size w0 w
  row : BufM w 5 v l
  own : ∀ i, v.ownBlock = some i → w0.heap.size ≤ i
theorem Buf.next {v : Value} {l : List UInt8} {w' : World} (h : Buf w0 v l w) (hb : Below w.heap.size w w') : Buf w0 v l w' := by
  refine ⟨h.below.on hb, h.row.keep (fun i hi => ?_), h.own⟩
  obtain ⟨g, c, rfl, hlt⟩ := h.row.shape
  cases hi
  exact hb.block g hlt
def lo8 (x : W) : UInt8 := UInt8.ofNat x.toNat
theorem conv_w8 (T : TypeId) (x : W) : oM Tryz.prog (.convert 205 5 (.tmp 0)) T [w32 x] = pureM (.int .u8 ((lo8 x).toNat : Int)) := by
  unfold lo8
  funext K w
  have e : IntKind.u8.wrap (x.toNat : Int) = ((UInt8.ofNat x.toNat).toNat : Int) := by
    rw [IntKind.wrap_u8, UInt8.toNat_ofNat']
    omega
  have e2 : (convert 205 5 (w32 x)).run Tryz.prog w = .ok (.int .u8 (IntKind.u8.wrap (x.toNat : Int))) w := by kernel_rfl
  rw [oM_convert, e2, e]
  rfl
theorem idx_st (T : TypeId) (s : St) (i : Nat) (hi : i < 8) : oM Tryz.prog (.index 207 (.tmp 0) (.tmp 1)) T [stV s, .int .i64 (i : Int)] = pureM (w32 (at' s.list i)) := by
  have e : ∀ w, (Instr.index 207 (stV s) (.int .i64 (i : Int))).run Tryz.prog w = .ok (w32 (at' s.list i)) w := by
    intro w
    rcases i with _ | _ | _ | _ | _ | _ | _ | _ | i
    all_goals first | omega | kernel_rfl
  funext K w
  rw [rM_of (S := Instr.index 207 (stV s) (.int .i64 (i : Int))) rfl, e]
  rfl
theorem mkB4 {T : TypeId} (a b c d : UInt8) (k : ∀ g W, Below w.heap.size w W → (∀ j u, (Lib.byteCells [a, b, c, d])[j]? = some u → W.cell? ⟨g, j, none⟩ = some u) → K (.slice (some ⟨g, 0, none⟩) 4 4) W) :
    oM Tryz.prog (.buildSlice 189 4 #[(0, .tmp 0), (1, .tmp 1), (2, .tmp 2), (3, .tmp 3)]) T [.int .u8 (a.toNat : Int), .int .u8 (b.toNat : Int), .int .u8 (c.toNat : Int), .int .u8 (d.toNat : Int)] K w := by
  have e : (Instr.buildSlice 189 4 #[(0, .int .u8 (a.toNat : Int)), (1, .int .u8 (b.toNat : Int)), (2, .int .u8 (c.toNat : Int)), (3, .int .u8 (d.toNat : Int))]).run Tryz.prog w = .ok (.slice (some ⟨w.heap.size, 0, none⟩) 4 4) (w.alloc (.cells (Lib.byteCells [a, b, c, d]).toArray 5)) := by kernel_rfl
  rw [rM_of (S := Instr.buildSlice 189 4 #[(0, .int .u8 (a.toNat : Int)), (1, .int .u8 (b.toNat : Int)), (2, .int .u8 (c.toNat : Int)), (3, .int .u8 (d.toNat : Int))]) (by simp [xop, execOp, evalL, evE]), e]
  refine k _ _ ((Below.refl _ w).alloc (Nat.le_refl _) _) (fun j u hj => ?_)
  have := World.cell?_alloc_at (w := w) (Lib.byteCells [a, b, c, d]).toArray 5 w.heap.size j rfl
  rw [this]
  simpa using hj
abbrev OwnB (w : World) (B : Nat) (v : Value) (l : List UInt8) : Prop := w.ownsRow B 5 1 v l.length (Lib.byteCells l)
theorem pushW {B : Nat} {T T' : TypeId} {v : Value} {l : List UInt8} (a b c d : UInt8) (ho : OwnB w B v l) (hB : B ≤ w.heap.size) (hl : l.length < 1099511627776) (k : ∀ v' w', OwnB w' B v' (l ++ [a, b, c, d]) → Below B w w' → K v' w') :
    oM Tryz.prog (.buildSlice 189 4 #[(0, .tmp 0), (1, .tmp 1), (2, .tmp 2), (3, .tmp 3)]) T [.int .u8 (a.toNat : Int), .int .u8 (b.toNat : Int), .int .u8 (c.toNat : Int), .int .u8 (d.toNat : Int)] (fun u w => oM Tryz.prog (.call { callee := .builtin .append, args := #[.tmp 0, .tmp 1], argTypes := #[189, 189] }) T' [v, u] K w) w := by
  refine mkB4 a b c d fun g W hb hc => ?_
  have ho2 : OwnB W B v l := owns_keep ho (fun i hi => hb.block i (owns_own ho hi).1)
  refine append_at 189 T' 5 ((Tryz.prog.info? 5).getD default) (.int .u8 0) 1 1 (by kernel_rfl) (by kernel_rfl) (by kernel_rfl) (by kernel_rfl) (by kernel_rfl) (by kernel_rfl) (by omega) (owns_base ho2 (Nat.zero_le _)) (Lib.byteCells [a, b, c, d]) rfl (by simp) ?_ ?_ (by simp only [maxLen]; omega) (by omega) ?_
  · rintro ad ha j u hj
    cases ha
    rw [add_none, Nat.zero_add]
    exact hc j u hj
  · intro u hu
    simp only [Lib.byteCells, List.mem_map] at hu
    obtain ⟨x, _, rfl⟩ := hu
    rfl
  · intro v' w' ho' hg hv
    have hbl : ∀ i, v.ownBlock = some i → B ≤ i := fun i hi => (owns_own ho hi).2.1
    have hBW := Nat.le_trans hB hb.size
    refine k v' w' ?_ ((hb.mono hB).grown hg hBW hbl)
    have e2 : Lib.byteCells (l ++ [a, b, c, d]) = Lib.byteCells l ++ Lib.byteCells [a, b, c, d] := by simp [Lib.byteCells]
    show w'.ownsRow B 5 1 v' (l ++ [a, b, c, d]).length (Lib.byteCells (l ++ [a, b, c, d]))
    rw [List.length_append, e2]
    refine ⟨ho'.1, ho'.2.imp id ?_⟩
    rintro ⟨g, cap, cur, rfl, hb', hr⟩
    exact ⟨g, cap, cur, rfl, (hv g rfl).elim (hbl g) (fun h => Nat.le_trans hBW h), hr⟩
theorem toStrB {B : Nat} {T : TypeId} {v : Value} {l : List UInt8} (ho : OwnB w B v l) (hne : 0 < l.length) (k : K (.string ⟨l.toArray⟩) w) : oM Tryz.prog (.convert 189 9 (.tmp 0)) T [v] K w := by
  obtain ⟨g, cap, cur, rfl, hlt, _, _, _, _, hc⟩ := owns_cells ho hne
  have := run_convert_bytes_back (P := Tryz.prog) w 189 9 5 ⟨g, 0, none⟩ cap l (by kernel_rfl) (by kernel_rfl) (by kernel_rfl) (fun j hj => by
    rw [add_none, Nat.zero_add]
    exact hc j _ (by simp [Lib.byteCells, hj]))
  rw [rM_of (S := convert 189 9 (.slice (some ⟨g, 0, none⟩) l.length cap)) rfl, this]
  exact k
theorem sliceTo64 {T : TypeId} {a : Option Addr} {n c : Nat} (hc : 64 ≤ c) (k : K (.slice a 64 c) w) : oM Tryz.prog (.slice 189 (.tmp 0) none (some (.tmp 1)) none) T [.slice a n c, .int .i64 64] K w :=
  sliceTo_at (by kernel_rfl) (sz := 1) (fun w => by kernel_rfl) 64 hc k
theorem sliceFrom64 {T : TypeId} {g o n c : Nat} (hn : 64 ≤ n) (hc : n ≤ c) (k : ∀ ad, (64 < c → ad = some ⟨g, o + 64, none⟩) → K (.slice ad (n - 64) (c - 64)) w) : oM Tryz.prog (.slice 189 (.tmp 0) (some (.tmp 1)) none none) T [.slice (some ⟨g, o, none⟩) n c, .int .i64 64] K w := by
  have hs : ∀ w, (sizeOf (Tryz.prog.elem 189)).run Tryz.prog w = .ok 1 w := fun w => by kernel_rfl
  rw [oM_sliceFrom, run_sliceAt_slice w 189 _ _ _ _ (by kernel_rfl), run_slice_l w 189 _ n c (by kernel_rfl) .i64 64 (by omega) (by omega), hs]
  simp only [Result.andThen_ok, sliced]
  refine k _ (fun h => ?_)
  rw [if_neg (show ¬ c = (64 : Int).toNat by show ¬ c = 64; omega)]
  rfl
theorem ofStr (l : List UInt8) {T : TypeId} (k : ∀ v w', Buf w v l w' → K v w') : oM Tryz.prog (.convert 9 189 (.tmp 0)) T [.string ⟨l.toArray⟩] K w := by
  refine ofStr_at (e := 5) (by kernel_rfl) (by kernel_rfl) (by kernel_rfl) l (fun v w' hb hg ho hs => k v w' ⟨(Below.refl _ _).grown hg (Nat.le_refl _) (fun i hi => by cases hi), hb, fun i hi => ?_⟩)
  rw [ho] at hi
  cases hi
  exact Nat.le_refl _
theorem mkB1 {T : TypeId} (x : UInt8) (k : ∀ g W, Below w.heap.size w W → W.cell? ⟨g, 0, none⟩ = some (.int .u8 (x.toNat : Int)) → K (.slice (some ⟨g, 0, none⟩) 1 1) W) : oM Tryz.prog (.buildSlice 189 1 #[(0, .tmp 0)]) T [.int .u8 (x.toNat : Int)] K w := by
  rw [oM_buildSlice1]
  have e : (Instr.buildSlice 189 1 #[(0, .int .u8 (x.toNat : Int))]).run Tryz.prog w = .ok (.slice (some ⟨w.heap.size, 0, none⟩) 1 1) (w.alloc (.cells #[.int .u8 (x.toNat : Int)] 5)) := by kernel_rfl
  rw [e]
  refine k _ _ ((Below.refl _ w).alloc (Nat.le_refl _) _) ?_
  have := World.cell?_alloc_at (w := w) #[.int .u8 (x.toNat : Int)] 5 w.heap.size 0 rfl
  rw [this]
  rfl
theorem push {T T' : TypeId} {v : Value} {l : List UInt8} (x : UInt8) {n : Int} (hx : n = (x.toNat : Int)) (h : Buf w0 v l w) (hl : l.length + 1 ≤ 1099511627776) (k : ∀ v' w', Buf w0 v' (l ++ [x]) w' → K v' w') :
    oM Tryz.prog (.buildSlice 189 1 #[(0, .tmp 0)]) T [.int .u8 n] (fun u w => oM Tryz.prog (.call { callee := .builtin .append, args := #[.tmp 0, .tmp 1], argTypes := #[189, 189] }) T' [v, u] K w) w := by
  subst hx
  refine mkB1 x fun g W hb hc => ?_
  have h := h.next hb
  refine pushB_at (e := 5) (i := (Tryz.prog.info? 5).getD default) (by kernel_rfl) (by kernel_rfl) (by kernel_rfl) (by kernel_rfl) (by kernel_rfl) h.row hc hl (fun v' w' hb' hg hv => k v' w' ⟨h.below.grown hg h.below.size h.own, hb', fun i hi => ?_⟩)
  rcases hv with hv | ⟨g', hv, hlt⟩
  · exact h.own i (by rw [← hv]; exact hi)
  · rw [hv] at hi
    cases hi
    exact Nat.le_trans h.below.size hlt
theorem bufByR {g n c : Nat} {l : List UInt8} (h : BufM w 5 (.slice (some ⟨g, 0, none⟩) n c) l) : ByR w g 0 l := by
  obtain ⟨g', cap, cur, fz, hv, hg, hfz, hcs, hlc, hcell⟩ := h
  cases hv
  refine ⟨(Array.getElem?_eq_some_iff.1 hg).1, fun i hi => ?_⟩
  rw [Nat.zero_add, cell_of_block hg, hcell i hi]
  simp [List.getD_eq_getElem?_getD, hi]
theorem bufCap {g n c : Nat} {l : List UInt8} {v : Value} (h : BufM w 5 v l) (e : v = .slice (some ⟨g, 0, none⟩) n c) : l.length ≤ c := by
  obtain ⟨g', cap, cur, fz, hv, hg, hfz, hcs, hlc, hcell⟩ := h
  rw [e] at hv
  cases hv
  exact hlc
theorem ByR.other {b o g : Nat} {l : List UInt8} {w' : World} (h : ByR w b o l) (hg : w.grownBy w' (some g)) (hne : b ≠ g) : ByR w' b o l :=
  ⟨Nat.lt_of_lt_of_le h.1 hg.size, fun i hi => by
    rw [← h.2 i hi]
    unfold World.cell?
    rw [hg.block b h.1 (fun e => hne (by cases e; rfl))]⟩
theorem ByR.part {b o : Nat} {l : List UInt8} (h : ByR w b o l) (i n : Nat) (hn : i + n ≤ l.length) : ByR w b (o + i) ((l.drop i).take n) := by
  refine ⟨h.1, fun j hj => ?_⟩
  have hj' : j < n := by rw [List.length_take, List.length_drop] at hj; omega
  rw [Nat.add_assoc, h.2 (i + j) (by omega)]
  congr 3
  rw [List.getD_eq_getElem?_getD, List.getD_eq_getElem?_getD, List.getElem?_take_of_lt hj', List.getElem?_drop]
def BkJ (w0 : World) (g gb : Nat) (p : List UInt8) (m : Nat) (R : St) (l : List Value) (w' : World) : Prop :=
  ∃ (ad : Option Addr) (c t : Nat) (st : St), l = [.slice ad (64 * (m - t)) c] ∧ t ≤ m ∧ 64 * (m - t) ≤ c ∧ (t < m → ad = some ⟨gb, 64 * t, none⟩) ∧ Below w0.heap.size w0 w' ∧ ByR w' gb 0 p ∧ Holds w' g 207 (ws st.list) ∧ blocks (m - t) st (p.drop (64 * t)) = R
def bkMu (l : List Value) (_ : World) : Nat := match l with | [.slice _ m _] => m | _ => 0
theorem bkMu_eq (m c : Nat) (a : Option Addr) (w : World) : bkMu [.slice a m c] w = m := rfl
def outL (st : St) (i : Nat) : List UInt8 := ((st.list.take i).map out1).flatten
theorem outL_length (st : St) (i : Nat) (hi : i ≤ 8) : (outL st i).length = 4 * i := by
  unfold outL St.list
  rcases i with _ | _ | _ | _ | _ | _ | _ | _ | _ | i
  all_goals first | omega | rfl
theorem out1_eq (x : W) : out1 x = [lo8 (x >>> 24), lo8 (x >>> 16), lo8 (x >>> 8), lo8 x] := by
  simp only [out1, lo8, BitVec.toNat_ushiftRight, Nat.shiftRight_eq_div_pow]
theorem outL_next (st : St) (i : Nat) (hi : i < 8) : outL st (i + 1) = outL st i ++ [lo8 (at' st.list i >>> 24), lo8 (at' st.list i >>> 16), lo8 (at' st.list i >>> 8), lo8 (at' st.list i)] := by
  rw [← out1_eq]
  unfold outL
  have hl : i < st.list.length := hi
  rw [List.take_add_one, List.getElem?_eq_getElem hl, List.map_append, List.flatten_append]
  simp [at', List.getD_eq_getElem?_getD, hl]
def OutJ (w0 : World) (st : St) (l : List Value) (w' : World) : Prop := ∃ (u v : Value) (i : Nat), l = [u, v, .int .i64 (i : Int)] ∧ i ≤ 8 ∧ OwnB w' w0.heap.size v (outL st i) ∧ Below w0.heap.size w0 w'
def outMu (l : List Value) (_ : World) : Nat := match l with | [_, _, .int _ i] => 8 - i.toNat | _ => 0
theorem outMu_eq (a b : Value) (q : IntKind) (i : Int) (w : World) : outMu [a, b, .int q i] w = 8 - i.toNat := rfl
def ZeJ (w0 : World) (s : List UInt8) (l : List Value) (w' : World) : Prop := ∃ v j, l = [v] ∧ j ≤ zeros s.length ∧ Buf w0 v (s ++ [128] ++ List.replicate j 0) w'
theorem sha_len (s : List UInt8) (j : Nat) : (s ++ [(128 : UInt8)] ++ List.replicate j 0).length = s.length + 1 + j := by simp; omega
def zeMu (n : Nat) (l : List Value) (_ : World) : Nat := match l with | [.slice _ m _] => n - m | _ => 0
theorem zeMu_eq (n m c : Nat) (a : Option Addr) (w : World) : zeMu n [.slice a m c] w = n - m := rfl
def LeJ (w0 : World) (s : List UInt8) (l : List Value) (w' : World) : Prop := ∃ (v : Value) (j : Nat), l = [v, .int .i64 (56 - 8 * (j : Int))] ∧ j ≤ 8 ∧ Buf w0 v (s ++ [128] ++ List.replicate (zeros s.length) 0 ++ (lenBytes s.length).take j) w'
def leMu (l : List Value) (_ : World) : Nat := match l with | [_, .int _ i] => (i + 8).toNat | _ => 0
theorem leMu_eq (a : Value) (q : IntKind) (i : Int) (w : World) : leMu [a, .int q i] w = (i + 8).toNat := rfl
theorem lenByte (n j : Nat) (hj : j < 8) (hn : n < 1099511627776) : (IntKind.u8.wrap (8 * (n : Int) / 2 ^ (56 - 8 * (j : Int)).toNat)) = (((lenBytes n).getD j 0).toNat : Int) := by
  have e1 : 8 * (n : Int) = ((8 * n : Nat) : Int) := by omega
  have e2 : (56 - 8 * (j : Int)).toNat = 8 * (7 - j) := by omega
  have e3 : (lenBytes n).getD j 0 = UInt8.ofNat (8 * n / 2 ^ (8 * (7 - j))) := by
    unfold lenBytes
    rcases j with _ | _ | _ | _ | _ | _ | _ | _ | j <;> first | rfl | omega
  rw [e1, e2, e3, IntKind.wrap_u8, UInt8.toNat_ofNat']
  generalize 8 * (7 - j) = q
  have : ((8 * n : Nat) : Int) / 2 ^ q = ((8 * n / 2 ^ q : Nat) : Int) := by
    rw [Int.natCast_ediv, Int.natCast_pow]; rfl
  rw [this]
  omega
theorem take_next (l : List UInt8) (j : Nat) (hj : j < l.length) : l.take (j + 1) = l.take j ++ [l.getD j 0] := by
  rw [List.take_add_one, List.getD_eq_getElem?_getD, List.getElem?_eq_getElem hj]
  rfl
theorem Sha_ok (s : List UInt8) (hs : s.length ≤ 1000000000) (k : ∀ w', Below w.heap.size w w' → K (.string ⟨(sha s).toArray⟩) w') : callM Tryz.prog 171 #[.string ⟨s.toArray⟩] K w := by
  apply sh_171_ok
  unfold sh_171
  refine ofStr s fun v1 w1 h1 => ?_
  refine push 128 rfl h1 (by omega) (fun v2 w2 h2 => ?_)
  refine ⟨ZeJ w s, zeMu (s.length + 1 + zeros s.length), ⟨_, 0, rfl, by omega, by simpa using h2⟩, ?_⟩
  clear h2 w2 v2 h1 w1 v1
  rintro _ _ w1 ⟨v1, j, rfl, hj, h1⟩
  obtain ⟨g1, c1, rfl, hlt1⟩ := h1.row.shape
  have hz : zeros s.length < 64 := by unfold zeros; omega
  by_cases hjz : j < zeros s.length
  · have hm : ¬ ((s.length : Int) + 1 + (j : Int)).tmod 64 = 56 := by
      rw [Int.tmod_eq_emod_of_nonneg (by omega)]; unfold zeros at hjz; omega
    rw [sha_len] at *
    repeat (any_goals (first
    | ((with_reducible refine push 0 rfl h1 (by rw [sha_len]; omega) ?_); intro v2 w2 h2)
    | (with_reducible ((refine idCond ?_); refine yL ?_))
    | ((with_reducible refine idO ?_); (with_reducible refine oM_gen fun Kv hK=>?_); simp [go_sem, hm]; refine hK _ _ ?_; clear hK; clear Kv)))
    have e : s ++ [(128 : UInt8)] ++ List.replicate j 0 ++ [0] = s ++ [128] ++ List.replicate (j + 1) 0 := by
      simp [List.replicate_succ', List.append_assoc]
    rw [e] at h2
    obtain ⟨g2, c2, rfl, hlt2⟩ := h2.row.shape
    refine ⟨⟨_, j + 1, rfl, hjz, h2⟩, ?_⟩
    rw [sha_len]
    simp only [zeMu_eq]; omega
  · obtain rfl : j = zeros s.length := by omega
    have hm : ((s.length : Int) + 1 + (zeros s.length : Int)).tmod 64 = 56 := by
      rw [Int.tmod_eq_emod_of_nonneg (by omega)]; unfold zeros; omega
    rw [sha_len] at *
    repeat (any_goals (first
    | (with_reducible ((refine idCond ?_); refine yM ?_))
    | ((with_reducible refine idO ?_); (with_reducible refine oM_gen fun Kv hK=>?_); simp [go_sem, hm]; refine hK _ _ ?_; clear hK; clear Kv)))
    refine ⟨LeJ w s, leMu, ⟨_, 0, rfl, by omega, by simpa using h1⟩, ?_⟩
    clear h1 hlt1 hm
    rintro _ _ w1 ⟨v1, j, rfl, hj, h1⟩
    have hle : (s ++ [(128 : UInt8)] ++ List.replicate (zeros s.length) 0 ++ (lenBytes s.length).take j).length = s.length + 1 + zeros s.length + j := by
      rw [List.length_append, sha_len, List.length_take, lenBytes_length]; omega
    by_cases hj8 : j < 8
    · have hq : IntKind.u64.wrap (s.length : Int) = (s.length : Int) := wrapU64 _ (by omega) (by omega)
      have hsh := fun t t' T x => oM_shr64 (P := Tryz.prog) t t' T .i64 x (56 - 8 * (j : Int)) (by omega) (by omega)
      repeat (any_goals (first
      | ((with_reducible refine push ((lenBytes s.length).getD j 0) (lenByte _ _ hj8 (by omega)) h1 (by omega) ?_); intro v2 w2 h2)
      | (with_reducible ((refine idCond ?_); refine yN ?_))
      | ((with_reducible refine idO ?_); (with_reducible refine oM_gen fun Kv hK=>?_); simp [go_sem, hq, hsh]; (try simp (disch := omega) only [wrapI64, wrapU8, wrapU32, wrapU64]); refine hK _ _ ?_; clear hK; clear Kv)))
      refine ⟨⟨_, j + 1, by rw [show 56 - 8 * (j : Int) - 8 = 56 - 8 * ((j + 1 : Nat) : Int) by omega], hj8, ?_⟩, ?_⟩
      · rw [take_next _ _ (by rw [lenBytes_length]; exact hj8), ← List.append_assoc]
        exact h2
      · simp only [leMu_eq]; omega
    · obtain rfl : j = 8 := by omega
      rw [List.take_of_length_le (by rw [lenBytes_length]; omega)] at h1 hle
      have hpad : s ++ [(128 : UInt8)] ++ List.replicate (zeros s.length) 0 ++ lenBytes s.length = padded s := rfl
      rw [hpad] at h1 hle
      have hp64 := padded_length s
      obtain ⟨m, hm⟩ : ∃ m, (padded s).length = 64 * m := ⟨(padded s).length / 64, by omega⟩
      repeat (any_goals (first
      | (with_reducible ((refine idCond ?_); refine yM ?_))
      | ((with_reducible refine idO ?_); (with_reducible refine oM_gen fun Kv hK=>?_); simp [go_sem]; refine hK _ _ ?_; clear hK; clear Kv)))
      refine first_ok fun w2 hb2 => ?_
      have h2 := h1.next hb2
      refine arr_alloc al_words fun g w3 hb3 hg3 h3 => ?_
      have h4 := h2.next hb3
      obtain ⟨gb, c, rfl, hlt⟩ := h2.row.shape
      refine arr_store sz_words (xs := ws first.list) rfl rfl (ws_one _) h3 rfl (fun w4 hg4 hh => ?_)
      have zb := h1.below.size
      have hby := (bufByR h4.row).other hg4 (by omega)
      have hbw : Below w.heap.size w w4 := grown_below h4.below hg4 (by have := hb2.size; have := h2.below.size; omega)
      have ef : sha s = ((blocks m first (padded s)).list.map out1).flatten := by
        unfold sha
        rw [hm, Nat.mul_div_cancel_left m (by omega)]
      refine ⟨BkJ w g gb (padded s) m (blocks m first (padded s)), bkMu, ⟨_, _, 0, first, by rw [hm]; rfl, by omega, by have := bufCap h4.row rfl; omega, fun _ => rfl, hbw, hby, hh, rfl⟩, ?_⟩
      have hgw : w.heap.size ≤ g := Nat.le_trans h2.below.size hg3
      have hgb : gb ≠ g := by omega
      clear hh hby hbw hg4 h4 hlt h3 hg3 hb3 h2 hb2 h1 zb w4 w3 w2
      rintro _ _ w2 ⟨ad, c, t, st, rfl, ht, hc, had, hbw, hby, hh, hbl⟩
      by_cases htm : t < m
      · obtain ⟨r, hr⟩ : ∃ r, m - t = r + 1 := ⟨m - t - 1, by omega⟩
        obtain rfl := had htm
        rw [hr] at hbl hc ⊢
        repeat (any_goals (first
        | (with_reducible ((refine idCond ?_); refine yN ?_))
        | ((with_reducible refine idO ?_); (with_reducible refine oM_gen fun Kv hK=>?_); simp [go_sem]; refine hK _ _ ?_; clear hK; clear Kv)))
        refine ⟨Zr (fun w' => w' = { w2 with drawn := w2.drawn + 1 }), fun _ => rfl, ?_⟩
        have hh := hh.next (.drawn (B := w2.heap.size))
        have hby := hby.next (.drawn (B := w2.heap.size))
        have hbw := hbw.on (.drawn (B := w2.heap.size))
        generalize ({ w2 with drawn := w2.drawn + 1 } : World) = w3 at hh hby hbw ⊢
        refine oH_of (v := stV st) ⟨_, rfl⟩ (fun W0 hW0 => by
          obtain rfl := zGet hW0
          exact arr_load hh un_words rfl (by kernel_rfl) ⟨rfl, rfl⟩) ?_
        refine pureH_in ?_
        refine oH_of (v := .slice (some ⟨gb, 64 * t, none⟩) 64 c) ⟨_, rfl⟩ (fun W0 hW0 => sliceTo64 (by omega) ⟨rfl, rfl⟩) ?_
        have hpart := hby.part (64 * t) 64 (by omega)
        rw [Nat.zero_add] at hpart
        refine mix_ok st _ (by rw [List.length_take, List.length_drop]; omega) hpart (fun w4 hb4 => ?_)
        refine ⟨fun h => by omega, ?_⟩
        refine arr_store sz_words (xs := ws (mix st _).list) rfl rfl (ws_one _) (hh.next hb4) rfl (fun w5 hg5 hh5 => ?_)
        refine ⟨fun h => by omega, ?_⟩
        refine sliceFrom64 (by omega) (by omega) (fun ad' had' => ?_)
        have e1 : 64 * (r + 1) - 64 = 64 * (m - (t + 1)) := by omega
        rw [e1]
        refine ⟨⟨ad', c - 64, t + 1, _, rfl, by omega, by omega, fun h => had' (by omega), grown_below (hbw.on hb4) hg5 hgw, (hby.next hb4).other hg5 hgb, hh5, ?_⟩, ?_⟩
        · rw [show m - (t + 1) = r by omega, ← hbl]
          show _ = blocks r (mix st ((List.drop (64 * t) (padded s)).take 64)) ((List.drop (64 * t) (padded s)).drop 64)
          rw [List.drop_drop, show 64 * t + 64 = 64 * (t + 1) by omega]
        · simp only [bkMu_eq]; omega
      · obtain rfl : t = m := by omega
        rw [Nat.sub_self] at hbl ⊢
        repeat (any_goals (first
        | (with_reducible ((refine idCond ?_); refine yM ?_))
        | ((with_reducible refine idO ?_); (with_reducible refine oM_gen fun Kv hK=>?_); simp [go_sem]; refine hK _ _ ?_; clear hK; clear Kv)))
        refine arr_load hh un_words rfl (by kernel_rfl) ?_
        have hst : st = blocks t first (padded s) := hbl
        rw [← hst] at ef
        refine ⟨OutJ w st, outMu, ⟨_, _, 0, rfl, by omega, ⟨rfl, .inl ⟨rfl, rfl⟩⟩, hbw⟩, ?_⟩
        rintro _ _ w3 ⟨u3, v3, i, rfl, hi, ho, hb3⟩
        by_cases hi8 : i < 8
        · have hix := fun T => idx_st T st i hi8
          repeat (any_goals (first
          | ((with_reducible refine pushW _ _ _ _ ho hb3.size (by have := outL_length st i hi; omega) ?_); intro v4 w4 ho4 hb4)
          | (with_reducible ((refine idCond ?_); refine yN ?_))
          | ((with_reducible refine idO ?_); (with_reducible refine oM_gen fun Kv hK=>?_); simp [go_sem, hix, shr24, shr16, shr8, conv_w8]; (try simp (disch := omega) only [wrapI64, wrapU8, wrapU32, wrapU64]); refine hK _ _ ?_; clear hK; clear Kv)))
          rw [← outL_next st i hi8] at ho4
          refine ⟨⟨_, _, i + 1, rfl, hi8, ho4, hb3.trans hb4⟩, ?_⟩
          simp only [outMu_eq]; omega
        · obtain rfl : i = 8 := by omega
          have e8 : outL st 8 = sha s := by rw [ef]; rfl
          repeat (any_goals (first
          | ((with_reducible refine toStrB ho (by rw [outL_length st 8 (by omega)]; omega) ?_))
          | (with_reducible ((refine idCond ?_); refine yM ?_))
          | ((with_reducible refine idO ?_); (with_reducible refine oM_gen fun Kv hK=>?_); simp [go_sem]; refine hK _ _ ?_; clear hK; clear Kv)))
          rw [e8]
          exact k _ hb3
end
end Go.Proofs
namespace Go.Sh
open Go Go.RowKit
abbrev Nx (w w' : World) : Prop := Below w.heap.size w w'
variable {S : World → World → Prop} {A N : (Value → World → Prop) → Prop}
theorem monoE {x : Value} (h : A (fun v _ => v = x)) (n : N (fun v _ => v = x)) : ∃ R : Value → World → Prop, (∀ v w w1, S w w1 → R v w → R v w1) ∧ A R ∧ N R := ⟨_, fun _ _ _ _ h => h, h, n⟩
theorem monoR (R : Value → World → Prop) (hs : ∀ v w w1, S w w1 → R v w → R v w1) (h : A R) (n : N R) : ∃ R : Value → World → Prop, (∀ v w w1, S w w1 → R v w → R v w1) ∧ A R ∧ N R := ⟨R, hs, h, n⟩
end Go.Sh
namespace TkSpec
open FdSpec CodeSpec
def numStep (n : Int) (out : Int) (b : UInt8) : Int := addM n (mulM n out 256) (b.toNat : Int)
def numberM (s : List UInt8) (n : Int) : Int := if okN n then (ShaSpec.sha s).foldl (numStep n) 0 else 0
def innL (t : Tkt) : List Int := [t.mark, t.first, t.z, t.a, t.b]
def innerQ (s : Stp) (t : Tkt) : Int := numberM (encNums (innL t)) s.g.Q
def askTkt (s : Stp) (attrs : List Int) (o : Off) (b : Bld) : Tkt :=
  ⟨powerG s.g (usableM s attrs).1 b.s, (prodG s.g s.bases b.ys).1, powerG s.g o.z b.s, timesM s (powerG s.g o.a b.u) [genM s b.v],
    timesM s (powerG s.g o.b (mulQ s b.s [b.u])) [powerG s.g (powerG s.g (usableM s attrs).1 b.s) b.v], 0⟩
def askFine (s : Stp) (key : Int) (attrs : List Int) (o : Off) (b : Bld) : Bool :=
  (usableM s attrs).2 && keyM s key && elementsM s [o.z, o.a, o.b] && !decide (o.z = 1) && blindsM s b
def askErr (s : Stp) (key : Int) (attrs : List Int) (o : Off) (b : Bld) : Int :=
  if askFine s key attrs o b then (if innerQ s (askTkt s attrs o b) = 0 then 7 else 0) else 1
def askC (s : Stp) (attrs : List Int) (o : Off) (b : Bld) : Int := overQ s (innerQ s (askTkt s attrs o b)) b.u
def askM (s : Stp) (key : Int) (attrs : List Int) (o : Off) (b : Bld) : Int × Int :=
  (if askErr s key attrs o b = 0 then askC s attrs o b else 0, askErr s key attrs o b)
def signedM (s : Stp) (key m c r : Int) (o : Off) : Bool :=
  decide (genM s r = timesM s (powerG s.g key c) [o.a]) && decide (powerG s.g m r = timesM s (powerG s.g o.z c) [o.b])
def zT : Tkt := ⟨0, 0, 0, 0, 0, 0⟩
def finishM (s : Stp) (key : Int) (attrs : List Int) (o : Off) (b : Bld) (r : Int) : Tkt × Int :=
  if askErr s key attrs o b ≠ 0 then (zT, askErr s key attrs o b)
  else if !numsM s 0 [r] then (zT, 1)
  else if !signedM s key (usableM s attrs).1 (askC s attrs o b) r o then (zT, 14)
  else ({ askTkt s attrs o b with r := plusQ s (mulQ s r [b.u]) b.v }, 0)
end TkSpec
namespace Go.Proofs
open Go Go.Sh Go.RowKit FdSpec TkSpec CodeSpec
set_option linter.unusedSimpArgs false
set_option linter.unusedVariables false
set_option maxRecDepth 10000
section
variable {K : Value → World → Prop} {w w0 : World} {L : List (Addr × Value)}
def NuJ (n R : Int) (d : List UInt8) (w0 : World) (l : List Value) (w' : World) : Prop := Below w0.heap.size w0 w' ∧ ∃ (v : Value) (o : Int) (i : Nat), l = [v, .int .i64 o, .int .i64 (i : Int)] ∧ i ≤ d.length ∧ (d.drop i).foldl (numStep n) o = R
theorem Number_ok (s : List UInt8) (n : Int) (hs : s.length ≤ 1000000000) (k : ∀ w', Below w.heap.size w w' → K (.int .i64 (numberM s n)) w') : callM Tryz.prog 130 #[.string ⟨s.toArray⟩, .int .i64 n] K w := by
  apply sh_130_ok
  unfold sh_130
  unfold numberM at k
  refine valid_ok n ?_
  by_cases hn : okN n
  · rw [if_pos hn] at k
    repeat (any_goals (first
    | (with_reducible ((refine idCond ?_); refine yR ?_))
    | ((with_reducible refine idO ?_); (with_reducible refine oM_gen fun Kv hK=>?_); simp [go_sem]; refine hK _ _ ?_; clear hK; clear Kv)))
    refine Sha_ok s hs (fun w1 h1 => ?_)
    have hl := ShaSpec.sha_length s
    generalize ShaSpec.sha s = d at *
    refine ofStr d fun v w2 h2 => ?_
    obtain ⟨g, c, rfl, hlt⟩ := h2.row.shape
    have hby := bufByR h2.row
    have hb := h1.on h2.below
    repeat (any_goals ((with_reducible refine idO ?_); (with_reducible refine oM_gen fun Kv hK=>?_); simp [go_sem]; refine hK _ _ ?_; clear hK; clear Kv))
    refine ⟨NuJ n (d.foldl (numStep n) 0) d w2, vsMu d.length, ⟨Below.refl _ _, _, _, 0, rfl, by omega, rfl⟩, ?_⟩
    rintro _ _ w3 ⟨h3, v, o, i, rfl, hi, hf⟩
    by_cases hin : i < d.length
    · have hc := (hby.next h3).2 i hin
      rw [Nat.zero_add] at hc
      have e1 : d[i]?.getD 0 = d[i] := by simp [hin]
      have hu := (d[i]).toNat_lt
      rw [List.getD_eq_getElem?_getD, e1] at hc
      repeat (any_goals (first
      | (with_reducible ((refine idCond ?_); refine yN ?_))
      | ((with_reducible refine idO ?_); (with_reducible refine oM_gen fun Kv hK=>?_); simp [go_sem, hc]; (first|refine hK _ _ ?_|refine And.intro (by omega) (hK _ _ ?_)); clear hK; clear Kv)))
      refine Mul_ok n o 256 (fun w4 h4 => ?_)
      repeat (any_goals ((with_reducible refine idO ?_); (with_reducible refine oM_gen fun Kv hK=>?_); simp [go_sem]; (try simp (disch := omega) only [wrapI64, wrapU8, wrapU32, wrapU64]); refine hK _ _ ?_; clear hK; clear Kv))
      refine Add_ok n _ _ ?_
      repeat (any_goals ((with_reducible refine idO ?_); (with_reducible refine oM_gen fun Kv hK=>?_); simp [go_sem]; (try simp (disch := omega) only [wrapI64, wrapU8, wrapU32, wrapU64]); refine hK _ _ ?_; clear hK; clear Kv))
      rw [List.drop_eq_getElem_cons hin, List.foldl_cons] at hf
      refine ⟨⟨h3.on h4, _, _, i + 1, rfl, by omega, hf⟩, ?_⟩
      simp only [vsMu_eq]; omega
    · rw [List.drop_of_length_le (by omega), List.foldl_nil] at hf
      repeat (any_goals (first
      | (with_reducible ((refine idCond ?_); refine yO ?_))
      | ((with_reducible refine idO ?_); (with_reducible refine oM_gen fun Kv hK=>?_); simp [go_sem]; refine hK _ _ ?_; clear hK; clear Kv)))
      rw [hf]
      exact k _ (hb.on h3)
  · rw [if_neg hn] at k
    repeat (any_goals (first
    | (with_reducible ((refine idCond ?_); refine yQ ?_))
    | ((with_reducible refine idO ?_); (with_reducible refine oM_gen fun Kv hK=>?_); simp [go_sem]; refine hK _ _ ?_; clear hK; clear Kv)))
    exact k _ (Below.refl _ _)
theorem innL_all {t : Tkt} (h : TktR t) : ∀ n ∈ innL t, I64 n := by
  intro n hn
  simp only [innL, List.mem_cons, List.not_mem_nil, or_false] at hn
  rcases hn with rfl | rfl | rfl | rfl | rfl
  · exact h.mark
  · exact h.first
  · exact h.z
  · exact h.a
  · exact h.b
theorem innL_len {t : Tkt} (h : TktR t) : (encNums (innL t)).length ≤ 200 := by
  have hi := fun n (hn : n ∈ innL t) => Cd.encInt_len n ((InR_iff n).2 (innL_all h n hn))
  have h6 := itoa_len 5 (by unfold InR; omega)
  simp only [encNums, encList, innL, List.map_cons, List.map_nil, List.length_cons, List.length_nil, List.flatten_cons, List.flatten_nil, List.length_append, List.append_nil] at *
  have a1 := hi t.mark (by simp)
  have a2 := hi t.first (by simp)
  have a3 := hi t.z (by simp)
  have a4 := hi t.a (by simp)
  have a5 := hi t.b (by simp)
  have h6' : (Lib.itoa ((0 + 1 + 1 + 1 + 1 + 1 : Nat) : Int)).length ≤ 20 := h6
  omega
theorem inner_ok (s : Stp) (t : Tkt) {v : Value} (ht : TktR t) (hs : SetR w s v) (hl : Cd.Laid w) (k : ∀ w', Below w.heap.size w w' → K (.int .i64 (innerQ s t)) w') : callM Tryz.prog 107 #[stpV s v, tktV t] K w := by
  apply sh_107_ok
  unfold sh_107
  obtain ⟨ad, c, rfl⟩ := hs.ints.isSlice
  refine box_kn (cs := stpC s (.slice ad s.bases.length c)) rfl (.start w) fun b W hk hb1 hb => ?_
  refine box_kn (cs := tktC t) rfl hk fun b2 W2 hk hb2 hbb => ?_
  refine ⟨Kn w _, hk.drew, ?_⟩
  have hk := hk.drew
  repeat (any_goals (first
  | (with_reducible refine And.intro hk ?_)
  | ((with_reducible refine mk5 t.mark t.first t.z t.a t.b ht.mark ht.first ht.z ht.a ht.b ?_); intro v8 W8 hb8 hi)
  | ((with_reducible refine idOH ?_); (with_reducible refine oH_of ⟨_, rfl⟩ (fun W0 hW0 => by (refine oM_gen (fun Kv hK => ?_)); simp [go_sem, hW0.cells]; (first | exact hK _ _ ⟨rfl, rfl⟩ | exact ⟨by omega, hK _ _ ⟨rfl, rfl⟩⟩)) ?_))))
  have hk := hk.next hb8
  refine ⟨hk, ?_⟩
  refine Cd.pNums_ok (innL t) v8 (hl.below hk.below hl.size) (Ints.rowOf hi) (fun x hx => (InR_iff x).2 (innL_all ht x hx)) (by have := innL_len ht; unfold encNums at this; omega) (fun w3 h3 => ?_)
  have hk := hk.next h3
  refine ⟨hk, ?_⟩
  refine Number_ok _ _ (by have := innL_len ht; unfold encNums at this; omega) (fun w4 h4 => ?_)
  have hk := hk.next h4
  exact ⟨hk, hk, k _ hk.below⟩
theorem genM_I64 (s : Stp) (x : Int) : I64 (genM s x) := powerG_I64 _ _ _
structure OffR (o : Off) : Prop where
  z : I64 o.z
  a : I64 o.a
  b : I64 o.b
@[reducible] def offC (o : Off) : List Value := [.int .i64 o.z, .int .i64 o.a, .int .i64 o.b]
theorem signed_ok (s : Stp) (key m c r : Int) (o : Off) {v : Value} (ho : OffR o) (hs : SetR w s v) (k : ∀ w', Below w.heap.size w w' → K (.bool (signedM s key m c r o)) w') :
    callM Tryz.prog 83 #[stpV s v, .int .i64 key, .int .i64 m, .int .i64 c, .int .i64 r, offV o] K w := by
  apply sh_83_ok
  unfold sh_83
  obtain ⟨ad, cc, rfl⟩ := hs.ints.isSlice
  refine box_kn (cs := stpC s (.slice ad s.bases.length cc)) rfl (.start w) fun b W hk hb1 hb => ?_
  refine box_kn (cs := offC o) rfl hk fun b2 W2 hk hb2 hbb => ?_
  have hk := hk.drew
  refine ⟨Nx { W2 with drawn := W2.drawn + 1 }, Below.refl _ _, rfl, ?_⟩
  generalize ({ W2 with drawn := W2.drawn + 1 } : World) = W at hk ⊢
  repeat (any_goals (first
  | (with_reducible refine pureH_in ?_)
  | ((with_reducible refine idOH ?_); (with_reducible refine oH_of ⟨_, rfl⟩ (fun W0 hW0 => by (refine oM_gen (fun Kv hK => ?_)); simp [go_sem, (hk.next hW0).cells]; (first | exact hK _ _ ⟨rfl, rfl⟩ | exact ⟨by omega, hK _ _ ⟨rfl, rfl⟩⟩)) ?_))))
  refine ⟨Nx, ?_⟩
  apply monoE
  · intro w1 h1
    exact generated_ok s r (hs.next (hk.next h1).below) (fun w2 h2 => ⟨h1.on h2, h2, rfl⟩)
  apply monoE
  · intro w1 h1
    exact tpower_ok s key c (hs.next (hk.next h1).below) (fun w2 h2 => ⟨h1.on h2, h2, rfl⟩)
  refine monoR (fun v w' => Ints w' v [o.a]) (fun v w w1 hS h => h.next hS) ?_ ?_
  · intro w1 h1
    exact mk1 o.a ho.a (fun v w2 h2 hi => ⟨h1.on h2, h2, hi⟩)
  apply monoE
  · rintro w1 h1 _ rfl v2 hi
    exact times_ok s _ (hs.next (hk.next h1).below) hi (fun w2 h2 => ⟨h1.on h2, h2, rfl⟩)
  apply monoE
  · rintro w1 h1 _ rfl _ rfl
    repeat (any_goals ((with_reducible refine idO ?_); (with_reducible refine oM_gen fun Kv hK=>?_); simp [go_sem]; refine hK _ _ ?_; clear hK; clear Kv))
    exact ⟨h1, Below.refl _ _, rfl⟩
  unfold signedM at k
  generalize decide (genM s r = timesM s (powerG s.g key c) [o.a]) = p at k ⊢
  cases p
  · repeat (apply monoE; focus (intro w9 h9; (repeat (intro v9 e9; try (obtain rfl := e9))); (repeat (any_goals (with_reducible ((refine idGd ?_); refine zB ?_)))); exact ⟨h9, Below.refl _ _, rfl⟩))
    (intro w9 h9; repeat (intro v9 e9; try (obtain rfl := e9)))
    repeat (any_goals (first
    | (with_reducible refine And.intro h9 ?_)
    | (with_reducible first|((refine idGd ?_); refine zB ?_)|((refine idPick ?_); refine yC ?_))))
    exact k _ (hk.next h9).below
  · repeat (apply monoE; focus (intro w9 h9; (repeat (intro v9 e9; try (obtain rfl := e9))); (repeat (any_goals (first
      | (with_reducible first|refine pureM_in ?_|((refine idGd ?_); refine zA ?_))
      | ((with_reducible refine idO ?_); (with_reducible refine oM_gen fun Kv hK=>?_); simp [go_sem, (hk.next h9).cells]; refine hK _ _ ?_; clear hK; clear Kv)))); exact ⟨h9, Below.refl _ _, rfl⟩))
    apply monoE
    · (intro w9 h9; repeat (intro v9 e9; try (obtain rfl := e9)))
      repeat (any_goals (with_reducible ((refine idGd ?_); refine zA ?_)))
      exact tpower_ok s m r (hs.next (hk.next h9).below) (fun w2 h2 => ⟨h9.on h2, h2, rfl⟩)
    repeat (apply monoE; focus (intro w9 h9; (repeat (intro v9 e9; try (obtain rfl := e9))); (repeat (any_goals (first
      | (with_reducible first|refine pureM_in ?_|((refine idGd ?_); refine zA ?_))
      | ((with_reducible refine idO ?_); (with_reducible refine oM_gen fun Kv hK=>?_); simp [go_sem, (hk.next h9).cells]; refine hK _ _ ?_; clear hK; clear Kv)))); exact ⟨h9, Below.refl _ _, rfl⟩))
    apply monoE
    · (intro w9 h9; repeat (intro v9 e9; try (obtain rfl := e9)))
      repeat (any_goals (with_reducible ((refine idGd ?_); refine zA ?_)))
      exact tpower_ok s o.z c (hs.next (hk.next h9).below) (fun w2 h2 => ⟨h9.on h2, h2, rfl⟩)
    repeat (apply monoE; focus (intro w9 h9; (repeat (intro v9 e9; try (obtain rfl := e9))); (repeat (any_goals (first
      | (with_reducible ((refine idGd ?_); refine zA ?_))
      | ((with_reducible refine idO ?_); (with_reducible refine oM_gen fun Kv hK=>?_); simp [go_sem, (hk.next h9).cells]; refine hK _ _ ?_; clear hK; clear Kv)))); exact ⟨h9, Below.refl _ _, rfl⟩))
    refine monoR (fun v w' => Ints w' v [o.b]) (fun v w w1 hS h => h.next hS) ?_ ?_
    · (intro w9 h9; repeat (intro v9 e9; try (obtain rfl := e9)))
      repeat (any_goals (first
      | ((with_reducible refine mk1 o.b ho.b ?_); intro v2 w2 h2 hi)
      | (with_reducible ((refine idGd ?_); refine zA ?_))))
      exact ⟨h9.on h2, h2, hi⟩
    (intro w9 h9; repeat (intro v9 e9; try (obtain rfl := e9)))
    repeat (any_goals (first
    | (with_reducible refine And.intro h9 ?_)
    | (with_reducible ((refine idGd ?_); refine zA ?_))))
    refine times_ok s _ (hs.next (hk.next h9).below) e9 (fun w2 h2 => ?_)
    have h9 := h9.on h2
    repeat (any_goals (first
    | (with_reducible refine And.intro h9 ?_)
    | (with_reducible first|((refine idGd ?_); refine zA ?_)|((refine idPick ?_); refine yB ?_))
    | ((with_reducible refine idO ?_); (with_reducible refine oM_gen fun Kv hK=>?_); simp [go_sem]; refine hK _ _ ?_; clear hK; clear Kv)))
    exact k _ (hk.next h9).below
end
end Go.Proofs
namespace Go.Proofs
open Go Go.Sh Go.RowKit FdSpec TkSpec CodeSpec
set_option linter.unusedSimpArgs false
set_option linter.unusedVariables false
set_option maxRecDepth 10000
section
variable {K : Value → World → Prop} {w w0 : World} {L : List (Addr × Value)}
@[reducible] def reqC (s : Stp) (v : Value) (m c : Int) (t : Tkt) : List Value := [.int .i64 s.g.P, .int .i64 s.g.Q, .int .i64 s.g.G, v, .int .i64 s.blind, .int .i64 m, .int .i64 c, .int .i64 t.mark, .int .i64 t.first, .int .i64 t.z, .int .i64 t.a, .int .i64 t.b, .int .i64 t.r]
@[reducible] def reqV (s : Stp) (v : Value) (m c : Int) (t : Tkt) : Value := .agg (reqC s v m c t).toArray
@[reducible] def zS : Stp := ⟨⟨0, 0, 0⟩, [], 0⟩
def askV (s : Stp) (v : Value) (key : Int) (attrs : List Int) (o : Off) (b : Bld) : Value :=
  if askErr s key attrs o b = 0 then reqV s v (usableM s attrs).1 (askC s attrs o b) (askTkt s attrs o b) else reqV zS (.slice none 0 0) 0 0 zT
theorem req_one (s : Stp) (ad : Option Addr) (n c' : Nat) (m c : Int) (t : Tkt) : ∀ u ∈ reqC s (.slice ad n c') m c t, u.oneCell' = true := by
  intro u hu
  simp only [reqC, List.mem_cons, List.not_mem_nil, or_false] at hu
  rcases hu with rfl | rfl | rfl | rfl | rfl | rfl | rfl | rfl | rfl | rfl | rfl | rfl | rfl <;> rfl
theorem sz_req (w : World) : (sizeOf 127).run Tryz.prog w = .ok 13 w := by kernel_rfl
theorem al_req (w : World) : (Instr.alloc 127 true (.tuple #[])).run Tryz.prog w = .ok (.pointer (some ⟨w.heap.size, 0, none⟩)) (w.alloc (.cells (reqC zS (.slice none 0 0) 0 0 zT).toArray 127)) := by kernel_rfl
theorem build_req0 (T : TypeId) : oM Tryz.prog (Go.Op.build 127 #[]) T [] = pureM (reqV zS (.slice none 0 0) 0 0 zT) := by
  funext K w
  kernel_rfl
theorem store_req {K : Value → World → Prop} {T' : TypeId} {g : Nat} (s : Stp) (ad : Option Addr) (n c' : Nat) (m c : Int) (t : Tkt) (hk : KnM w0 L g 13 w)
    (k : ∀ W, KnM w0 L g 13 W → cellsAre W (cellsOf [] g 0 (reqC s (.slice ad n c') m c t)) → K undef W) : oM Tryz.prog (.store 127 (.tmp 0) (.tmp 1)) T' [.pointer (some ⟨g, 0, none⟩), reqV s (.slice ad n c') m c t] K w :=
  store_mine sz_req rfl rfl (req_one s ad n c' m c t) hk k
theorem store_req2 {K : Value → World → Prop} {T' : TypeId} {g : Nat} (s : Stp) (ad : Option Addr) (n c' : Nat) (m c : Int) (t : Tkt) (hk : KnM w0 L g 13 w)
    (k : ∀ W, KnM w0 L g 13 W → cellsAre W (cellsOf [] g 0 (reqC s (.slice ad n c') m c t)) → w.grownBy W (some g) → K undef W) : oM Tryz.prog (.store 127 (.tmp 0) (.tmp 1)) T' [.pointer (some ⟨g, 0, none⟩), reqV s (.slice ad n c') m c t] K w := by
  obtain ⟨W, e, hg, hm, hc⟩ := store_run (P := Tryz.prog) (W := w) sz_req (x := reqV s (.slice ad n c') m c t) rfl rfl (req_one s ad n c' m c t) hk.mine
  rw [oM_store, e]
  exact k W ⟨hk.kn.wrote hg hk.base hk.off, hm, hk.base, hk.off⟩ hc hg
theorem build_t3 (T : TypeId) (a b c : Int) : oM Tryz.prog (Go.Op.build 43 #[(0, (.tmp 0)), (1, (.tmp 1)), (2, (.tmp 2))]) T [.int .i64 a, .int .i64 b, .int .i64 c] = pureM (tktV ⟨a, b, c, 0, 0, 0⟩) := by
  funext K w
  kernel_rfl
theorem build_req4 (T : TypeId) (s : Stp) (ad : Option Addr) (n c' : Nat) (m c : Int) (t : Tkt) : oM Tryz.prog (Go.Op.build 127 #[(0, (.tmp 0)), (1, (.tmp 1)), (2, (.tmp 2)), (3, (.tmp 3))]) T [stpV s (.slice ad n c'), .int .i64 m, .int .i64 c, tktV t] = pureM (reqV s (.slice ad n c') m c t) := by
  funext K w
  kernel_rfl
theorem sz_int (w : World) : (sizeOf 3).run Tryz.prog w = .ok 1 w := by kernel_rfl
theorem un_tkt : Tryz.prog.underlying 43 = some ((Tryz.prog.underlying 43).getD default) := by kernel_rfl
theorem prodL_I64 (g : Grp) : ∀ (l : List (Int × Int)) (o : Int), I64 o → I64 (prodL g o l)
  | [], o, h => h
  | (b, e) :: l, o, _ => prodL_I64 g l _ (mulM_I64 _ _ _)
theorem prodG_I64 (g : Grp) (bs es : List Int) : I64 (prodG g bs es).1 := by
  unfold prodG
  split
  · rename_i h
    refine prodL_I64 _ _ _ ?_
    have h1 := Int.emod_nonneg 1 (show g.P ≠ 0 by have := h.1.1; omega)
    have h2 := Int.emod_lt_of_pos 1 (show 0 < g.P by have := h.1.1; omega)
    have h3 := h.1.2
    exact ⟨by omega, by omega⟩
  · exact ⟨by decide, by decide⟩
theorem timesM_I64 (s : Stp) (x y : Int) : I64 (timesM s x [y]) := timesG_I64 _ _ _
theorem askTkt_R (s : Stp) (l : List Int) (o : Off) (b : Bld) : TktR (askTkt s l o b) :=
  ⟨powerG_I64 _ _ _, prodG_I64 _ _ _, powerG_I64 _ _ _, timesM_I64 _ _ _, timesM_I64 _ _ _, ⟨by show _ ≤ (0 : Int); decide, by show (0 : Int) < _; decide⟩⟩
structure TkC (W : World) (g : Nat) (f : Int → Tkt) (w' : World) : Prop where
  nx : Nx W w'
  ex : ∃ a, Holds w' g 43 (tktC (f a))
theorem TkC.next {W w' w2 : World} {g : Nat} {f : Int → Tkt} (h : TkC W g f w') (hb : Below w'.heap.size w' w2) : TkC W g f w2 := ⟨h.1.on hb, h.2.imp fun _ h => h.next hb⟩
theorem TkC.mark {W w' : World} {g : Nat} {f : Int → Tkt} {m : Int} (h : TkC W g f w') (hm : ∀ a, (f a).mark = m := by intro _; rfl) : w'.cell? ⟨g, 0, none⟩ = some (.int .i64 m) := by
  obtain ⟨_, a, h⟩ := h
  rw [h.cell 0 (show 0 < 6 by decide)]
  show some (Value.int .i64 (f a).mark) = _
  rw [hm a]
theorem ask_ok (s : Stp) (key : Int) (o : Off) (b : Bld) {v lv bv : Value} {l : List Int} (hkey : I64 key) (ho : OffR o) (hs : SetR w s v) (hl : Ints w lv l) (hb : BldR w b bv) (hL : Cd.Laid w)
    (k : ∀ w', Below w.heap.size w w' → K (.tuple #[askV s v key l o b, .int .i64 (askErr s key l o b)]) w') :
    callM Tryz.prog 82 #[stpV s v, .int .i64 key, lv, offV o, bldV b bv] K w := by
  apply sh_82_ok
  unfold sh_82
  obtain ⟨ad, cc, rfl⟩ := hs.ints.isSlice
  obtain ⟨yad, yc, rfl⟩ := hb.ys.isSlice
  refine box_kn (cs := stpC s (.slice ad s.bases.length cc)) rfl (.start w) fun b1 W hk hb1 hbb => ?_
  refine box_kn (cs := offC o) rfl hk fun b2 W2 hk hb2 hbb => ?_
  refine box_kn (cs := bldC b (.slice yad b.ys.length yc)) rfl hk fun b3 W3 hk hb3 hbb => ?_
  refine alloc_mine (n := 13) al_req rfl hk fun g W hk hb4 hg => ?_
  have k1 : askErr s key l o b ≠ 0 → ∀ w', Below w.heap.size w w' → K (.tuple #[reqV zS (.slice none 0 0) 0 0 zT, .int .i64 (askErr s key l o b)]) w' := fun he w' hb => by
    have := k w' hb; unfold askV at this; rw [if_neg he] at this; exact this
  have k2 : askErr s key l o b = 0 → ∀ w', Below w.heap.size w w' → K (.tuple #[reqV s (.slice ad s.bases.length cc) (usableM s l).1 (askC s l o b) (askTkt s l o b), .int .i64 0]) w' := fun he w' hb => by
    have := k w' hb; unfold askV at this; rw [if_pos he, he] at this; exact this
  clear k hb1 hb2 hb3 hb4
  have bad : askFine s key l o b = false → ∀ w', Below w.heap.size w w' → K (.tuple #[reqV zS (.slice none 0 0) 0 0 zT, .int .i64 1]) w' := fun h w' hb => by
    have e : askErr s key l o b = 1 := by unfold askErr; rw [h]; rfl
    have := k1 (by rw [e]; decide) w' hb; rw [e] at this; exact this
  repeat (any_goals ((with_reducible refine idO ?_); (with_reducible refine oM_gen fun Kv hK=>?_); simp [go_sem, hk.cells]; refine hK _ _ ?_; clear hK; clear Kv))
  refine usable_ok s (hs.next hk.below) (hl.next hk.below) (fun w2 h2 => ?_)
  have hk := hk.next h2
  clear h2
  cases hu : (usableM s l).2 with
  | false =>
    repeat (any_goals (first
    | ((with_reducible refine local_desk s ad s.bases.length cc hk ?_); intro b7 W7 hk hb7 hg7)
    | (with_reducible first|((refine idGd ?_); refine zD ?_)|((refine idPick ?_); refine yB ?_)|((refine idCond ?_); refine yL ?_))
    | ((with_reducible refine idO ?_); (with_reducible refine oM_gen fun Kv hK=>?_); simp [go_sem, hk.cells, build_req0]; refine hK _ _ ?_; clear hK; clear Kv)))
    exact store_req zS none 0 0 0 0 zT hk (fun W3 hk hc => ⟨_, by simp [go_sem, hc], bad (by unfold askFine; rw [hu]; simp) _ hk.below⟩)
  | true =>
  repeat (any_goals (first
  | ((with_reducible refine local_desk s ad s.bases.length cc hk ?_); intro b7 W7 hk hb7 hg7)
  | (with_reducible first|refine pureM_in ?_|((refine idGd ?_); refine zC ?_))
  | ((with_reducible refine idO ?_); (with_reducible refine oM_gen fun Kv hK=>?_); simp [go_sem, hk.cells]; refine hK _ _ ?_; clear hK; clear Kv)))
  refine key_ok s key hkey (hs.next hk.below) (fun w3 h3 => ?_)
  have hk := hk.next h3
  clear h3
  cases hke : keyM s key with
  | false =>
    repeat (any_goals (first
    | (with_reducible first|((refine idGd ?_); first|refine zC ?_|refine zD ?_)|((refine idPick ?_); first|refine yB ?_|refine yC ?_)|((refine idCond ?_); refine yL ?_))
    | ((with_reducible refine idO ?_); (with_reducible refine oM_gen fun Kv hK=>?_); simp [go_sem, hk.cells, build_req0]; refine hK _ _ ?_; clear hK; clear Kv)))
    exact store_req zS none 0 0 0 0 zT hk (fun W3 hk hc => ⟨_, by simp [go_sem, hc], bad (by unfold askFine; rw [hu, hke]; simp) _ hk.below⟩)
  | true =>
  repeat (any_goals (first
  | ((with_reducible refine mk3 o.z o.a o.b ho.z ho.a ho.b ?_); intro v8 c8 W8 hb8 hi8)
  | (with_reducible first|((refine idGd ?_); refine zC ?_)|((refine idPick ?_); refine yC ?_))
  | ((with_reducible refine idO ?_); (with_reducible refine oM_gen fun Kv hK=>?_); simp [go_sem, hk.cells]; refine hK _ _ ?_; clear hK; clear Kv)))
  have hk := hk.next hb8
  refine elements_ok s (hs.next hk.below) hi8 (fun w4 h4 => ?_)
  have hk := hk.next h4
  clear h4 hb8 hi8
  cases hel : elementsM s [o.z, o.a, o.b] with
  | false =>
    repeat (any_goals (first
    | (with_reducible first|((refine idGd ?_); first|refine zC ?_|refine zD ?_)|((refine idPick ?_); first|refine yB ?_|refine yC ?_)|((refine idCond ?_); refine yL ?_))
    | ((with_reducible refine idO ?_); (with_reducible refine oM_gen fun Kv hK=>?_); simp [go_sem, hk.cells, build_req0]; refine hK _ _ ?_; clear hK; clear Kv)))
    exact store_req zS none 0 0 0 0 zT hk (fun W3 hk hc => ⟨_, by simp [go_sem, hc], bad (by unfold askFine; rw [hu, hke, hel]; simp) _ hk.below⟩)
  | true =>
  by_cases hz1 : o.z = 1
  · repeat (any_goals (first
    | (with_reducible first|((refine idGd ?_); first|refine zC ?_|refine zD ?_)|((refine idPick ?_); first|refine yB ?_|refine yC ?_)|((refine idCond ?_); refine yL ?_))
    | ((with_reducible refine idO ?_); (with_reducible refine oM_gen fun Kv hK=>?_); simp [go_sem, hk.cells, build_req0, hz1]; refine hK _ _ ?_; clear hK; clear Kv)))
    exact store_req zS none 0 0 0 0 zT hk (fun W3 hk hc => ⟨_, by simp [go_sem, hc], bad (by unfold askFine; rw [hu, hke, hel, hz1]; simp) _ hk.below⟩)
  repeat (any_goals (first
  | (with_reducible first|((refine idGd ?_); refine zC ?_)|((refine idPick ?_); refine yC ?_))
  | ((with_reducible refine idO ?_); (with_reducible refine oM_gen fun Kv hK=>?_); simp [go_sem, hk.cells, hz1]; refine hK _ _ ?_; clear hK; clear Kv)))
  refine blinds_ok s b (hs.next hk.below) (hb.next hk.below) (fun w5 h5 => ?_)
  have hk := hk.next h5
  clear h5
  cases hbl : blindsM s b with
  | false =>
    repeat (any_goals (first
    | (with_reducible first|((refine idGd ?_); refine zC ?_)|((refine idPick ?_); refine yC ?_)|((refine idCond ?_); refine yL ?_))
    | ((with_reducible refine idO ?_); (with_reducible refine oM_gen fun Kv hK=>?_); simp [go_sem, hk.cells, build_req0]; refine hK _ _ ?_; clear hK; clear Kv)))
    exact store_req zS none 0 0 0 0 zT hk (fun W3 hk hc => ⟨_, by simp [go_sem, hc], bad (by unfold askFine; rw [hu, hke, hel, hbl]; simp) _ hk.below⟩)
  | true =>
  have fine : askFine s key l o b = true := by unfold askFine; rw [hu, hke, hel, hbl, decide_eq_false hz1]; rfl
  clear bad
  repeat (any_goals (first
  | (with_reducible first|((refine idGd ?_); refine zC ?_)|((refine idPick ?_); refine yC ?_)|((refine idCond ?_); refine yM ?_))
  | ((with_reducible refine idO ?_); (with_reducible refine oM_gen fun Kv hK=>?_); simp [go_sem]; refine hK _ _ ?_; clear hK; clear Kv)))
  have hk := hk.drew
  refine ⟨Nx { w5 with drawn := w5.drawn + 1 }, Below.refl _ _, rfl, ?_⟩
  generalize ({ w5 with drawn := w5.drawn + 1 } : World) = W at hk ⊢
  repeat (any_goals (first
  | (with_reducible refine pureH_in ?_)
  | ((with_reducible refine idOH ?_); (with_reducible refine oH_of ⟨_, rfl⟩ (fun W0 hW0 => by (refine oM_gen (fun Kv hK => ?_)); simp [go_sem, (hk.next hW0).cells]; (first | exact hK _ _ ⟨rfl, rfl⟩ | exact ⟨by omega, hK _ _ ⟨rfl, rfl⟩⟩)) ?_))))
  refine ⟨Nx, ?_⟩
  apply monoE
  · intro w1 h1
    exact tpower_ok s _ b.s (hs.next (hk.next h1).below) (fun w2 h2 => ⟨h1.on h2, h2, rfl⟩)
  apply monoE
  · intro w1 h1
    exact product_t_ok s (hs.next (hk.next h1).below) (hb.ys.next (hk.next h1).below) (fun w2 h2 => ⟨h1.on h2, h2, rfl⟩)
  apply monoE
  · intro w1 h1
    exact tpower_ok s o.z b.s (hs.next (hk.next h1).below) (fun w2 h2 => ⟨h1.on h2, h2, rfl⟩)
  repeat (apply monoE; focus (intro w9 h9; (repeat (intro v9 e9; try (obtain rfl := e9))); (repeat (any_goals ((with_reducible refine idO ?_); (with_reducible refine oM_gen fun Kv hK=>?_); simp [go_sem, build_t3]; refine hK _ _ ?_; clear hK; clear Kv))); exact ⟨h9, Below.refl _ _, rfl⟩))
  refine monoR (fun v w' => ∃ g2, v = ptr g2 0 ∧ W.heap.size ≤ g2 ∧ Holds w' g2 43 (tktC zT)) (fun v w w1 hS h => h.imp fun g2 h => ⟨h.1, h.2.1, h.2.2.next hS⟩) ?_ ?_
  · intro w1 h1
    exact arr_alloc al_tkt (fun g2 w2 h2 hg2 hh => ⟨h1.on h2, h2, g2, rfl, Nat.le_trans h1.size hg2, hh⟩)
  (intro w9 h9; repeat (intro v9 e9; try (obtain rfl := e9)))
  obtain ⟨g2, rfl, hg2, hh⟩ := e9
  have mI := powerG_I64 s.g (usableM s l).1 b.s
  have hW := hk.next (Below.refl W.heap.size W)
  refine arr_store sz_tkt (xs := tktC ⟨powerG s.g (usableM s l).1 b.s, (prodG s.g s.bases b.ys).1, powerG s.g o.z b.s, 0, 0, 0⟩) rfl rfl (tkt_one _) hh rfl (fun w10 hg10 hh => ?_)
  have h10 := grown_below h9 hg10 hg2
  clear hg10 h9
  refine ⟨h10, ?_⟩
  refine ⟨TkC W g2 (fun a => ⟨powerG s.g (usableM s l).1 b.s, (prodG s.g s.bases b.ys).1, powerG s.g o.z b.s, a, 0, 0⟩), ⟨h10.on .drawn, 0, hh.next .drawn⟩, rfl, ?_⟩
  clear hh h10
  repeat (any_goals ((with_reducible refine idOH ?_); (with_reducible refine oH_of ⟨_, rfl⟩ (fun W0 hW0 => by (refine oM_gen (fun Kv hK => ?_)); simp [go_sem, (hk.next hW0.1).cells]; (first | exact hK _ _ ⟨rfl, rfl⟩ | exact ⟨by omega, hK _ _ ⟨rfl, rfl⟩⟩)) ?_)))
  refine ⟨Nx, ?_⟩
  intro w1 h1
  refine tpower_ok s o.a b.u (hs.next (hk.next h1.1).below) (fun w2 h2 => ?_)
  have h1 := h1.next h2
  refine ⟨h1, generated_ok s b.v (hs.next (hk.next h1.1).below) (fun w3 h3 => ?_)⟩
  have h1 := h1.next h3
  refine ⟨h1, mk1 _ (genM_I64 s b.v) (fun v4 w4 h4 hi => ?_)⟩
  have h1 := h1.next h4
  refine ⟨h1, times_ok s _ (hs.next (hk.next h1.1).below) hi (fun w5 h5 => ?_)⟩
  have h1 := h1.next h5
  refine ⟨h1, ?_⟩
  repeat (any_goals ((with_reducible refine idO ?_); (with_reducible refine oM_gen fun Kv hK=>?_); simp [go_sem]; refine hK _ _ ?_; clear hK; clear Kv))
  refine ⟨h1, ?_⟩
  obtain ⟨h1, a0, hh⟩ := h1
  refine arr_set (i := 3) sz_int rfl rfl hh (show 3 < 6 by decide) (fun w10 hg10 hh => ?_)
  have hh : Holds w10 g2 43 (tktC ⟨powerG s.g (usableM s l).1 b.s, (prodG s.g s.bases b.ys).1, powerG s.g o.z b.s, timesM s (powerG s.g o.a b.u) [genM s b.v], 0, 0⟩) := hh
  have h10 := grown_below h1 hg10 hg2
  clear hg10 h1 h2 h3 h4 h5 hi
  refine ⟨⟨h10, _, hh⟩, ?_⟩
  refine ⟨TkC W g2 (fun a => ⟨powerG s.g (usableM s l).1 b.s, (prodG s.g s.bases b.ys).1, powerG s.g o.z b.s, timesM s (powerG s.g o.a b.u) [genM s b.v], a, 0⟩), ⟨h10.on .drawn, 0, hh.next .drawn⟩, rfl, ?_⟩
  clear hh h10
  repeat (any_goals ((with_reducible refine idOH ?_); (with_reducible refine oH_of ⟨_, rfl⟩ (fun W0 hW0 => by (refine oM_gen (fun Kv hK => ?_)); simp [go_sem, (hk.next hW0.1).cells, hW0.mark]; (first | exact hK _ _ ⟨rfl, rfl⟩ | exact ⟨by omega, hK _ _ ⟨rfl, rfl⟩⟩)) ?_)))
  refine ⟨Nx, ?_⟩
  intro w1 h1
  refine mk1 b.u hb.u (fun v4 w4 h4 hi => ?_)
  have h1 := h1.next h4
  refine ⟨h1, mul_ok s b.s (hs.next (hk.next h1.1).below) hi (fun w2 h2 => ?_)⟩
  have h1 := h1.next h2
  refine ⟨h1, tpower_ok s o.b _ (hs.next (hk.next h1.1).below) (fun w3 h3 => ?_)⟩
  have h1 := h1.next h3
  refine ⟨h1, tpower_ok s _ b.v (hs.next (hk.next h1.1).below) (fun w5 h5 => ?_)⟩
  have h1 := h1.next h5
  refine ⟨h1, mk1 _ (powerG_I64 _ _ _) (fun v6 w6 h6 hi6 => ?_)⟩
  have h1 := h1.next h6
  refine ⟨h1, times_ok s _ (hs.next (hk.next h1.1).below) hi6 (fun w7 h7 => ?_)⟩
  have h1 := h1.next h7
  refine ⟨h1, ?_⟩
  repeat (any_goals ((with_reducible refine idO ?_); (with_reducible refine oM_gen fun Kv hK=>?_); simp [go_sem]; refine hK _ _ ?_; clear hK; clear Kv))
  refine ⟨h1, ?_⟩
  obtain ⟨h1, a0, hh⟩ := h1
  refine arr_set (i := 4) sz_int rfl rfl hh (show 4 < 6 by decide) (fun w10 hg10 hh => ?_)
  have hh : Holds w10 g2 43 (tktC (askTkt s l o b)) := hh
  have h10 := grown_below h1 hg10 hg2
  clear hg10 h1 h2 h3 h4 h5 hi h6 h7 hi6
  refine ⟨⟨h10, _, hh⟩, ?_⟩
  have hT := askTkt_R s l o b
  generalize ht : askTkt s l o b = t at *
  have hg2g : g2 ≠ g := by have := mine_lt hk.mine; omega
  have hk := hk.next h10
  have c0 := hh.cell 0 (show 0 < 6 by decide)
  repeat (any_goals (first
  | ((with_reducible refine arr_load hh un_tkt rfl (by kernel_rfl) ?_))
  | ((with_reducible refine idO ?_); (with_reducible refine oM_gen fun Kv hK=>?_); simp [go_sem, hk.cells]; refine hK _ _ ?_; clear hK; clear Kv)))
  refine inner_ok s t hT (hs.next hk.below) (hL.below hk.below hL.size) (fun w11 h11 => ?_)
  have hk := hk.next h11
  have hh := hh.next h11
  by_cases hc0 : innerQ s t = 0
  · have e7 : askErr s key l o b = 7 := by unfold askErr; rw [fine, ht, hc0]; rfl
    have k1 := k1 (by rw [e7]; decide)
    rw [e7] at k1
    repeat (any_goals (first
    | (with_reducible ((refine idCond ?_); refine yL ?_))
    | ((with_reducible refine idO ?_); (with_reducible refine oM_gen fun Kv hK=>?_); simp [go_sem, hk.cells, build_req0, hc0]; refine hK _ _ ?_; clear hK; clear Kv)))
    exact store_req zS none 0 0 0 0 zT hk (fun W3 hk hc => ⟨_, by simp [go_sem, hc], k1 _ hk.below⟩)
  · have e0 : askErr s key l o b = 0 := by unfold askErr; rw [fine, ht, if_neg hc0]; rfl
    have k2 := k2 e0
    have ec : askC s l o b = overQ s (innerQ s t) b.u := by unfold askC; rw [ht]
    rw [ec] at k2
    repeat (any_goals (first
    | (with_reducible ((refine idCond ?_); refine yM ?_))
    | ((with_reducible refine idO ?_); (with_reducible refine oM_gen fun Kv hK=>?_); simp [go_sem, hk.cells, hc0]; refine hK _ _ ?_; clear hK; clear Kv)))
    refine ⟨fun w' => KnM w _ g 13 w' ∧ Holds w' g2 43 (tktC t), ⟨hk.drew, hh.next .drawn⟩, rfl, ?_⟩
    clear hk hh
    repeat (any_goals (first
    | (with_reducible refine pureH_in ?_)
    | ((with_reducible refine idOH ?_); (with_reducible refine oH_of ⟨_, rfl⟩ (fun W0 hW0 => by (refine oM_gen (fun Kv hK => ?_)); simp [go_sem, hW0.1.cells, hW0.2.are]; (first | exact hK _ _ ⟨rfl, rfl⟩ | exact ⟨by omega, hK _ _ ⟨rfl, rfl⟩⟩)) ?_))))
    refine ⟨Nx, ?_⟩
    rintro w1 ⟨hk, hh⟩
    refine over_ok s _ b.u (hs.next hk.below) (fun w2 h2 => ?_)
    have hk := hk.next h2
    have hh := hh.next h2
    refine ⟨⟨hk, hh⟩, ?_⟩
    repeat (any_goals ((with_reducible refine idO ?_); (with_reducible refine oM_gen fun Kv hK=>?_); simp [go_sem, build_req4]; refine hK _ _ ?_; clear hK; clear Kv))
    refine ⟨⟨hk, hh⟩, ?_⟩
    refine store_req2 s ad _ cc _ _ t hk (fun W3 hk hc hg3 => ?_)
    have hh := hh.other hg3 hg2g
    exact ⟨⟨hk, hh⟩, ⟨hk, hh⟩, _, by simp [go_sem, hc], k2 _ hk.below⟩
end
end Go.Proofs
namespace Go.Proofs
open Go Go.Sh Go.RowKit FdSpec TkSpec CodeSpec
set_option linter.unusedSimpArgs false
set_option linter.unusedVariables false
set_option maxRecDepth 10000
section
variable {K : Value → World → Prop} {w w0 : World} {L : List (Addr × Value)}
theorem local_req {K : Value → World → Prop} {T' T2 : TypeId} (s : Stp) (ad : Option Addr) (n c' : Nat) (m c : Int) (t : Tkt) (hk : Kn w0 L w)
    (k : ∀ b W, Kn w0 (cellsOf L b 0 (reqC s (.slice ad n c') m c t)) W → Below w.heap.size w W → w.heap.size ≤ b → K (.pointer (some ⟨b, 0, none⟩)) W) :
    oM Tryz.prog (.alloc 127) T' [] (fun v w => oM Tryz.prog (.store 127 (.tmp 0) (.tmp 1)) T2 [v, reqV s (.slice ad n c') m c t] (fun _ w => K v w) w) w :=
  local_kn al_req rfl sz_req rfl rfl (req_one s ad n c' m c t) hk k
theorem _root_.Go.Sh.KnM.wroteOther {g n g' : Nat} {w' : World} (hk : KnM w0 L g n w) (hg : w.grownBy w' (some g')) (hoff : ∀ p ∈ L, p.1.block ≠ g') (hne : g ≠ g') (hb : w0.heap.size ≤ g') : KnM w0 L g n w' :=
  hk.fr (g' := g') ⟨hg.os, hg.tape, hg.output, hg.size, fun i hi hn => hg.block i hi (fun e => hn (by cases e; rfl))⟩ hoff hne hb
theorem local_reqH {K : Value → World → Prop} {T' T2 : TypeId} (s : Stp) (ad : Option Addr) (n c' : Nat) (m c : Int) (t : Tkt)
    (k : ∀ b W, Holds W b 127 (reqC s (.slice ad n c') m c t) → Below w.heap.size w W → w.heap.size ≤ b → K (.pointer (some ⟨b, 0, none⟩)) W) :
    oM Tryz.prog (.alloc 127) T' [] (fun v w => oM Tryz.prog (.store 127 (.tmp 0) (.tmp 1)) T2 [v, reqV s (.slice ad n c') m c t] (fun _ w => K v w) w) w :=
  arr_alloc al_req fun gq w3 h3 hgq hh => arr_store sz_req (xs := reqC s (.slice ad n c') m c t) rfl rfl (req_one _ _ _ _ _ _ _) hh rfl fun w4 hg4 hh => k gq w4 hh (grown_below h3 hg4 hgq) hgq
theorem Ask_ok (s : Stp) (key : Int) (o : Off) (b : Bld) {v lv bv : Value} {l : List Int} (hkey : I64 key) (ho : OffR o) (hs : SetR w s v) (hl : Ints w lv l) (hb : BldR w b bv) (hL : Cd.Laid w)
    (k : ∀ w', Below w.heap.size w w' → K (.tuple #[.int .i64 (askM s key l o b).1, .int .i64 (askM s key l o b).2]) w') :
    callM Tryz.prog 18 #[stpV s v, .int .i64 key, lv, offV o, bldV b bv] K w := by
  apply sh_18_ok
  unfold sh_18
  obtain ⟨ad, cc, rfl⟩ := hs.ints.isSlice
  obtain ⟨yad, yc, rfl⟩ := hb.ys.isSlice
  refine box_kn (cs := stpC s (.slice ad s.bases.length cc)) rfl (.start w) fun b1 W hk hb1 hbb => ?_
  refine box_kn (cs := offC o) rfl hk fun b2 W2 hk hb2 hbb => ?_
  refine box_kn (cs := bldC b (.slice yad b.ys.length yc)) rfl hk fun b3 W3 hk hb3 hbb => ?_
  unfold askM at k
  repeat (any_goals ((with_reducible refine idO ?_); (with_reducible refine oM_gen fun Kv hK=>?_); simp [go_sem, hk.cells]; refine hK _ _ ?_; clear hK; clear Kv))
  refine ask_ok s key o b hkey ho (hs.next hk.below) (hl.next hk.below) (hb.next hk.below) (hL.below hk.below hL.size) (fun w2 h2 => ?_)
  have hk := hk.next h2
  unfold askV
  by_cases he : askErr s key l o b = 0
  · rw [if_pos he] at k ⊢
    rw [he] at k ⊢
    repeat (any_goals (first
    | ((with_reducible refine local_req s ad _ cc _ _ _ hk ?_); intro b7 W7 hk hb7 hg7)
    | ((with_reducible refine idO ?_); (with_reducible refine oM_gen fun Kv hK=>?_); simp [go_sem, hk.cells]; refine hK _ _ ?_; clear hK; clear Kv)))
    exact k _ hk.below
  · rw [if_neg he] at k ⊢
    repeat (any_goals (first
    | ((with_reducible refine local_req zS none 0 0 0 0 zT hk ?_); intro b7 W7 hk hb7 hg7)
    | ((with_reducible refine idO ?_); (with_reducible refine oM_gen fun Kv hK=>?_); simp [go_sem, hk.cells]; refine hK _ _ ?_; clear hK; clear Kv)))
    exact k _ hk.below
structure RqC (w0 : World) (L : List (Addr × Value)) (g gq : Nat) (s : Stp) (v : Value) (m c : Int) (t : Tkt) (w' : World) : Prop where
  kn : KnM w0 L g 6 w'
  ex : ∃ r, Holds w' gq 127 (reqC s v m c { t with r := r })
theorem RqC.next {w' w2 : World} {g gq : Nat} {s : Stp} {v : Value} {m c : Int} {t : Tkt} (h : RqC w0 L g gq s v m c t w') (hb : Below w'.heap.size w' w2) : RqC w0 L g gq s v m c t w2 := ⟨h.kn.next hb, h.ex.imp fun _ h => h.next hb⟩
theorem RqC.cells {w' : World} {g gq : Nat} {s : Stp} {v : Value} {m c : Int} {t : Tkt} (h : RqC w0 L g gq s v m c t w') : cellsAre w' (cellsOf [] gq 0 (stpC s v)) := by
  obtain ⟨_, r, hh⟩ := h
  have := hh.are
  exact ⟨this.1, this.2.1, this.2.2.1, this.2.2.2.1, this.2.2.2.2.1, trivial⟩
theorem build_tkt0 (T : TypeId) : oM Tryz.prog (Go.Op.build 43 #[]) T [] = pureM (tktV zT) := by
  funext K w
  kernel_rfl
theorem Finish_ok (s : Stp) (key r : Int) (o : Off) (b : Bld) {v lv bv : Value} {l : List Int} (hkey : I64 key) (hr : I64 r) (ho : OffR o) (hs : SetR w s v) (hl : Ints w lv l) (hb : BldR w b bv) (hL : Cd.Laid w)
    (k : ∀ w', Below w.heap.size w w' → K (.tuple #[tktV (finishM s key l o b r).1, .int .i64 (finishM s key l o b r).2]) w') :
    callM Tryz.prog 20 #[stpV s v, .int .i64 key, lv, offV o, bldV b bv, .int .i64 r] K w := by
  apply sh_20_ok
  unfold sh_20
  obtain ⟨ad, cc, rfl⟩ := hs.ints.isSlice
  obtain ⟨yad, yc, rfl⟩ := hb.ys.isSlice
  have k2 : ∀ w' x, finishM s key l o b r = x → Below w.heap.size w w' → K (.tuple #[tktV x.1, .int .i64 x.2]) w' := fun w' x e hb => by rw [← e]; exact k w' hb
  clear k
  refine box_kn (cs := stpC s (.slice ad s.bases.length cc)) rfl (.start w) fun b1 W hk hb1 hbb => ?_
  refine box_kn (cs := offC o) rfl hk fun b2 W2 hk hb2 hbb => ?_
  refine box_kn (cs := bldC b (.slice yad b.ys.length yc)) rfl hk fun b3 W3 hk hb3 hbb => ?_
  refine alloc_mine (n := 6) al_tkt rfl hk fun g W hk hb4 hg => ?_
  clear hb1 hb2 hb3 hb4
  unfold finishM at k2
  repeat (any_goals ((with_reducible refine idO ?_); (with_reducible refine oM_gen fun Kv hK=>?_); simp [go_sem, hk.cells]; refine hK _ _ ?_; clear hK; clear Kv))
  refine ask_ok s key o b hkey ho (hs.next hk.below) (hl.next hk.below) (hb.next hk.below) (hL.below hk.below hL.size) (fun w2 h2 => ?_)
  have hk := hk.next h2
  clear h2
  have hglt := mine_lt hk.mine
  have hcl := cells_lt hk.cells
  have hk0 := hk.below
  unfold askV
  by_cases he : askErr s key l o b = 0
  · rw [if_pos he] at ⊢
    rw [he] at k2 ⊢
    have hR := askTkt_R s l o b
    generalize askTkt s l o b = t at *
    generalize askC s l o b = c at *
    generalize (usableM s l).1 = m at *
    repeat (any_goals (first
    | ((with_reducible refine local_reqH s ad _ cc _ _ _ ?_); intro gq W7 hh hb7 hg7)
    | (with_reducible ((refine idCond ?_); refine yM ?_))
    | ((with_reducible refine idO ?_); (with_reducible refine oM_gen fun Kv hK=>?_); simp [go_sem]; refine hK _ _ ?_; clear hK; clear Kv)))
    have hk := hk.next hb7
    have hgq : gq ≠ g := by omega
    have hoq := fun p hp => Nat.ne_of_lt (Nat.lt_of_lt_of_le (hcl p hp) hg7)
    have hbq : w.heap.size ≤ gq := by have := hk0.size; omega
    clear hb7
    rw [if_neg (by decide)] at k2
    repeat (any_goals (first
    | ((with_reducible refine mk1 r hr ?_); intro v8 W8 hb8 hi)
    | ((with_reducible refine idO ?_); (with_reducible refine oM_gen fun Kv hK=>?_); simp [go_sem, hh.are, hk.cells]; refine hK _ _ ?_; clear hK; clear Kv)))
    have hk := hk.next hb8
    have hh := hh.next hb8
    refine nums_ok s 0 (hs.next hk.below) hi (fun w3 h3 => ?_)
    have hk := hk.next h3
    have hh := hh.next h3
    clear hb8 h3 hi
    cases hn : numsM s 0 [r] with
    | false =>
      rw [hn] at k2
      have k2 := fun w' => k2 w' _ rfl
      repeat (any_goals (first
      | (with_reducible ((refine idCond ?_); refine yL ?_))
      | ((with_reducible refine idO ?_); (with_reducible refine oM_gen fun Kv hK=>?_); simp [go_sem, hk.cells, build_tkt0]; refine hK _ _ ?_; clear hK; clear Kv)))
      exact store_tkt zT hk (fun W3 hk hc => ⟨_, by simp [go_sem, hc], k2 _ hk.below⟩)
    | true =>
    rw [hn, if_neg (by decide)] at k2
    repeat (any_goals (first
    | (with_reducible ((refine idCond ?_); refine yM ?_))
    | ((with_reducible refine idO ?_); (with_reducible refine oM_gen fun Kv hK=>?_); simp [go_sem, hh.are, hk.cells]; refine hK _ _ ?_; clear hK; clear Kv)))
    refine signed_ok s key m c r o ho (hs.next hk.below) (fun w4 h4 => ?_)
    have hk := hk.next h4
    have hh := hh.next h4
    clear h4
    cases hsg : signedM s key m c r o with
    | false =>
      rw [hsg] at k2
      have k2 := fun w' => k2 w' _ rfl
      repeat (any_goals (first
      | (with_reducible ((refine idCond ?_); refine yL ?_))
      | ((with_reducible refine idO ?_); (with_reducible refine oM_gen fun Kv hK=>?_); simp [go_sem, hk.cells, build_tkt0]; refine hK _ _ ?_; clear hK; clear Kv)))
      exact store_tkt zT hk (fun W3 hk hc => ⟨_, by simp [go_sem, hc], k2 _ hk.below⟩)
    | true =>
    rw [hsg, if_neg (by decide)] at k2
    have k2 := fun w' => k2 w' _ rfl
    repeat (any_goals (first
    | (with_reducible ((refine idCond ?_); refine yM ?_))
    | ((with_reducible refine idO ?_); (with_reducible refine oM_gen fun Kv hK=>?_); simp [go_sem]; refine hK _ _ ?_; clear hK; clear Kv)))
    refine ⟨RqC w _ g gq s _ m c t, ⟨hk.drew, t.r, hh.next .drawn⟩, rfl, ?_⟩
    clear hk hh
    repeat (any_goals (first
    | (with_reducible refine pureH_in ?_)
    | ((with_reducible refine idOH ?_); (with_reducible refine oH_of ⟨_, rfl⟩ (fun W0 hW0 => by (refine oM_gen (fun Kv hK => ?_)); simp [go_sem, hW0.cells, hW0.kn.cells]; (first | exact hK _ _ ⟨rfl, rfl⟩ | exact ⟨by omega, hK _ _ ⟨rfl, rfl⟩⟩)) ?_))))
    refine ⟨Nx, ?_⟩
    intro w1 h1
    refine mk1 b.u hb.u (fun v4 w4 h4 hi => ?_)
    have h1 := h1.next h4
    refine ⟨h1, mul_ok s r (hs.next h1.kn.below) hi (fun w5 h5 => ?_)⟩
    have h1 := h1.next h5
    refine ⟨h1, plus_ok s _ b.v (hs.next h1.kn.below) (fun w6 h6 => ?_)⟩
    have h1 := h1.next h6
    refine ⟨h1, ?_⟩
    repeat (any_goals ((with_reducible refine idO ?_); (with_reducible refine oM_gen fun Kv hK=>?_); simp [go_sem]; refine hK _ _ ?_; clear hK; clear Kv))
    refine ⟨h1, ?_⟩
    repeat (any_goals ((with_reducible refine idO ?_); (with_reducible refine oM_gen fun Kv hK=>?_); simp [go_sem]; refine hK _ _ ?_; clear hK; clear Kv))
    refine ⟨h1, ?_⟩
    obtain ⟨hk, r0, hh⟩ := h1
    refine arr_set (i := 12) sz_int rfl rfl hh (show 12 < 13 by decide) (fun w10 hg10 hh => ?_)
    have hk := hk.wroteOther hg10 hoq hgq.symm hbq
    have hh : Holds w10 gq 127 (reqC s (.slice ad s.bases.length cc) m c { t with r := plusQ s (mulQ s r [b.u]) b.v }) := hh
    refine ⟨⟨hk, _, hh⟩, ?_⟩
    repeat (any_goals ((with_reducible refine idO ?_); (with_reducible refine oM_gen fun Kv hK=>?_); simp [go_sem, hh.are]; refine hK _ _ ?_; clear hK; clear Kv))
    exact store_tkt { t with r := plusQ s (mulQ s r [b.u]) b.v } hk (fun W3 hk hc => ⟨_, by simp [go_sem, hc], k2 _ hk.below⟩)
  · rw [if_neg he] at ⊢
    rw [if_pos he] at k2
    have k2 := fun w' => k2 w' _ rfl
    repeat (any_goals (first
    | ((with_reducible refine local_reqH zS none 0 0 0 0 zT ?_); intro gq W7 hh hb7 hg7)
    | (with_reducible ((refine idCond ?_); refine yL ?_))
    | ((with_reducible refine idO ?_); (with_reducible refine oM_gen fun Kv hK=>?_); simp [go_sem, hk.cells, he, build_tkt0]; refine hK _ _ ?_; clear hK; clear Kv)))
    have hk := hk.next hb7
    exact store_tkt zT hk (fun W3 hk hc => ⟨_, by simp [go_sem, hc], k2 _ hk.below⟩)
end
end Go.Proofs
namespace TkSpec
open FdSpec CodeSpec
structure Mir where
  bases : List Int
  blind : Int
structure Ses where
  attrs : List Int
  offer : Off
  c : Int
  r : Int
def badN (g : Grp) (n : Int) : Bool := decide (n < 1) || decide (g.Q ≤ n)
def makeM (g : Grp) (m : Mir) : Stp × Bool :=
  if validG g && decide (2 ≤ m.bases.length) && decide (m.bases.length ≤ 7) && !m.bases.any (badN g) && !badN g m.blind then (⟨g, m.bases.map (powerG g g.G), powerG g g.G m.blind⟩, true)
  else (⟨⟨0, 0, 0⟩, [], 0⟩, false)
def zB : Bld := ⟨0, 0, 0, []⟩
end TkSpec
set_option linter.unusedVariables false
set_option maxRecDepth 100000
namespace Go.Proofs
open Go.Sh
end Go.Proofs
set_option linter.unusedVariables false
set_option maxRecDepth 100000
namespace Go.Proofs
open Go.Sh
def sh_98 (a0 : Value) (K : Value → World → Prop) (w : World) : Prop :=
 oM Tryz.prog (.buildSlice 22 1 #[(0, (.tmp 0))]) 22 [(.int .i64 1)] (fun v3_1 w =>
 oM Tryz.prog (.call (Go.Call.mk (.builtin .append) #[(.tmp 0), (.tmp 1)] #[22, 22])) 22 [v3_1, a0] (fun v5_2 w =>
 K v5_2 w) w) w
theorem sh_98_eq (a0 : Value) (K : Value → World → Prop) (w : World) : sh_98 a0 K w = code Tryz.prog (fun _ => 0) 6 (Tryz.f98.body.getD .skip) (slotsAt [a0]) (retK Tryz.prog [.tmp 2] K) w := by kernel_rfl
theorem sh_98_ok {a0 : Value} {K : Value → World → Prop} {w : World} (h : sh_98 a0 K w) : callM Tryz.prog 98 #[a0] K w :=
  calls_of_code (fun _ => 0) (fn := Tryz.f98) (rs := [.tmp 2]) Tryz.func98 rfl rfl (by kernel_rfl) (Nat.le_of_ble_eq_true rfl) ((sh_98_eq a0 K w).mp h)
end Go.Proofs
set_option linter.unusedVariables false
set_option maxRecDepth 100000
namespace Go.Proofs
open Go.Sh
def sh_69 (a0 : Value) (a1 : Value) (K : Value → World → Prop) (w : World) : Prop :=
 oM Tryz.prog (.box 33 (.tmp 0)) 0 [a0] (fun v2_1 w =>
 oM Tryz.prog (.box 24 (.tmp 0)) 0 [a1] (fun v3_2 w =>
 oM Tryz.prog (.alloc 35) 0 [] (fun v4_3 w =>
 oM Tryz.prog (.makeFunc (Go.Fn.func 139) #[] #[(.tmp 0)]) 122 [v2_1] (fun v10_4 w =>
 oM Tryz.prog (.load 33 (.tmp 0)) 33 [v2_1] (fun v11_5 w =>
 callM Tryz.prog 138 #[v11_5] (fun v12_6 w =>
 oM Tryz.prog (.unOp .not 4 (.tmp 0)) 4 [v12_6] (fun v13_7 w =>
 gdM (gd v13_7 false) (oM Tryz.prog (.fieldAddr 24 (.tmp 0) 0) 0 [v3_2]) (fun v15_8 w =>
 gdM (gd v13_7 false) (oM Tryz.prog (.load 22 (.tmp 0)) 22 [v15_8]) (fun v16_9 w =>
 gdM (gd v13_7 false) (oM Tryz.prog (.call (Go.Call.mk (.builtin .len) #[(.tmp 0)] #[22])) 3 [v16_9]) (fun v17_10 w =>
 gdM (gd v13_7 false) (oM Tryz.prog (.binOp .lss 3 (.tmp 0) (.tmp 1) 3) 4 [v17_10, (.int .i64 2)]) (fun v18_11 w =>
 oM Tryz.prog (.pick (.tmp 0) (.tmp 1) (.tmp 2)) 4 [v13_7, (.bool true), v18_11] (fun v19_12 w =>
 gdM (gd v19_12 false) (oM Tryz.prog (.fieldAddr 24 (.tmp 0) 0) 0 [v3_2]) (fun v21_13 w =>
 gdM (gd v19_12 false) (oM Tryz.prog (.load 22 (.tmp 0)) 22 [v21_13]) (fun v22_14 w =>
 gdM (gd v19_12 false) (oM Tryz.prog (.call (Go.Call.mk (.builtin .len) #[(.tmp 0)] #[22])) 3 [v22_14]) (fun v23_15 w =>
 gdM (gd v19_12 false) (oM Tryz.prog (.binOp .gtr 3 (.tmp 0) (.tmp 1) 3) 4 [v23_15, (.int .i64 7)]) (fun v24_16 w =>
 oM Tryz.prog (.pick (.tmp 0) (.tmp 1) (.tmp 2)) 4 [v19_12, (.bool true), v24_16] (fun v25_17 w =>
 gdM (gd v25_17 false) (oM Tryz.prog (.fieldAddr 24 (.tmp 0) 0) 0 [v3_2]) (fun v27_18 w =>
 gdM (gd v25_17 false) (oM Tryz.prog (.load 22 (.tmp 0)) 22 [v27_18]) (fun v28_19 w =>
 gdM (gd v25_17 false) (pureM v10_4) (fun v29_20 w =>
 gdM (gd v25_17 false) (callM Tryz.prog 113 #[v28_19, v29_20]) (fun v30_21 w =>
 oM Tryz.prog (.pick (.tmp 0) (.tmp 1) (.tmp 2)) 4 [v25_17, (.bool true), v30_21] (fun v31_22 w =>
 gdM (gd v31_22 false) (pureM v10_4) (fun v33_23 w =>
 gdM (gd v31_22 false) (oM Tryz.prog (.fieldAddr 24 (.tmp 0) 1) 0 [v3_2]) (fun v34_24 w =>
 gdM (gd v31_22 false) (oM Tryz.prog (.load 3 (.tmp 0)) 3 [v34_24]) (fun v35_25 w =>
 gdM (gd v31_22 false) (oM Tryz.prog (.call (Go.Call.mk (.value (.tmp 0)) #[(.tmp 1)] #[3])) 4 [v33_23, v35_25]) (fun v36_26 w =>
 oM Tryz.prog (.pick (.tmp 0) (.tmp 1) (.tmp 2)) 4 [v31_22, (.bool true), v36_26] (fun v37_27 w =>
 condM v37_27
 (oM Tryz.prog (.build 35 #[]) 35 [] (fun v38_28 w =>
 oM Tryz.prog (.store 35 (.tmp 0) (.tmp 1)) 0 [v4_3, v38_28] (fun _ w =>
 ∃ r_29, (do loadVar 35 (← asAddr v4_3) : Sem Value).run Tryz.prog w = .ok r_29 w ∧ K (.tuple #[r_29, (.bool false)]) w) w) w)
 (heldM w (fun C_30 w => (((true : Bool) = true) ∧ (oH Tryz.prog (.load 33 (.tmp 0)) 33 [v2_1] C_30 (fun v39_31 =>
 oH Tryz.prog (.load 33 (.tmp 0)) 33 [v2_1] C_30 (fun v40_32 =>
 oH Tryz.prog (.fieldAddr 33 (.tmp 0) 2) 0 [v2_1] C_30 (fun v41_33 =>
 oH Tryz.prog (.load 3 (.tmp 0)) 3 [v41_33] C_30 (fun v42_34 =>
 oH Tryz.prog (.fieldAddr 24 (.tmp 0) 1) 0 [v3_2] C_30 (fun v43_35 =>
 oH Tryz.prog (.load 3 (.tmp 0)) 3 [v43_35] C_30 (fun v44_36 =>
 ∃ S_37 : World → World → Prop, ∃ R_38 : Value → World → Prop, (∀ v w w_1, S_37 w w_1 → R_38 v w → R_38 v w_1) ∧
 (∀ w, C_30 w → (callM Tryz.prog 37 #[v40_32, v42_34, v44_36] (fun v w_1 => C_30 w_1 ∧ S_37 w w_1 ∧ R_38 v w_1) w)) ∧
 (∃ R_39 : Value → World → Prop, (∀ v w w_1, S_37 w w_1 → R_39 v w → R_39 v w_1) ∧
 (∀ w, C_30 w → ∀ v45_40, R_38 v45_40 w → (oM Tryz.prog (.build 35 #[(0, (.tmp 0)), (2, (.tmp 1))]) 35 [v39_31, v45_40] (fun v w_1 => C_30 w_1 ∧ S_37 w w_1 ∧ R_39 v w_1) w)) ∧
 (∃ R_41 : Value → World → Prop, (∀ v w w_1, S_37 w w_1 → R_41 v w → R_41 v w_1) ∧
 (∀ w, C_30 w → (oM Tryz.prog (.alloc 35) 0 [] (fun v w_1 => C_30 w_1 ∧ S_37 w w_1 ∧ R_41 v w_1) w)) ∧
 (∀ w, C_30 w → ∀ v45_42, R_38 v45_42 w → ∀ v46_43, R_39 v46_43 w → ∀ v7_44, R_41 v7_44 w → (
 oM Tryz.prog (.store 35 (.tmp 0) (.tmp 1)) 0 [v7_44, v46_43] (fun _ w =>
 oM Tryz.prog (.fieldAddr 24 (.tmp 0) 0) 0 [v3_2] (fun v47_45 w =>
 oM Tryz.prog (.load 22 (.tmp 0)) 22 [v47_45] (fun v48_46 w =>
 oM Tryz.prog (.call (Go.Call.mk (.builtin .len) #[(.tmp 0)] #[22])) 3 [v48_46] (fun v49_47 w =>
 loopM [undef, (.int .i64 0)] w (fun J_48 m_49 l_50 u_l_50 w0_l_50 => (fun w => (
 oM Tryz.prog (.binOp .lss 3 (.tmp 0) (.tmp 1) 3) 0 [(l_50.getD 1 undef), v49_47] (fun v51_51 w =>
 condM v51_51
 (oM Tryz.prog (.indexAddr 22 (.tmp 0) (.tmp 1)) 0 [v48_46, (l_50.getD 1 undef)] (fun v52_52 w =>
 oM Tryz.prog (.load 3 (.tmp 0)) 3 [v52_52] (fun v53_53 w =>
 heldM w (fun C_54 w => (((true : Bool) = true) ∧ (oH Tryz.prog (.fieldAddr 35 (.tmp 0) 1) 0 [v7_44] C_54 (fun v54_55 =>
 oH Tryz.prog (.load 22 (.tmp 0)) 22 [v54_55] C_54 (fun v55_56 =>
 oH Tryz.prog (.load 33 (.tmp 0)) 33 [v2_1] C_54 (fun v56_57 =>
 oH Tryz.prog (.fieldAddr 33 (.tmp 0) 2) 0 [v2_1] C_54 (fun v57_58 =>
 oH Tryz.prog (.load 3 (.tmp 0)) 3 [v57_58] C_54 (fun v58_59 =>
 pureH v53_53 C_54 (fun v59_60 =>
 ∃ S_61 : World → World → Prop, ∃ R_62 : Value → World → Prop, (∀ v w w_1, S_61 w w_1 → R_62 v w → R_62 v w_1) ∧
 (∀ w, C_54 w → (callM Tryz.prog 37 #[v56_57, v58_59, v59_60] (fun v w_1 => C_54 w_1 ∧ S_61 w w_1 ∧ R_62 v w_1) w)) ∧
 (∃ R_63 : Value → World → Prop, (∀ v w w_1, S_61 w w_1 → R_63 v w → R_63 v w_1) ∧
 (∀ w, C_54 w → ∀ v60_64, R_62 v60_64 w → (oM Tryz.prog (.buildSlice 22 1 #[(0, (.tmp 0))]) 22 [v60_64] (fun v w_1 => C_54 w_1 ∧ S_61 w w_1 ∧ R_63 v w_1) w)) ∧
 (∀ w, C_54 w → ∀ v60_65, R_62 v60_65 w → ∀ v61_66, R_63 v61_66 w → (
 oM Tryz.prog (.call (Go.Call.mk (.builtin .append) #[(.tmp 0), (.tmp 1)] #[22, 22])) 22 [v55_56, v61_66] (fun v62_67 w =>
 oM Tryz.prog (.fieldAddr 35 (.tmp 0) 1) 0 [v7_44] (fun v63_68 w =>
 oM Tryz.prog (.store 22 (.tmp 0) (.tmp 1)) 0 [v63_68, v62_67] (fun _ w =>
 oM Tryz.prog (.binOp .add 3 (.tmp 0) (.tmp 1) 3) 3 [(l_50.getD 1 undef), (.int .i64 1)] (fun v64_69 w =>
 J_48 [v53_53, v64_69] w ∧ m_49 [v53_53, v64_69] w < m_49 l_50 w0_l_50) w) w) w) w))))))))))))) w) w)
 (oM Tryz.prog (.load 35 (.tmp 0)) 35 [v7_44] (fun v65_70 w =>
 oM Tryz.prog (.store 35 (.tmp 0) (.tmp 1)) 0 [v4_3, v65_70] (fun _ w =>
 ∃ r_71, (do loadVar 35 (← asAddr v4_3) : Sem Value).run Tryz.prog w = .ok r_71 w ∧ K (.tuple #[r_71, (.bool true)]) w) w) w)) w)) w0_l_50)) w) w) w) w))))))))))))))) w) w) w) w) w) w) w) w) w) w) w) w) w) w) w) w) w) w) w) w) w) w) w) w) w) w) w
theorem sh_69_eq (a0 : Value) (a1 : Value) (K : Value → World → Prop) (w : World) : sh_69 a0 a1 K w = code Tryz.prog (fun i => bif Nat.beq i 4 then .free [0, 1, 2, 3, 4, 5] [6, 7, 8] [9] else bif Nat.beq i 8 then .free [0, 1, 2, 3, 4, 5] [6, 7] [8, 9, 10] else 0) 66 (Tryz.f69.body.getD .skip) (slotsAt [a0, a1]) (retK Tryz.prog [.cell 4 35, .tmp 5] K) w := by kernel_rfl
theorem sh_69_ok {a0 a1 : Value} {K : Value → World → Prop} {w : World} (h : sh_69 a0 a1 K w) : callM Tryz.prog 69 #[a0, a1] K w :=
  calls_of_code (fun i => bif Nat.beq i 4 then .free [0, 1, 2, 3, 4, 5] [6, 7, 8] [9] else bif Nat.beq i 8 then .free [0, 1, 2, 3, 4, 5] [6, 7] [8, 9, 10] else 0) (fn := Tryz.f69) (rs := [.cell 4 35, .tmp 5]) Tryz.func69 rfl rfl (by kernel_rfl) (Nat.le_of_ble_eq_true rfl) ((sh_69_eq a0 a1 K w).mp h)
def sh_139 (a0 : Value) (a1 : Value) (K : Value → World → Prop) (w : World) : Prop :=
 oM Tryz.prog (.binOp .lss 3 (.tmp 0) (.tmp 1) 3) 4 [a0, (.int .i64 1)] (fun v5_1 w =>
 gdM (gd v5_1 false) (pureM a0) (fun v7_2 w =>
 gdM (gd v5_1 false) (oM Tryz.prog (.fieldAddr 33 (.tmp 0) 1) 0 [a1]) (fun v8_3 w =>
 gdM (gd v5_1 false) (oM Tryz.prog (.load 3 (.tmp 0)) 3 [v8_3]) (fun v9_4 w =>
 gdM (gd v5_1 false) (oM Tryz.prog (.binOp .geq 3 (.tmp 0) (.tmp 1) 3) 4 [v7_2, v9_4]) (fun v10_5 w =>
 oM Tryz.prog (.pick (.tmp 0) (.tmp 1) (.tmp 2)) 4 [v5_1, (.bool true), v10_5] (fun v11_6 w =>
 K v11_6 w) w) w) w) w) w) w
theorem sh_139_eq (a0 : Value) (a1 : Value) (K : Value → World → Prop) (w : World) : sh_139 a0 a1 K w = code Tryz.prog (fun _ => 0) 12 (Tryz.f139.body.getD .skip) (slotsAt [a0, a1]) (retK Tryz.prog [.tmp 3] K) w := by kernel_rfl
theorem sh_139_ok {a0 a1 : Value} {K : Value → World → Prop} {w : World} (h : sh_139 a0 a1 K w) : callM Tryz.prog 139 #[a0, a1] K w :=
  calls_of_code (fun _ => 0) (fn := Tryz.f139) (rs := [.tmp 3]) Tryz.func139 rfl rfl (by kernel_rfl) (Nat.le_of_ble_eq_true rfl) ((sh_139_eq a0 a1 K w).mp h)
end Go.Proofs
namespace Go.Proofs.Cd
open Go Go.Sh Go.RowKit Go.Lib CodeSpec
set_option linter.unusedSimpArgs false
set_option linter.unusedVariables false
set_option maxRecDepth 100000
end Go.Proofs.Cd
namespace Go.Proofs
open Go Go.Sh Go.RowKit FdSpec TkSpec CodeSpec
set_option linter.unusedSimpArgs false
set_option linter.unusedVariables false
set_option maxRecDepth 10000
section
variable {K : Value → World → Prop} {w w0 : World} {L : List (Addr × Value)}
end
end Go.Proofs
namespace Go.Proofs
open Go Go.Sh Go.RowKit FdSpec TkSpec CodeSpec
set_option linter.unusedSimpArgs false
set_option linter.unusedVariables false
set_option maxRecDepth 10000
section
variable {K : Value → World → Prop} {w w0 : World} {L : List (Addr × Value)}
end
end Go.Proofs
namespace Go.Proofs
open Go Go.Sh Go.RowKit FdSpec TkSpec CodeSpec
set_option linter.unusedSimpArgs false
set_option linter.unusedVariables false
set_option maxRecDepth 10000
section
variable {K : Value → World → Prop} {w w0 : World} {L : List (Addr × Value)}
structure GrI (Wl w : World) (g : Nat) (T : TypeId) (cs : List Value) (ov : Value) (l : List Int) : Prop where
  lt : g < Wl.heap.size
  fr : FrG g Wl w
  own : OwnI w Wl.heap.size ov l
  holds : Holds w g T cs
theorem GrI.next {Wl w1 : World} {g : Nat} {T : TypeId} {cs : List Value} {ov : Value} {l : List Int} (h : GrI Wl w g T cs ov l) (hb : Below w.heap.size w w1) : GrI Wl w1 g T cs ov l :=
  ⟨h.lt, h.fr.next hb, h.own.keep hb, h.holds.next hb⟩
theorem GrI.start {g : Nat} {T : TypeId} {cs : List Value} (hg : g < w.heap.size) (hh : Holds w g T cs) : GrI w w g T cs (.slice none 0 0) [] := ⟨hg, Fr.refl _ _, World.ownsRow_nil _ _ _ _, hh⟩
theorem gr_append {Wl : World} {g : Nat} {T T3 : TypeId} {cs : List Value} {ov xv : Value} {l : List Int} {x : Int} (h : GrI Wl w g T cs ov l) (hx : Ints w xv [x]) (hl : l.length < 1099511627776)
    (k : ∀ ad n c w', GrI Wl w' g T cs (.slice ad n c) (l ++ [x]) → K (.slice ad n c) w') : oM Tryz.prog (.call { callee := .builtin .append, args := #[.tmp 0, .tmp 1], argTypes := #[22, 22] }) T3 [ov, xv] K w := by
  refine append1 h.own h.fr.size hx hl (fun v w' ho hb => ?_)
  obtain ⟨ad, c, rfl⟩ := owns_len ho
  have hlt := h.lt
  refine k _ _ _ _ ⟨h.lt, h.fr.trans (S' := fun i => Wl.heap.size ≤ i) ⟨hb.os, hb.tape, hb.output, hb.size, fun i hi hn => hb.block i (by omega)⟩ (fun i h => .inr h), ho, ?_⟩
  have := h.holds
  unfold Holds at this ⊢
  rw [hb.block g hlt]
  exact this
theorem gr_store {Wl : World} {g i : Nat} {T T3 : TypeId} {cs : List Value} {l : List Int} {ad : Option Addr} {n c : Nat} (h : GrI Wl w g T cs (.slice ad n c) l) (hi : i < cs.length)
    (k : ∀ w', GrI Wl w' g T (cs.set i (.slice ad n c)) (.slice ad n c) l → K undef w') : oM Tryz.prog (.store 22 (.tmp 0) (.tmp 1)) T3 [ptr g i, .slice ad n c] K w := by
  refine arr_set sz_ints rfl rfl h.holds hi (fun w' hg hh => ?_)
  have hlt := h.lt
  exact k _ ⟨h.lt, h.fr.by hg (fun i e => .inl (Option.some.inj e).symm), owns_keep h.own (fun j hj => hg.block j (owns_own h.own hj).1 (fun e => by have := (owns_own h.own hj).2.1; have := Option.some.inj e; omega)), hh⟩
def GrJ (Wl : World) (g : Nat) (T : TypeId) (cs : Value → List Value) (al : List Int) (vs : List Value) (w' : World) : Prop := ∃ (v ov : Value) (i : Nat), vs = [v, .int .i64 (i : Int)] ∧ i ≤ al.length ∧ GrI Wl w' g T (cs ov) ov (al.take i)
def grMu (n : Nat) (l : List Value) (_ : World) : Nat := match l with | [_, .int _ i] => n - i.toNat | _ => 0
theorem grMu_eq (n : Nat) (u : Value) (k : IntKind) (i : Int) (w : World) : grMu n [u, .int k i] w = n - i.toNat := rfl
theorem take_snoc {al : List Int} {i : Nat} (h : i < al.length) : al.take i ++ [al[i]] = al.take (i + 1) := by
  rw [List.take_add_one, List.getElem?_eq_getElem h]; rfl
@[reducible] def mirV (m : Mir) (v : Value) : Value := .agg #[v, .int .i64 m.blind]
@[reducible] def mirC (m : Mir) (v : Value) : List Value := [v, .int .i64 m.blind]
structure MirR (w : World) (m : Mir) (v : Value) : Prop where
  ints : Ints w v m.bases
  blind : I64 m.blind
theorem MirR.next {w1 : World} {m : Mir} {v : Value} (h : MirR w m v) (hb : Below w.heap.size w w1) : MirR w1 m v := ⟨h.ints.next hb, h.blind⟩
theorem bad_ok (g : Grp) (x : Int) {b : Nat} (h1 : w.cell? ⟨b, 1, none⟩ = some (.int .i64 g.Q)) (k : ∀ w', Below w.heap.size w w' → K (.bool (badN g x)) w') : callM Tryz.prog 139 #[.int .i64 x, .pointer (some ⟨b, 0, none⟩)] K w := by
  apply sh_139_ok
  unfold sh_139
  have k := k w (Below.refl _ _)
  unfold badN at k
  by_cases h0 : x < 1
  · rw [decide_eq_true h0, Bool.true_or] at k
    repeat (any_goals (first
    | (with_reducible first|((refine idGd ?_); refine zD ?_)|((refine idPick ?_); refine yB ?_))
    | ((with_reducible refine idO ?_); (with_reducible refine oM_gen fun Kv hK=>?_); simp [go_sem, h1, h0]; refine hK _ _ ?_; clear hK; clear Kv)))
    exact k
  · rw [decide_eq_false h0, Bool.false_or] at k
    repeat (any_goals (first
    | (with_reducible first|refine pureM_in ?_|((refine idGd ?_); refine zC ?_)|((refine idPick ?_); refine yC ?_))
    | ((with_reducible refine idO ?_); (with_reducible refine oM_gen fun Kv hK=>?_); simp [go_sem, h1, h0]; refine hK _ _ ?_; clear hK; clear Kv)))
    by_cases h2 : g.Q ≤ x
    · simpa [h2] using k
    · simpa [h2] using k
theorem makeM_no {g : Grp} {m : Mir} (h : validG g = false ∨ m.bases.length < 2 ∨ 7 < m.bases.length ∨ m.bases.any (badN g) = true ∨ badN g m.blind = true) : makeM g m = (⟨⟨0, 0, 0⟩, [], 0⟩, false) := by
  unfold makeM
  rw [if_neg]
  rcases h with h | h | h | h | h <;> simp [h] <;> omega
end
end Go.Proofs
namespace Go.Proofs
open Go Go.Sh Go.RowKit FdSpec TkSpec CodeSpec
set_option linter.unusedSimpArgs false
set_option linter.unusedVariables false
set_option maxRecDepth 10000
section
variable {K : Value → World → Prop} {w w0 : World} {L : List (Addr × Value)}
theorem build_stp2 (T : TypeId) (g : Grp) (b : Int) : oM Tryz.prog (Go.Op.build 35 #[(0, (.tmp 0)), (2, (.tmp 1))]) T [grpV g, .int .i64 b] = pureM (stpV ⟨g, [], b⟩ (.slice none 0 0)) := by
  funext K w
  kernel_rfl
theorem store_stp {K : Value → World → Prop} {T' : TypeId} {g : Nat} (s : Stp) (ad : Option Addr) (n c : Nat) (hk : KnM w0 L g 5 w)
    (k : ∀ W, KnM w0 L g 5 W → cellsAre W (cellsOf [] g 0 (stpC s (.slice ad n c))) → w.grownBy W (some g) → K undef W) : oM Tryz.prog (.store 35 (.tmp 0) (.tmp 1)) T' [.pointer (some ⟨g, 0, none⟩), stpV s (.slice ad n c)] K w := by
  obtain ⟨W, e, hg, hm, hc⟩ := store_run (P := Tryz.prog) (W := w) sz_stp (x := stpV s (.slice ad n c)) rfl rfl (stp_one s ad n c) hk.mine
  rw [oM_store, e]
  exact k W ⟨hk.kn.wrote hg hk.base hk.off, hm, hk.base, hk.off⟩ hc hg
theorem zS_R {v : Value} (hT : DbT w) (hi : Ints w v []) : SetR w zS v := ⟨⟨by constructor <;> decide, by constructor <;> decide, by constructor <;> decide⟩, hi, by constructor <;> decide, hT⟩
theorem Make_ok (g : Grp) (m : Mir) {mv : Value} (hg : GrpR g) (hT : DbT w) (hm : MirR w m mv)
    (k : ∀ w' sv, Below w.heap.size w w' → SetR w' (makeM g m).1 sv → (∀ i, Value.inBlock sv = some i → w.heap.size ≤ i) → K (.tuple #[stpV (makeM g m).1 sv, .bool (makeM g m).2]) w') : callM Tryz.prog 69 #[grpV g, mirV m mv] K w := by
  apply sh_69_ok
  unfold sh_69
  have hms := hm.ints
  obtain ⟨ad, c, rfl⟩ := hm.ints.isSlice
  have k2 : ∀ w' sv r, makeM g m = r → Below w.heap.size w w' → SetR w' r.1 sv → (∀ i, Value.inBlock sv = some i → w.heap.size ≤ i) → K (.tuple #[stpV r.1 sv, .bool r.2]) w' := fun w' sv r e hb hi hf => by
    rw [← e] at hi ⊢
    exact k w' sv hb hi hf
  clear k
  have hno := makeM_no (g := g) (m := m)
  have hml := hms.len
  refine box_kn (cs := [.int .i64 g.P, .int .i64 g.Q, .int .i64 g.G]) rfl (.start w) fun b1 W hk hb1 hbb => ?_
  refine box_kn (cs := mirC m (.slice ad m.bases.length c)) rfl hk fun b2 W2 hk hb2 hbb => ?_
  refine alloc_mine (n := 5) al_stp rfl hk fun g0 W3 hk hb3 hg0 => ?_
  clear hb1 hb2 hb3
  have bad : makeM g m = (⟨⟨0, 0, 0⟩, [], 0⟩, false) → ∀ w2 (hk : KnM w (cellsOf (cellsOf [] b1 0 [.int .i64 g.P, .int .i64 g.Q, .int .i64 g.G]) b2 0 (mirC m (.slice ad m.bases.length c))) g0 5 w2),
      oM Tryz.prog (Go.Op.store 35 (.tmp 0) (.tmp 1)) 0 [.pointer (some ⟨g0, 0, none⟩), stpV zS (.slice none 0 0)] (fun _ w =>
        ∃ r_29, (do loadVar 35 (← asAddr (.pointer (some ⟨g0, 0, none⟩))) : Sem Value).run Tryz.prog w = .ok r_29 w ∧ K (.tuple #[r_29, (.bool false)]) w) w2 := fun e w2 hk =>
    store_stp zS none 0 0 hk (fun W3 hk hc _ => ⟨_, by simp [go_sem, hc], k2 _ _ _ e hk.below (zS_R (hT.next hk.below) (Ints.nil _)) (fun i h => by cases h)⟩)
  repeat (any_goals ((with_reducible refine idO ?_); (with_reducible refine oM_gen fun Kv hK=>?_); simp [go_sem, hk.cells]; refine hK _ _ ?_; clear hK; clear Kv))
  refine ValidGroup_ok g hg (hT.next hk.below) (fun w2 h2 => ?_)
  have hk := hk.next h2
  clear h2
  cases hv : validG g with
  | false =>
    repeat (any_goals (first
    | (with_reducible first|((refine idGd ?_); refine zD ?_)|((refine idPick ?_); refine yB ?_)|((refine idCond ?_); refine yL ?_))
    | ((with_reducible refine idO ?_); (with_reducible refine oM_gen fun Kv hK=>?_); simp [go_sem, hk.cells]; refine hK _ _ ?_; clear hK; clear Kv)))
    exact bad (hno (.inl hv)) _ hk
  | true =>
  by_cases h2 : (m.bases.length : Int) < 2
  · repeat (any_goals (first
    | (with_reducible first|((refine idGd ?_); first|refine zC ?_|refine zD ?_)|((refine idPick ?_); first|refine yB ?_|refine yC ?_)|((refine idCond ?_); refine yL ?_))
    | ((with_reducible refine idO ?_); (with_reducible refine oM_gen fun Kv hK=>?_); simp [go_sem, hk.cells, h2]; refine hK _ _ ?_; clear hK; clear Kv)))
    exact bad (hno (.inr (.inl (by omega)))) _ hk
  by_cases h7 : (7 : Int) < m.bases.length
  · repeat (any_goals (first
    | (with_reducible first|((refine idGd ?_); first|refine zC ?_|refine zD ?_)|((refine idPick ?_); first|refine yB ?_|refine yC ?_)|((refine idCond ?_); refine yL ?_))
    | ((with_reducible refine idO ?_); (with_reducible refine oM_gen fun Kv hK=>?_); simp [go_sem, hk.cells, h2, h7]; refine hK _ _ ?_; clear hK; clear Kv)))
    exact bad (hno (.inr (.inr (.inl (by omega))))) _ hk
  repeat (any_goals (first
  | (with_reducible first|refine pureM_in ?_|((refine idGd ?_); refine zC ?_)|((refine idPick ?_); refine yC ?_))
  | ((with_reducible refine idO ?_); (with_reducible refine oM_gen fun Kv hK=>?_); simp [go_sem, hk.cells, h2, h7]; refine hK _ _ ?_; clear hK; clear Kv)))
  refine ContainsFunc_ok (badN g) (hms.next hk.below) ?_ ?_
  · intro w' x K' T hb _ h'
    refine oM_callv1 (by kernel_rfl) ?_
    have hk := (hk.next hb).cells
    exact bad_ok g x hk.2.2.2.1 h'
  intro w3 h3
  have hk := hk.next h3
  clear h3
  cases ha : m.bases.any (badN g) with
  | true =>
    repeat (any_goals (first
    | (with_reducible first|((refine idGd ?_); refine zD ?_)|((refine idPick ?_); first|refine yB ?_|refine yC ?_)|((refine idCond ?_); refine yL ?_))
    | ((with_reducible refine idO ?_); (with_reducible refine oM_gen fun Kv hK=>?_); simp [go_sem, hk.cells]; refine hK _ _ ?_; clear hK; clear Kv)))
    exact bad (hno (.inr (.inr (.inr (.inl ha))))) _ hk
  | false =>
  repeat (any_goals (first
  | (with_reducible first|refine pureM_in ?_|((refine idGd ?_); refine zC ?_)|((refine idPick ?_); refine yC ?_))
  | ((with_reducible refine idO ?_); (with_reducible refine oM_gen fun Kv hK=>?_); simp [go_sem, hk.cells]; refine hK _ _ ?_; clear hK; clear Kv)))
  refine oM_callv1 (by kernel_rfl) ?_
  refine bad_ok g m.blind hk.cells.2.2.2.1 (fun w4 h4 => ?_)
  have hk := hk.next h4
  clear h4
  cases hb : badN g m.blind with
  | true =>
    repeat (any_goals (first
    | (with_reducible first|((refine idPick ?_); refine yC ?_)|((refine idCond ?_); refine yL ?_))
    | ((with_reducible refine idO ?_); (with_reducible refine oM_gen fun Kv hK=>?_); simp [go_sem, hk.cells]; refine hK _ _ ?_; clear hK; clear Kv)))
    exact bad (hno (.inr (.inr (.inr (.inr hb))))) _ hk
  | false =>
  clear bad hno
  have ey : makeM g m = (⟨g, m.bases.map (powerG g g.G), powerG g g.G m.blind⟩, true) := by
    unfold makeM
    rw [if_pos]
    rw [hv, ha, hb, decide_eq_true (by omega : 2 ≤ m.bases.length), decide_eq_true (by omega : m.bases.length ≤ 7)]; rfl
  repeat (any_goals (with_reducible first|((refine idPick ?_); refine yC ?_)|((refine idCond ?_); refine yM ?_)))
  have hk := hk.drew
  refine ⟨Nx { w4 with drawn := w4.drawn + 1 }, Below.refl _ _, rfl, ?_⟩
  generalize ({ w4 with drawn := w4.drawn + 1 } : World) = W at hk ⊢
  repeat (any_goals ((with_reducible refine idOH ?_); (with_reducible refine oH_of ⟨_, rfl⟩ (fun W0 hW0 => by (refine oM_gen (fun Kv hK => ?_)); simp [go_sem, (hk.next hW0).cells]; (first | exact hK _ _ ⟨rfl, rfl⟩ | exact ⟨by omega, hK _ _ ⟨rfl, rfl⟩⟩)) ?_)))
  refine ⟨Nx, ?_⟩
  apply monoE
  · intro w1 h1
    exact Power_ok g g.G m.blind (fun w2 h2 => ⟨h1.on h2, h2, rfl⟩)
  repeat (apply monoE; focus (intro w9 h9; (repeat (intro v9 e9; try (obtain rfl := e9))); (repeat (any_goals ((with_reducible refine idO ?_); (with_reducible refine oM_gen fun Kv hK=>?_); simp [go_sem, build_stp2]; refine hK _ _ ?_; clear hK; clear Kv))); exact ⟨h9, Below.refl _ _, rfl⟩))
  refine monoR (fun v w' => ∃ g2, v = ptr g2 0 ∧ W.heap.size ≤ g2 ∧ Holds w' g2 35 (stpC zS (.slice none 0 0))) (fun v w w1 hS h => h.imp fun g2 h => ⟨h.1, h.2.1, h.2.2.next hS⟩) ?_ ?_
  · intro w1 h1
    exact arr_alloc al_stp (fun g2 w2 h2 hg2 hh => ⟨h1.on h2, h2, g2, rfl, Nat.le_trans h1.size hg2, hh⟩)
  (intro w9 h9; repeat (intro v9 e9; try (obtain rfl := e9)))
  obtain ⟨g2, rfl, hg2, hh⟩ := e9
  refine arr_store sz_stp (xs := stpC ⟨g, [], powerG g g.G m.blind⟩ (.slice none 0 0)) rfl rfl (stp_one ⟨g, [], powerG g g.G m.blind⟩ none 0 0) hh rfl (fun w10 hg10 hh => ?_)
  have h10 := grown_below h9 hg10 hg2
  have hgW : g0 < W.heap.size := mine_lt hk.mine
  have hoffL := cells_lt hk.cells
  have hk := hk.next h10
  clear hg10 h9
  repeat (any_goals ((with_reducible refine idO ?_); (with_reducible refine oM_gen fun Kv hK=>?_); simp [go_sem, hk.cells]; refine hK _ _ ?_; clear hK; clear Kv))
  have hne : g0 ≠ g2 := by omega
  have hoff : ∀ p ∈ cellsOf (cellsOf [] b1 0 [.int .i64 g.P, .int .i64 g.Q, .int .i64 g.G]) b2 0 (mirC m (.slice ad m.bases.length c)), p.1.block ≠ g2 := fun p hp => by have := hoffL p hp; omega
  have hbase : w.heap.size ≤ g2 := Nat.le_trans hk.base (by omega)
  have hal : (m.bases.map (powerG g g.G)).length = m.bases.length := List.length_map _
  have hrng : ∀ n ∈ m.bases.map (powerG g g.G), I64 n := by
    intro n hn
    obtain ⟨x, _, rfl⟩ := List.mem_map.1 hn
    exact powerG_I64 _ _ _
  have hat : ∀ i (h : i < m.bases.length), powerG g g.G m.bases[i] = (m.bases.map (powerG g g.G))[i]'(by rw [hal]; exact h) := fun i h => by simp
  generalize m.bases.map (powerG g g.G) = al at *
  refine ⟨GrJ w10 g2 35 (fun ov => stpC ⟨g, [], powerG g g.G m.blind⟩ ov) al, grMu m.bases.length, ⟨_, .slice none 0 0, 0, rfl, by omega, .start hh.lt hh⟩, ?_⟩
  have hk0 := hk
  rintro _ _ w6 ⟨u, ov, i, rfl, hi, hgr⟩
  have hk := hk0.fr hgr.fr hoff hne hbase
  by_cases hin : i = m.bases.length
  · have ho := hgr.own
    rw [List.take_of_length_le (by omega)] at ho
    have hints := ho.ints hrng (by omega)
    obtain ⟨g', oc, cur, rfl, hlt, hB, _, _, _, _⟩ := owns_cells ho (by omega)
    repeat (any_goals (first
    | (with_reducible ((refine idCond ?_); refine yO ?_))
    | ((with_reducible refine idO ?_); (with_reducible refine oM_gen fun Kv hK=>?_); simp [go_sem, hgr.holds.are]; refine hK _ _ ?_; clear hK; clear Kv)))
    refine store_stp ⟨g, al, powerG g g.G m.blind⟩ (some ⟨g', 0, none⟩) al.length oc hk (fun W3 hk hc hg3 => ⟨stpV ⟨g, al, powerG g g.G m.blind⟩ (.slice (some ⟨g', 0, none⟩) al.length oc), by simp [go_sem, hc], k2 W3 (.slice (some ⟨g', 0, none⟩) al.length oc) _ ey hk.below ⟨hg, ⟨hints.row.keep hg3.size (fun i hi hlt => hg3.block i hlt ?_), hrng, by show al.length ≤ _; omega⟩, powerG_I64 _ _ _, hT.next hk.below⟩ (fun i h => by have e2 : g' = i := Option.some.inj h; have := hk0.below.size; omega)⟩)
    cases hi
    intro e
    have e2 : g' = g0 := Option.some.inj e
    have := hh.lt
    omega
  · obtain ⟨b8, o8, rfl, hb8', ca, ra, _⟩ := hms.at (i := i) (by omega)
    repeat (any_goals (first
    | (with_reducible ((refine idCond ?_); refine yN ?_))
    | ((with_reducible refine idO ?_); (with_reducible refine oM_gen fun Kv hK=>?_); simp [go_sem, ca _ hk.below]; (first|refine hK _ _ ?_|refine And.intro (by omega) (hK _ _ ?_)); clear hK; clear Kv)))
    have hk := hk.drew
    have hgr := hgr.next (.drawn (B := w6.heap.size))
    refine ⟨Nx { w6 with drawn := w6.drawn + 1 }, Below.refl _ _, rfl, ?_⟩
    generalize ({ w6 with drawn := w6.drawn + 1 } : World) = W6 at hk hgr ⊢
    repeat (any_goals (first
    | (with_reducible refine pureH_in ?_)
    | ((with_reducible refine idOH ?_); (with_reducible refine oH_of ⟨_, rfl⟩ (fun W0 hW0 => by (refine oM_gen (fun Kv hK => ?_)); simp [go_sem, (hk.next hW0).cells, (hgr.next hW0).holds.are]; (first | exact hK _ _ ⟨rfl, rfl⟩ | exact ⟨by omega, hK _ _ ⟨rfl, rfl⟩⟩)) ?_))))
    refine ⟨Nx, ?_⟩
    apply monoE
    · intro w1 h1
      exact Power_ok g g.G _ (fun w2 h2 => ⟨h1.on h2, h2, rfl⟩)
    refine monoR (fun v w' => Ints w' v [powerG g g.G m.bases[i]]) (fun v w w1 hS h => h.next hS) ?_ ?_
    · rintro w1 h1 _ rfl
      exact mk1 _ (powerG_I64 _ _ _) (fun v w2 h2 hi => ⟨h1.on h2, h2, hi⟩)
    rintro w9 h9 _ rfl v9 hi9
    refine gr_append (hgr.next h9) hi9 (by rw [List.length_take]; omega) (fun ad n c w11 hgr => ?_)
    repeat (any_goals ((with_reducible refine idO ?_); (with_reducible refine oM_gen fun Kv hK=>?_); simp [go_sem]; refine hK _ _ ?_; clear hK; clear Kv))
    refine gr_store (i := 3) hgr (show 3 < 5 by decide) (fun w12 hgr => ?_)
    repeat (any_goals ((with_reducible refine idO ?_); (with_reducible refine oM_gen fun Kv hK=>?_); simp [go_sem]; (try simp (disch := omega) only [wrapI64, wrapU8, wrapU32, wrapU64]); refine hK _ _ ?_; clear hK; clear Kv))
    rw [hat i (by omega), take_snoc] at hgr
    refine ⟨⟨_, _, i + 1, rfl, by omega, hgr⟩, ?_⟩
    simp only [grMu_eq]; omega
end
end Go.Proofs
set_option linter.unusedVariables false
set_option maxRecDepth 100000
namespace Go.Proofs
open Go.Sh
end Go.Proofs
set_option linter.unusedVariables false
set_option maxRecDepth 100000
namespace Go.Proofs
open Go.Sh
end Go.Proofs
namespace Go.Proofs
open Go Go.Sh Go.RowKit FdSpec
set_option linter.unusedSimpArgs false
set_option linter.unusedVariables false
set_option maxRecDepth 10000
section
variable {K : Value → World → Prop} {w : World}
end
end Go.Proofs
namespace Go.Proofs
open Go Go.Sh Go.RowKit FdSpec TkSpec
set_option linter.unusedSimpArgs false
set_option linter.unusedVariables false
set_option maxRecDepth 10000
section
variable {K : Value → World → Prop} {w : World}
end
end Go.Proofs
namespace Go.Proofs
open Go Go.Sh Go.RowKit FdSpec TkSpec
set_option linter.unusedSimpArgs false
set_option linter.unusedVariables false
set_option maxRecDepth 10000
section
variable {K : Value → World → Prop} {w : World}
end
end Go.Proofs
namespace Go.Proofs
open Go Go.Sh Go.RowKit FdSpec TkSpec
set_option linter.unusedSimpArgs false
set_option linter.unusedVariables false
set_option maxRecDepth 10000
section
variable {K : Value → World → Prop} {w : World}
@[reducible] def grpC (g : Grp) : List Value := [.int .i64 g.P, .int .i64 g.Q, .int .i64 g.G]
end
end Go.Proofs
namespace Go.Proofs
open Go Go.Sh Go.RowKit ShaSpec
set_option linter.unusedSimpArgs false
set_option linter.unusedVariables false
set_option maxRecDepth 10000
section
variable {K : Value → World → Prop} {w w0 : World}
abbrev OwnW (w : World) (B : Nat) (v : Value) (l : List W) : Prop := w.ownsRow B 205 1 v l.length (ws l)
def WrdR (w : World) (v : Value) (l : List W) : Prop := ∃ ad c, v = .slice ad l.length c ∧ (l = [] ∨ ∃ b o, ad = some ⟨b, o, none⟩ ∧ b < w.heap.size ∧ ∀ i, i < l.length → w.cell? ⟨b, o + i, none⟩ = some (w32 (at' l i)))
theorem WrdR.next {w' : World} {v : Value} {l : List W} (h : WrdR w v l) (hb : Below w.heap.size w w') : WrdR w' v l := by
  obtain ⟨ad, c, rfl, h⟩ := h
  refine ⟨ad, c, rfl, h.imp id ?_⟩
  rintro ⟨b, o, rfl, hlt, hc⟩
  exact ⟨b, o, rfl, Nat.lt_of_lt_of_le hlt hb.size, fun i hi => by rw [hb.cell hlt]; exact hc i hi⟩
theorem WrdR.at {v : Value} {l : List W} (h : WrdR w v l) (hne : 0 < l.length) : ∃ b o c, v = .slice (some ⟨b, o, none⟩) l.length c ∧ ∀ w', Below w.heap.size w w' → ∀ i, i < l.length → w'.cell? ⟨b, o + i, none⟩ = some (w32 (at' l i)) := by
  obtain ⟨ad, c, rfl, h⟩ := h
  rcases h with rfl | ⟨b, o, rfl, hlt, hc⟩
  · simp at hne
  · exact ⟨b, o, c, rfl, fun w' hb i hi => by rw [hb.cell hlt]; exact hc i hi⟩
theorem OwnW.keep {B : Nat} {v : Value} {l : List W} {w' : World} (h : OwnW w B v l) (hb : Below w.heap.size w w') : OwnW w' B v l :=
  owns_keep h (fun i hi => hb.block i (owns_own h hi).1)
@[go_sem] theorem idx_w32 (T : TypeId) (b o n c : Nat) (x : Int) : oM Tryz.prog (.indexAddr 211 (.tmp 0) (.tmp 1)) T [.slice (some ⟨b, o, none⟩) n c, .int .i64 x] = onM (0 ≤ x ∧ x < n) (.pointer (some ⟨b, o + x.toNat, none⟩)) := by
  funext K w
  rw [oM_indexAddr, run_indexAt_slice (h := by kernel_rfl)]
  have hs : (sizeOf (Tryz.prog.elem 211)).run Tryz.prog w = .ok 1 w := by kernel_rfl
  by_cases hi : 0 ≤ x ∧ x < n
  · rw [if_pos hi, hs]
    simp only [Result.andThen, add_none, Nat.mul_one, rM_ok]
    exact propext ⟨fun h => ⟨hi, h⟩, fun h => h.2⟩
  · rw [if_neg hi]
    obtain ⟨e', w', he⟩ := halts Value Tryz.prog .i64 x n .index w
    rw [he]
    exact propext ⟨fun h => h.elim, fun h => hi h.1⟩
abbrev W' := BitVec 32
end
end Go.Proofs
namespace Go.Proofs
open Go Go.Sh Go.RowKit ShaSpec
set_option linter.unusedSimpArgs false
set_option linter.unusedVariables false
set_option maxRecDepth 10000
section
variable {K : Value → World → Prop} {w w0 : World}
def One (x : W) (v : Value) (w' : World) : Prop := ∃ g, v = .slice (some ⟨g, 0, none⟩) 1 1 ∧ g < w'.heap.size ∧ w'.cell? ⟨g, 0, none⟩ = some (w32 x)
theorem One.next {x : W} {v : Value} {w w' : World} (h : One x v w) (hb : Nx w w') : One x v w' := by
  obtain ⟨g, rfl, hlt, hc⟩ := h
  exact ⟨g, rfl, Nat.lt_of_lt_of_le hlt hb.size, by rw [hb.cell hlt]; exact hc⟩
end
end Go.Proofs
namespace Go.Proofs
open Go Go.Sh Go.RowKit ShaSpec
set_option linter.unusedSimpArgs false
set_option linter.unusedVariables false
set_option maxRecDepth 10000
section
variable {K : Value → World → Prop} {w w0 : World}
end
end Go.Proofs
namespace Go.Proofs
open Go Go.Sh Go.RowKit ShaSpec FdSpec TkSpec
set_option linter.unusedSimpArgs false
set_option linter.unusedVariables false
set_option maxRecDepth 10000
section
variable {K : Value → World → Prop} {w w0 : World}
theorem OwnB.keep {B : Nat} {v : Value} {l : List UInt8} {w' : World} (h : OwnB w B v l) (hb : Below w.heap.size w w') : OwnB w' B v l :=
  owns_keep h (fun i hi => hb.block i (owns_own h hi).1)
theorem OwnB.shape {B : Nat} {v : Value} {l : List UInt8} (h : OwnB w B v l) : ∃ ad c, v = .slice ad l.length c := by
  rcases h.2 with ⟨rfl, h0⟩ | ⟨g, cap, cur, rfl, _⟩
  · exact ⟨none, 0, by rw [h0]⟩
  · exact ⟨_, cap, rfl⟩
end
end Go.Proofs
namespace Go.Proofs
open Go Go.Sh Go.RowKit ShaSpec FdSpec TkSpec
set_option linter.unusedSimpArgs false
set_option linter.unusedVariables false
set_option maxRecDepth 10000
section
variable {K : Value → World → Prop} {w w0 : World}
end
end Go.Proofs
namespace Go.Proofs.Cd
open Go Go.Sh Go.RowKit Go.Lib CodeSpec
set_option linter.unusedSimpArgs false
set_option maxRecDepth 10000
end Go.Proofs.Cd
namespace Go.Proofs
open Go Go.Sh Go.RowKit FdSpec TkSpec CodeSpec
set_option linter.unusedSimpArgs false
set_option linter.unusedVariables false
set_option maxRecDepth 10000
section
variable {K : Value → World → Prop} {w w0 : World} {L : List (Addr × Value)}
theorem mkI1 {T : TypeId} (x : Int) (k : ∀ v W, Below w.heap.size w W → OwnI W w.heap.size v [x] → K v W) : oM Tryz.prog (.buildSlice 22 1 #[(0, .tmp 0)]) T [.int .i64 x] K w := by
  rw [oM_buildSlice1]
  have e : (Instr.buildSlice 22 1 #[(0, .int .i64 x)]).run Tryz.prog w = .ok (.slice (some ⟨w.heap.size, 0, none⟩) 1 1) (w.alloc (.cells #[.int .i64 x] 3)) := by kernel_rfl
  rw [e]
  exact k _ _ ((Below.refl _ w).alloc (Nat.le_refl _) _) ⟨rfl, .inr ⟨w.heap.size, 1, #[.int .i64 x], rfl, Nat.le_refl _, heap_alloc_new w _, Nat.le_refl _, by decide, rfl, rfl⟩⟩
theorem appendI {B : Nat} {T : TypeId} {v xv : Value} {l m : List Int} (ho : OwnI w B v l) (hB : B ≤ w.heap.size) (hx : Ints w xv m) (hl : l.length + m.length < 1099511627776)
    (k : ∀ v' w', OwnI w' B v' (l ++ m) → Below B w w' → K v' w') : oM Tryz.prog (.call { callee := .builtin .append, args := #[.tmp 0, .tmp 1], argTypes := #[22, 22] }) T [v, xv] K w := by
  obtain ⟨⟨ad, c, rfl, h0, hc⟩, hr, _⟩ := hx
  refine append_at 22 T 3 ((Tryz.prog.info? 3).getD default) (.int .i64 0) 1 8 (by kernel_rfl) (by kernel_rfl) (by kernel_rfl) (by kernel_rfl) (by kernel_rfl) (by kernel_rfl) (by omega) (owns_base ho (Nat.zero_le _)) (m.map (Value.int .i64)) (by simp) h0 ?_ ?_ (by simp only [maxLen]; omega) (by omega) ?_
  · rintro a rfl j u hj
    rcases hc with rfl | ⟨b, o, hbo, hlt, hcell⟩
    · simp at hj
    · cases hbo
      rw [add_none]
      exact hcell j u (by rw [flat_int]; exact hj)
  · intro u hu
    obtain ⟨x, _, rfl⟩ := List.mem_map.1 hu
    rfl
  · intro v' w' ho' hg hv
    have hbl : ∀ i, v.ownBlock = some i → B ≤ i := fun i hi => (owns_own ho hi).2.1
    refine k v' w' ?_ ((Below.refl B w).grown hg hB hbl)
    have e2 : flat intC (l ++ m) = flat intC l ++ m.map (Value.int .i64) := by rw [flat_int, flat_int]; simp
    show w'.ownsRow B 3 1 v' (l ++ m).length (flat intC (l ++ m))
    rw [List.length_append, e2]
    exact owns_up ho' (fun i hi => (hv i hi).elim (hbl i) (fun h => Nat.le_trans hB h))
theorem Exps_ok {lv : Value} {l : List Int} (hl : Ints w lv l) (hll : l.length < 1000000) (k : ∀ v w', Below w.heap.size w w' → Ints w' v (expsM l) → K v w') : callM Tryz.prog 98 #[lv] K w := by
  apply sh_98_ok
  unfold sh_98
  refine mkI1 1 fun v W h1 ho => ?_
  refine appendI ho h1.size (hl.next h1) (by simp; omega) (fun v' w' ho' h2 => ?_)
  exact k _ _ (h1.trans h2) (ho'.ints (by
    intro n hn
    rcases List.mem_cons.1 hn with rfl | hn
    · exact ⟨by decide, by decide⟩
    · exact hl.rng n hn) (by simp; omega))
end
end Go.Proofs
set_option linter.unusedVariables false
set_option maxRecDepth 100000
namespace Go.Proofs
open Go.Sh
def sh_101 (a0 : Value) (K : Value → World → Prop) (w : World) : Prop :=
 oM Tryz.prog (.box 68 (.tmp 0)) 0 [a0] (fun v1_1 w =>
 oM Tryz.prog (.fieldAddr 68 (.tmp 0) 1) 0 [v1_1] (fun v3_2 w =>
 oM Tryz.prog (.fieldAddr 24 (.tmp 0) 0) 0 [v3_2] (fun v4_3 w =>
 oM Tryz.prog (.load 22 (.tmp 0)) 22 [v4_3] (fun v5_4 w =>
 oM Tryz.prog (.call (Go.Call.mk (.builtin .len) #[(.tmp 0)] #[22])) 3 [v5_4] (fun v6_5 w =>
 oM Tryz.prog (.binOp .leq 3 (.tmp 0) (.tmp 1) 3) 4 [v6_5, (.int .i64 9)] (fun v7_6 w =>
 gdM (gd v7_6 true) (oM Tryz.prog (.fieldAddr 68 (.tmp 0) 4) 0 [v1_1]) (fun v9_7 w =>
 gdM (gd v7_6 true) (oM Tryz.prog (.load 22 (.tmp 0)) 22 [v9_7]) (fun v10_8 w =>
 gdM (gd v7_6 true) (oM Tryz.prog (.call (Go.Call.mk (.builtin .len) #[(.tmp 0)] #[22])) 3 [v10_8]) (fun v11_9 w =>
 gdM (gd v7_6 true) (oM Tryz.prog (.binOp .leq 3 (.tmp 0) (.tmp 1) 3) 4 [v11_9, (.int .i64 9)]) (fun v12_10 w =>
 oM Tryz.prog (.pick (.tmp 0) (.tmp 1) (.tmp 2)) 4 [v7_6, v12_10, (.bool false)] (fun v13_11 w =>
 gdM (gd v13_11 true) (oM Tryz.prog (.fieldAddr 68 (.tmp 0) 5) 0 [v1_1]) (fun v15_12 w =>
 gdM (gd v13_11 true) (oM Tryz.prog (.fieldAddr 28 (.tmp 0) 3) 0 [v15_12]) (fun v16_13 w =>
 gdM (gd v13_11 true) (oM Tryz.prog (.load 22 (.tmp 0)) 22 [v16_13]) (fun v17_14 w =>
 gdM (gd v13_11 true) (oM Tryz.prog (.call (Go.Call.mk (.builtin .len) #[(.tmp 0)] #[22])) 3 [v17_14]) (fun v18_15 w =>
 gdM (gd v13_11 true) (oM Tryz.prog (.binOp .leq 3 (.tmp 0) (.tmp 1) 3) 4 [v18_15, (.int .i64 9)]) (fun v19_16 w =>
 oM Tryz.prog (.pick (.tmp 0) (.tmp 1) (.tmp 2)) 4 [v13_11, v19_16, (.bool false)] (fun v20_17 w =>
 K v20_17 w) w) w) w) w) w) w) w) w) w) w) w) w) w) w) w) w) w
theorem sh_101_eq (a0 : Value) (K : Value → World → Prop) (w : World) : sh_101 a0 K w = code Tryz.prog (fun _ => 0) 21 (Tryz.f101.body.getD .skip) (slotsAt [a0]) (retK Tryz.prog [.tmp 2] K) w := by kernel_rfl
theorem sh_101_ok {a0 : Value} {K : Value → World → Prop} {w : World} (h : sh_101 a0 K w) : callM Tryz.prog 101 #[a0] K w :=
  calls_of_code (fun _ => 0) (fn := Tryz.f101) (rs := [.tmp 2]) Tryz.func101 rfl rfl (by kernel_rfl) (Nat.le_of_ble_eq_true rfl) ((sh_101_eq a0 K w).mp h)
def sh_100 (a0 : Value) (K : Value → World → Prop) (w : World) : Prop :=
 oM Tryz.prog (.box 68 (.tmp 0)) 0 [a0] (fun v1_1 w =>
 oM Tryz.prog (.alloc 35) 0 [] (fun v2_2 w =>
 oM Tryz.prog (.fieldAddr 68 (.tmp 0) 0) 0 [v1_1] (fun v9_3 w =>
 oM Tryz.prog (.load 3 (.tmp 0)) 3 [v9_3] (fun v10_4 w =>
 callM Tryz.prog 68 #[v10_4] (fun v11_5 w =>
 oM Tryz.prog (.extract (.tmp 0) 0) 33 [v11_5] (fun v12_6 w =>
 oM Tryz.prog (.extract (.tmp 0) 1) 4 [v11_5] (fun v13_7 w =>
 oM Tryz.prog (.alloc 33) 0 [] (fun v4_8 w =>
 oM Tryz.prog (.store 33 (.tmp 0) (.tmp 1)) 0 [v4_8, v12_6] (fun _ w =>
 oM Tryz.prog (.unOp .not 4 (.tmp 0)) 4 [v13_7] (fun v15_9 w =>
 condM v15_9
 (oM Tryz.prog (.build 35 #[]) 35 [] (fun v16_10 w =>
 oM Tryz.prog (.store 35 (.tmp 0) (.tmp 1)) 0 [v2_2, v16_10] (fun _ w =>
 ∃ r_11, (do loadVar 35 (← asAddr v2_2) : Sem Value).run Tryz.prog w = .ok r_11 w ∧ K (.tuple #[r_11, (.bool false)]) w) w) w)
 (oM Tryz.prog (.load 33 (.tmp 0)) 33 [v4_8] (fun v18_12 w =>
 oM Tryz.prog (.fieldAddr 68 (.tmp 0) 1) 0 [v1_1] (fun v19_13 w =>
 oM Tryz.prog (.load 24 (.tmp 0)) 24 [v19_13] (fun v20_14 w =>
 callM Tryz.prog 69 #[v18_12, v20_14] (fun v21_15 w =>
 oM Tryz.prog (.extract (.tmp 0) 0) 35 [v21_15] (fun v22_16 w =>
 oM Tryz.prog (.extract (.tmp 0) 1) 4 [v21_15] (fun v23_17 w =>
 oM Tryz.prog (.alloc 35) 0 [] (fun v6_18 w =>
 oM Tryz.prog (.store 35 (.tmp 0) (.tmp 1)) 0 [v6_18, v22_16] (fun _ w =>
 oM Tryz.prog (.load 35 (.tmp 0)) 35 [v6_18] (fun v24_19 w =>
 oM Tryz.prog (.store 35 (.tmp 0) (.tmp 1)) 0 [v2_2, v24_19] (fun _ w =>
 ∃ r_20, (do loadVar 35 (← asAddr v2_2) : Sem Value).run Tryz.prog w = .ok r_20 w ∧ K (.tuple #[r_20, v23_17]) w) w) w) w) w) w) w) w) w) w) w)) w) w) w) w) w) w) w) w) w) w
theorem sh_100_eq (a0 : Value) (K : Value → World → Prop) (w : World) : sh_100 a0 K w = code Tryz.prog (fun _ => 0) 26 (Tryz.f100.body.getD .skip) (slotsAt [a0]) (retK Tryz.prog [.cell 2 35, .tmp 3] K) w := by kernel_rfl
theorem sh_100_ok {a0 : Value} {K : Value → World → Prop} {w : World} (h : sh_100 a0 K w) : callM Tryz.prog 100 #[a0] K w :=
  calls_of_code (fun _ => 0) (fn := Tryz.f100) (rs := [.cell 2 35, .tmp 3]) Tryz.func100 rfl rfl (by kernel_rfl) (Nat.le_of_ble_eq_true rfl) ((sh_100_eq a0 K w).mp h)
def sh_33 (a0 : Value) (K : Value → World → Prop) (w : World) : Prop :=
 oM Tryz.prog (.box 68 (.tmp 0)) 0 [a0] (fun v1_1 w =>
 oM Tryz.prog (.alloc 35) 0 [] (fun v2_2 w =>
 oM Tryz.prog (.alloc 41) 0 [] (fun v3_3 w =>
 oM Tryz.prog (.alloc 43) 0 [] (fun v4_4 w =>
 oM Tryz.prog (.load 68 (.tmp 0)) 68 [v1_1] (fun v16_5 w =>
 callM Tryz.prog 100 #[v16_5] (fun v17_6 w =>
 oM Tryz.prog (.extract (.tmp 0) 0) 35 [v17_6] (fun v18_7 w =>
 oM Tryz.prog (.extract (.tmp 0) 1) 4 [v17_6] (fun v19_8 w =>
 oM Tryz.prog (.alloc 35) 0 [] (fun v6_9 w =>
 oM Tryz.prog (.store 35 (.tmp 0) (.tmp 1)) 0 [v6_9, v18_7] (fun _ w =>
 oM Tryz.prog (.load 68 (.tmp 0)) 68 [v1_1] (fun v20_10 w =>
 callM Tryz.prog 101 #[v20_10] (fun v21_11 w =>
 oM Tryz.prog (.unOp .not 4 (.tmp 0)) 4 [v21_11] (fun v22_12 w =>
 gdM (gd v22_12 false) (pureM v19_8) (fun v24_13 w =>
 gdM (gd v22_12 false) (oM Tryz.prog (.unOp .not 4 (.tmp 0)) 4 [v24_13]) (fun v25_14 w =>
 oM Tryz.prog (.pick (.tmp 0) (.tmp 1) (.tmp 2)) 4 [v22_12, (.bool true), v25_14] (fun v26_15 w =>
 condM v26_15
 (oM Tryz.prog (.load 35 (.tmp 0)) 35 [v6_9] (fun v27_16 w =>
 oM Tryz.prog (.build 41 #[]) 41 [] (fun v28_17 w =>
 oM Tryz.prog (.build 43 #[]) 43 [] (fun v29_18 w =>
 oM Tryz.prog (.store 35 (.tmp 0) (.tmp 1)) 0 [v2_2, v27_16] (fun _ w =>
 oM Tryz.prog (.store 41 (.tmp 0) (.tmp 1)) 0 [v3_3, v28_17] (fun _ w =>
 oM Tryz.prog (.store 43 (.tmp 0) (.tmp 1)) 0 [v4_4, v29_18] (fun _ w =>
 ∃ r_19, (do loadVar 35 (← asAddr v2_2) : Sem Value).run Tryz.prog w = .ok r_19 w ∧ ∃ r_20, (do loadVar 41 (← asAddr v3_3) : Sem Value).run Tryz.prog w = .ok r_20 w ∧ ∃ r_21, (do loadVar 43 (← asAddr v4_4) : Sem Value).run Tryz.prog w = .ok r_21 w ∧ K (.tuple #[r_19, r_20, r_21, (.bool false)]) w) w) w) w) w) w) w)
 (oM Tryz.prog (.load 35 (.tmp 0)) 35 [v6_9] (fun v31_22 w =>
 oM Tryz.prog (.fieldAddr 68 (.tmp 0) 2) 0 [v1_1] (fun v32_23 w =>
 oM Tryz.prog (.load 3 (.tmp 0)) 3 [v32_23] (fun v33_24 w =>
 oM Tryz.prog (.fieldAddr 68 (.tmp 0) 4) 0 [v1_1] (fun v34_25 w =>
 oM Tryz.prog (.load 22 (.tmp 0)) 22 [v34_25] (fun v35_26 w =>
 oM Tryz.prog (.fieldAddr 68 (.tmp 0) 3) 0 [v1_1] (fun v36_27 w =>
 oM Tryz.prog (.load 3 (.tmp 0)) 3 [v36_27] (fun v37_28 w =>
 callM Tryz.prog 14 #[v31_22, v33_24, v35_26, v37_28] (fun v38_29 w =>
 oM Tryz.prog (.extract (.tmp 0) 0) 39 [v38_29] (fun v39_30 w =>
 oM Tryz.prog (.extract (.tmp 0) 1) 50 [v38_29] (fun v40_31 w =>
 oM Tryz.prog (.alloc 39) 0 [] (fun v8_32 w =>
 oM Tryz.prog (.store 39 (.tmp 0) (.tmp 1)) 0 [v8_32, v39_30] (fun _ w =>
 heldM w (fun C_33 w => (((true : Bool) = true) ∧ (oH Tryz.prog (.load 35 (.tmp 0)) 35 [v6_9] C_33 (fun v42_34 =>
 oH Tryz.prog (.load 35 (.tmp 0)) 35 [v6_9] C_33 (fun v43_35 =>
 oH Tryz.prog (.fieldAddr 68 (.tmp 0) 2) 0 [v1_1] C_33 (fun v44_36 =>
 oH Tryz.prog (.load 3 (.tmp 0)) 3 [v44_36] C_33 (fun v45_37 =>
 oH Tryz.prog (.fieldAddr 68 (.tmp 0) 4) 0 [v1_1] C_33 (fun v47_38 =>
 oH Tryz.prog (.load 22 (.tmp 0)) 22 [v47_38] C_33 (fun v48_39 =>
 oH Tryz.prog (.load 39 (.tmp 0)) 39 [v8_32] C_33 (fun v49_40 =>
 oH Tryz.prog (.fieldAddr 68 (.tmp 0) 5) 0 [v1_1] C_33 (fun v50_41 =>
 oH Tryz.prog (.load 28 (.tmp 0)) 28 [v50_41] C_33 (fun v51_42 =>
 ∃ S_43 : World → World → Prop, ∃ R_44 : Value → World → Prop, (∀ v w w_1, S_43 w w_1 → R_44 v w → R_44 v w_1) ∧
 (∀ w, C_33 w → (callM Tryz.prog 19 #[v43_35, v45_37] (fun v w_1 => C_33 w_1 ∧ S_43 w w_1 ∧ R_44 v w_1) w)) ∧
 (∃ R_45 : Value → World → Prop, (∀ v w w_1, S_43 w w_1 → R_45 v w → R_45 v w_1) ∧
 (∀ w, C_33 w → ∀ v46_46, R_44 v46_46 w → (callM Tryz.prog 18 #[v42_34, v46_46, v48_39, v49_40, v51_42] (fun v w_1 => C_33 w_1 ∧ S_43 w w_1 ∧ R_45 v w_1) w)) ∧
 (∃ R_47 : Value → World → Prop, (∀ v w w_1, S_43 w w_1 → R_47 v w → R_47 v w_1) ∧
 (∀ w, C_33 w → ∀ v52_48, R_45 v52_48 w → (C_33 w ∧ S_43 w w ∧ R_47 v52_48 w)) ∧
 (∃ R_49 : Value → World → Prop, (∀ v w w_1, S_43 w w_1 → R_49 v w → R_49 v w_1) ∧
 (∀ w, C_33 w → ∀ v41_50, R_47 v41_50 w → (oM Tryz.prog (.extract (.tmp 0) 0) 3 [v41_50] (fun v w_1 => C_33 w_1 ∧ S_43 w w_1 ∧ R_49 v w_1) w)) ∧
 (∃ R_51 : Value → World → Prop, (∀ v w w_1, S_43 w w_1 → R_51 v w → R_51 v w_1) ∧
 (∀ w, C_33 w → ∀ v41_52, R_47 v41_52 w → (oM Tryz.prog (.extract (.tmp 0) 1) 50 [v41_52] (fun v w_1 => C_33 w_1 ∧ S_43 w w_1 ∧ R_51 v w_1) w)) ∧
 (∃ R_53 : Value → World → Prop, (∀ v w w_1, S_43 w w_1 → R_53 v w → R_53 v w_1) ∧
 (∀ w, C_33 w → ∀ v53_54, R_49 v53_54 w → (C_33 w ∧ S_43 w w ∧ R_53 v53_54 w)) ∧
 (∀ w, C_33 w → ∀ v46_55, R_44 v46_55 w → ∀ v52_56, R_45 v52_56 w → ∀ v41_57, R_47 v41_57 w → ∀ v53_58, R_49 v53_58 w → ∀ v54_59, R_51 v54_59 w → ∀ v10_60, R_53 v10_60 w → (
 oM Tryz.prog (.binOp .neq 50 (.tmp 0) (.const (.int .i64 0)) 50) 4 [v40_31] (fun v56_61 w =>
 gdM (gd v56_61 false) (pureM v54_59) (fun v58_62 w =>
 gdM (gd v56_61 false) (oM Tryz.prog (.binOp .neq 50 (.tmp 0) (.const (.int .i64 0)) 50) 4 [v58_62]) (fun v59_63 w =>
 oM Tryz.prog (.pick (.tmp 0) (.tmp 1) (.tmp 2)) 4 [v56_61, (.bool true), v59_63] (fun v60_64 w =>
 condM v60_64
 (oM Tryz.prog (.load 35 (.tmp 0)) 35 [v6_9] (fun v61_65 w =>
 oM Tryz.prog (.build 41 #[]) 41 [] (fun v62_66 w =>
 oM Tryz.prog (.build 43 #[]) 43 [] (fun v63_67 w =>
 oM Tryz.prog (.store 35 (.tmp 0) (.tmp 1)) 0 [v2_2, v61_65] (fun _ w =>
 oM Tryz.prog (.store 41 (.tmp 0) (.tmp 1)) 0 [v3_3, v62_66] (fun _ w =>
 oM Tryz.prog (.store 43 (.tmp 0) (.tmp 1)) 0 [v4_4, v63_67] (fun _ w =>
 ∃ r_68, (do loadVar 35 (← asAddr v2_2) : Sem Value).run Tryz.prog w = .ok r_68 w ∧ ∃ r_69, (do loadVar 41 (← asAddr v3_3) : Sem Value).run Tryz.prog w = .ok r_69 w ∧ ∃ r_70, (do loadVar 43 (← asAddr v4_4) : Sem Value).run Tryz.prog w = .ok r_70 w ∧ K (.tuple #[r_68, r_69, r_70, (.bool false)]) w) w) w) w) w) w) w)
 (heldM w (fun C_71 w => (((true : Bool) = true) ∧ (oH Tryz.prog (.fieldAddr 68 (.tmp 0) 4) 0 [v1_1] C_71 (fun v64_72 =>
 oH Tryz.prog (.load 22 (.tmp 0)) 22 [v64_72] C_71 (fun v65_73 =>
 oH Tryz.prog (.load 39 (.tmp 0)) 39 [v8_32] C_71 (fun v66_74 =>
 pureH v10_60 C_71 (fun v67_75 =>
 oH Tryz.prog (.load 35 (.tmp 0)) 35 [v6_9] C_71 (fun v68_76 =>
 oH Tryz.prog (.fieldAddr 68 (.tmp 0) 2) 0 [v1_1] C_71 (fun v69_77 =>
 oH Tryz.prog (.load 3 (.tmp 0)) 3 [v69_77] C_71 (fun v70_78 =>
 oH Tryz.prog (.fieldAddr 68 (.tmp 0) 3) 0 [v1_1] C_71 (fun v71_79 =>
 oH Tryz.prog (.load 3 (.tmp 0)) 3 [v71_79] C_71 (fun v72_80 =>
 pureH v10_60 C_71 (fun v73_81 =>
 ∃ S_82 : World → World → Prop, ∃ R_83 : Value → World → Prop, (∀ v w w_1, S_82 w w_1 → R_83 v w → R_83 v w_1) ∧
 (∀ w, C_71 w → (callM Tryz.prog 15 #[v68_76, v70_78, v72_80, v73_81] (fun v w_1 => C_71 w_1 ∧ S_82 w w_1 ∧ R_83 v w_1) w)) ∧
 (∃ R_84 : Value → World → Prop, (∀ v w w_1, S_82 w w_1 → R_84 v w → R_84 v w_1) ∧
 (∀ w, C_71 w → ∀ v74_85, R_83 v74_85 w → (oM Tryz.prog (.build 41 #[(0, (.tmp 0)), (1, (.tmp 1)), (2, (.tmp 2)), (3, (.tmp 3))]) 41 [v65_73, v66_74, v67_75, v74_85] (fun v w_1 => C_71 w_1 ∧ S_82 w w_1 ∧ R_84 v w_1) w)) ∧
 (∃ R_86 : Value → World → Prop, (∀ v w w_1, S_82 w w_1 → R_86 v w → R_86 v w_1) ∧
 (∀ w, C_71 w → (oM Tryz.prog (.alloc 41) 0 [] (fun v w_1 => C_71 w_1 ∧ S_82 w w_1 ∧ R_86 v w_1) w)) ∧
 (∀ w, C_71 w → ∀ v74_87, R_83 v74_87 w → ∀ v75_88, R_84 v75_88 w → ∀ v12_89, R_86 v12_89 w → (
 oM Tryz.prog (.store 41 (.tmp 0) (.tmp 1)) 0 [v12_89, v75_88] (fun _ w =>
 heldM w (fun C_90 w => (oH Tryz.prog (.load 35 (.tmp 0)) 35 [v6_9] C_90 (fun v77_91 =>
 oH Tryz.prog (.load 35 (.tmp 0)) 35 [v6_9] C_90 (fun v78_92 =>
 oH Tryz.prog (.fieldAddr 68 (.tmp 0) 2) 0 [v1_1] C_90 (fun v79_93 =>
 oH Tryz.prog (.load 3 (.tmp 0)) 3 [v79_93] C_90 (fun v80_94 =>
 oH Tryz.prog (.fieldAddr 68 (.tmp 0) 4) 0 [v1_1] C_90 (fun v82_95 =>
 oH Tryz.prog (.load 22 (.tmp 0)) 22 [v82_95] C_90 (fun v83_96 =>
 oH Tryz.prog (.load 39 (.tmp 0)) 39 [v8_32] C_90 (fun v84_97 =>
 oH Tryz.prog (.fieldAddr 68 (.tmp 0) 5) 0 [v1_1] C_90 (fun v85_98 =>
 oH Tryz.prog (.load 28 (.tmp 0)) 28 [v85_98] C_90 (fun v86_99 =>
 oH Tryz.prog (.fieldAddr 41 (.tmp 0) 3) 0 [v12_89] C_90 (fun v87_100 =>
 oH Tryz.prog (.load 3 (.tmp 0)) 3 [v87_100] C_90 (fun v88_101 =>
 (callM Tryz.prog 19 #[v78_92, v80_94] (fun v81_102 w => C_90 w ∧ (
 (callM Tryz.prog 20 #[v77_91, v81_102, v83_96, v84_97, v86_99, v88_101] (fun v89_103 w => C_90 w ∧ (
 pureH v89_103 C_90 (fun v76_104 =>
 oH Tryz.prog (.extract (.tmp 0) 0) 43 [v76_104] C_90 (fun v90_105 =>
 oH Tryz.prog (.extract (.tmp 0) 1) 50 [v76_104] C_90 (fun v91_106 =>
 oM Tryz.prog (.alloc 43) 0 [] (fun v13_107 w => C_90 w ∧ (
 oM Tryz.prog (.store 43 (.tmp 0) (.tmp 1)) 0 [v13_107, v90_105] (fun _ w => C_90 w ∧ (
 C_90 w ∧ (heldM w (fun C_109 w => (oH Tryz.prog (.load 35 (.tmp 0)) 35 [v6_9] C_109 (fun v92_110 =>
 oH Tryz.prog (.load 41 (.tmp 0)) 41 [v12_89] C_109 (fun v93_111 =>
 oH Tryz.prog (.load 43 (.tmp 0)) 43 [v13_107] C_109 (fun v94_112 =>
 pureH v91_106 C_109 (fun v95_113 =>
 oH Tryz.prog (.binOp .eql 50 (.tmp 0) (.const (.int .i64 0)) 50) 4 [v95_113] C_109 (fun v96_114 =>
 oM Tryz.prog (.store 35 (.tmp 0) (.tmp 1)) 0 [v2_2, v92_110] (fun _ w => C_109 w ∧ (
 oM Tryz.prog (.store 41 (.tmp 0) (.tmp 1)) 0 [v3_3, v93_111] (fun _ w => C_109 w ∧ (
 oM Tryz.prog (.store 43 (.tmp 0) (.tmp 1)) 0 [v4_4, v94_112] (fun _ w => C_109 w ∧ (
 C_109 w ∧ (∃ r_116, (do loadVar 35 (← asAddr v2_2) : Sem Value).run Tryz.prog w = .ok r_116 w ∧ ∃ r_117, (do loadVar 41 (← asAddr v3_3) : Sem Value).run Tryz.prog w = .ok r_117 w ∧ ∃ r_118, (do loadVar 43 (← asAddr v4_4) : Sem Value).run Tryz.prog w = .ok r_118 w ∧ K (.tuple #[r_116, r_117, r_118, v96_114]) w))) w)) w)) w)))))))))) w)) w))))) w) ∧
 (oM Tryz.prog (.alloc 43) 0 [] (fun v13_119 w => C_90 w ∧ (
 callM Tryz.prog 20 #[v77_91, v81_102, v83_96, v84_97, v86_99, v88_101] (fun v89_120 w => C_90 w ∧ (
 pureH v89_120 C_90 (fun v76_121 =>
 oH Tryz.prog (.extract (.tmp 0) 0) 43 [v76_121] C_90 (fun v90_122 =>
 oH Tryz.prog (.extract (.tmp 0) 1) 50 [v76_121] C_90 (fun v91_123 =>
 oM Tryz.prog (.store 43 (.tmp 0) (.tmp 1)) 0 [v13_119, v90_122] (fun _ w => C_90 w ∧ (
 C_90 w ∧ (heldM w (fun C_125 w => (oH Tryz.prog (.load 35 (.tmp 0)) 35 [v6_9] C_125 (fun v92_126 =>
 oH Tryz.prog (.load 41 (.tmp 0)) 41 [v12_89] C_125 (fun v93_127 =>
 oH Tryz.prog (.load 43 (.tmp 0)) 43 [v13_119] C_125 (fun v94_128 =>
 pureH v91_123 C_125 (fun v95_129 =>
 oH Tryz.prog (.binOp .eql 50 (.tmp 0) (.const (.int .i64 0)) 50) 4 [v95_129] C_125 (fun v96_130 =>
 oM Tryz.prog (.store 35 (.tmp 0) (.tmp 1)) 0 [v2_2, v92_126] (fun _ w => C_125 w ∧ (
 oM Tryz.prog (.store 41 (.tmp 0) (.tmp 1)) 0 [v3_3, v93_127] (fun _ w => C_125 w ∧ (
 oM Tryz.prog (.store 43 (.tmp 0) (.tmp 1)) 0 [v4_4, v94_128] (fun _ w => C_125 w ∧ (
 C_125 w ∧ (∃ r_132, (do loadVar 35 (← asAddr v2_2) : Sem Value).run Tryz.prog w = .ok r_132 w ∧ ∃ r_133, (do loadVar 41 (← asAddr v3_3) : Sem Value).run Tryz.prog w = .ok r_133 w ∧ ∃ r_134, (do loadVar 43 (← asAddr v4_4) : Sem Value).run Tryz.prog w = .ok r_134 w ∧ K (.tuple #[r_132, r_133, r_134, v96_130]) w))) w)) w)) w)))))))))) w))))) w)) w))) w) ∧
 (oM Tryz.prog (.alloc 43) 0 [] (fun v13_135 w => C_90 w ∧ (
 callM Tryz.prog 19 #[v78_92, v80_94] (fun v81_136 w => C_90 w ∧ (
 callM Tryz.prog 20 #[v77_91, v81_136, v83_96, v84_97, v86_99, v88_101] (fun v89_137 w => C_90 w ∧ (
 pureH v89_137 C_90 (fun v76_138 =>
 oH Tryz.prog (.extract (.tmp 0) 0) 43 [v76_138] C_90 (fun v90_139 =>
 oH Tryz.prog (.extract (.tmp 0) 1) 50 [v76_138] C_90 (fun v91_140 =>
 oM Tryz.prog (.store 43 (.tmp 0) (.tmp 1)) 0 [v13_135, v90_139] (fun _ w => C_90 w ∧ (
 C_90 w ∧ (heldM w (fun C_142 w => (oH Tryz.prog (.load 35 (.tmp 0)) 35 [v6_9] C_142 (fun v92_143 =>
 oH Tryz.prog (.load 41 (.tmp 0)) 41 [v12_89] C_142 (fun v93_144 =>
 oH Tryz.prog (.load 43 (.tmp 0)) 43 [v13_135] C_142 (fun v94_145 =>
 pureH v91_140 C_142 (fun v95_146 =>
 oH Tryz.prog (.binOp .eql 50 (.tmp 0) (.const (.int .i64 0)) 50) 4 [v95_146] C_142 (fun v96_147 =>
 oM Tryz.prog (.store 35 (.tmp 0) (.tmp 1)) 0 [v2_2, v92_143] (fun _ w => C_142 w ∧ (
 oM Tryz.prog (.store 41 (.tmp 0) (.tmp 1)) 0 [v3_3, v93_144] (fun _ w => C_142 w ∧ (
 oM Tryz.prog (.store 43 (.tmp 0) (.tmp 1)) 0 [v4_4, v94_145] (fun _ w => C_142 w ∧ (
 C_142 w ∧ (∃ r_149, (do loadVar 35 (← asAddr v2_2) : Sem Value).run Tryz.prog w = .ok r_149 w ∧ ∃ r_150, (do loadVar 41 (← asAddr v3_3) : Sem Value).run Tryz.prog w = .ok r_150 w ∧ ∃ r_151, (do loadVar 43 (← asAddr v4_4) : Sem Value).run Tryz.prog w = .ok r_151 w ∧ K (.tuple #[r_149, r_150, r_151, v96_147]) w))) w)) w)) w)))))))))) w))))) w)) w)) w))))))))))))))) w))))))))))))))))))) w) w) w) w)))))))))))))))))))) w) w) w) w) w) w) w) w) w) w) w) w)) w) w) w) w) w) w) w) w) w) w) w) w) w) w) w) w
theorem sh_33_eq (a0 : Value) (K : Value → World → Prop) (w : World) : sh_33 a0 K w = code Tryz.prog (fun i => bif Nat.beq i 5 then .free [0, 1, 2, 3, 5, 6, 7, 8, 9] [4, 10, 11, 12, 13, 14] [15] else bif Nat.beq i 8 then .free [0, 1, 2, 3, 4, 5, 6, 7, 8, 9] [10, 11, 12] [13] else bif Nat.beq i 9 then .tree (.look 0 (.look 1 (.look 2 (.look 3 (.look 5 (.look 6 (.look 7 (.look 8 (.look 9 (.look 10 (.look 11 (.alt 4 (.alt 12 (.look 13 (.look 14 (.look 15 (.only 16 (.only 17 (.only 18 (.done))))))) (.only 16 (.only 12 (.look 13 (.look 14 (.look 15 (.only 17 (.only 18 (.done))))))))) (.only 16 (.only 4 (.only 12 (.look 13 (.look 14 (.look 15 (.only 17 (.only 18 (.done))))))))))))))))))))) else bif Nat.beq i 10 then 2 else 0) 97 (Tryz.f33.body.getD .skip) (slotsAt [a0]) (retK Tryz.prog [.cell 2 35, .cell 3 41, .cell 4 43, .tmp 5] K) w := by kernel_rfl
theorem sh_33_ok {a0 : Value} {K : Value → World → Prop} {w : World} (h : sh_33 a0 K w) : callM Tryz.prog 33 #[a0] K w :=
  calls_of_code (fun i => bif Nat.beq i 5 then .free [0, 1, 2, 3, 5, 6, 7, 8, 9] [4, 10, 11, 12, 13, 14] [15] else bif Nat.beq i 8 then .free [0, 1, 2, 3, 4, 5, 6, 7, 8, 9] [10, 11, 12] [13] else bif Nat.beq i 9 then .tree (.look 0 (.look 1 (.look 2 (.look 3 (.look 5 (.look 6 (.look 7 (.look 8 (.look 9 (.look 10 (.look 11 (.alt 4 (.alt 12 (.look 13 (.look 14 (.look 15 (.only 16 (.only 17 (.only 18 (.done))))))) (.only 16 (.only 12 (.look 13 (.look 14 (.look 15 (.only 17 (.only 18 (.done))))))))) (.only 16 (.only 4 (.only 12 (.look 13 (.look 14 (.look 15 (.only 17 (.only 18 (.done))))))))))))))))))))) else bif Nat.beq i 10 then 2 else 0) (fn := Tryz.f33) (rs := [.cell 2 35, .cell 3 41, .cell 4 43, .tmp 5]) Tryz.func33 rfl rfl (by kernel_rfl) (Nat.le_of_ble_eq_true rfl) ((sh_33_eq a0 K w).mp h)
def sh_35 (a0 : Value) (a1 : Value) (a2 : Value) (a3 : Value) (K : Value → World → Prop) (w : World) : Prop :=
 oM Tryz.prog (.box 35 (.tmp 0)) 0 [a0] (fun v4_1 w =>
 oM Tryz.prog (.box 47 (.tmp 0)) 0 [a3] (fun v7_2 w =>
 callM Tryz.prog 98 #[a1] (fun v13_3 w =>
 oM Tryz.prog (.buildSlice 22 0 #[]) 22 [] (fun v14_4 w =>
 loopM [v14_4, (.int .i64 0)] w (fun J_5 m_6 l_7 u_l_7 w0_l_7 => (fun w => (
 oM Tryz.prog (.call (Go.Call.mk (.builtin .len) #[(.tmp 0)] #[22])) 3 [v13_3] (fun v17_8 w =>
 oM Tryz.prog (.binOp .lss 3 (.tmp 0) (.tmp 1) 3) 4 [(l_7.getD 1 undef), v17_8] (fun v18_9 w =>
 gdM (gd v18_9 true) (pureM (l_7.getD 1 undef)) (fun v20_10 w =>
 gdM (gd v18_9 true) (oM Tryz.prog (.fieldAddr 47 (.tmp 0) 1) 0 [v7_2]) (fun v21_11 w =>
 gdM (gd v18_9 true) (oM Tryz.prog (.load 22 (.tmp 0)) 22 [v21_11]) (fun v22_12 w =>
 gdM (gd v18_9 true) (oM Tryz.prog (.call (Go.Call.mk (.builtin .len) #[(.tmp 0)] #[22])) 3 [v22_12]) (fun v23_13 w =>
 gdM (gd v18_9 true) (oM Tryz.prog (.binOp .lss 3 (.tmp 0) (.tmp 1) 3) 4 [v20_10, v23_13]) (fun v24_14 w =>
 oM Tryz.prog (.pick (.tmp 0) (.tmp 1) (.tmp 2)) 4 [v18_9, v24_14, (.bool false)] (fun v25_15 w =>
 condM v25_15
 (heldM w (fun C_16 w => (((true : Bool) = true) ∧ (pureH (l_7.getD 0 undef) C_16 (fun v28_17 =>
 oH Tryz.prog (.fieldAddr 35 (.tmp 0) 0) 0 [v4_1] C_16 (fun v29_18 =>
 oH Tryz.prog (.fieldAddr 33 (.tmp 0) 1) 0 [v29_18] C_16 (fun v30_19 =>
 oH Tryz.prog (.load 3 (.tmp 0)) 3 [v30_19] C_16 (fun v31_20 =>
 oH Tryz.prog (.fieldAddr 47 (.tmp 0) 1) 0 [v7_2] C_16 (fun v32_21 =>
 oH Tryz.prog (.load 22 (.tmp 0)) 22 [v32_21] C_16 (fun v33_22 =>
 pureH (l_7.getD 1 undef) C_16 (fun v34_23 =>
 oH Tryz.prog (.indexAddr 22 (.tmp 0) (.tmp 1)) 0 [v33_22, v34_23] C_16 (fun v35_24 =>
 oH Tryz.prog (.load 3 (.tmp 0)) 3 [v35_24] C_16 (fun v36_25 =>
 oH Tryz.prog (.fieldAddr 35 (.tmp 0) 0) 0 [v4_1] C_16 (fun v37_26 =>
 oH Tryz.prog (.fieldAddr 33 (.tmp 0) 1) 0 [v37_26] C_16 (fun v38_27 =>
 oH Tryz.prog (.load 3 (.tmp 0)) 3 [v38_27] C_16 (fun v39_28 =>
 oH Tryz.prog (.fieldAddr 35 (.tmp 0) 0) 0 [v4_1] C_16 (fun v40_29 =>
 oH Tryz.prog (.fieldAddr 33 (.tmp 0) 1) 0 [v40_29] C_16 (fun v41_30 =>
 oH Tryz.prog (.load 3 (.tmp 0)) 3 [v41_30] C_16 (fun v42_31 =>
 oH Tryz.prog (.fieldAddr 47 (.tmp 0) 0) 0 [v7_2] C_16 (fun v43_32 =>
 oH Tryz.prog (.load 3 (.tmp 0)) 3 [v43_32] C_16 (fun v44_33 =>
 pureH a2 C_16 (fun v45_34 =>
 pureH v13_3 C_16 (fun v47_35 =>
 pureH (l_7.getD 1 undef) C_16 (fun v48_36 =>
 oH Tryz.prog (.indexAddr 22 (.tmp 0) (.tmp 1)) 0 [v47_35, v48_36] C_16 (fun v49_37 =>
 oH Tryz.prog (.load 3 (.tmp 0)) 3 [v49_37] C_16 (fun v50_38 =>
 ∃ S_39 : World → World → Prop, ∃ R_40 : Value → World → Prop, (∀ v w w_1, S_39 w w_1 → R_40 v w → R_40 v w_1) ∧
 (∀ w, C_16 w → (callM Tryz.prog 16 #[v42_31, v44_33, v45_34] (fun v w_1 => C_16 w_1 ∧ S_39 w w_1 ∧ R_40 v w_1) w)) ∧
 (∃ R_41 : Value → World → Prop, (∀ v w w_1, S_39 w w_1 → R_41 v w → R_41 v w_1) ∧
 (∀ w, C_16 w → ∀ v46_42, R_40 v46_42 w → (callM Tryz.prog 16 #[v39_28, v46_42, v50_38] (fun v w_1 => C_16 w_1 ∧ S_39 w w_1 ∧ R_41 v w_1) w)) ∧
 (∃ R_43 : Value → World → Prop, (∀ v w w_1, S_39 w w_1 → R_43 v w → R_43 v w_1) ∧
 (∀ w, C_16 w → ∀ v51_44, R_41 v51_44 w → (callM Tryz.prog 17 #[v31_20, v36_25, v51_44] (fun v w_1 => C_16 w_1 ∧ S_39 w w_1 ∧ R_43 v w_1) w)) ∧
 (∃ R_45 : Value → World → Prop, (∀ v w w_1, S_39 w w_1 → R_45 v w → R_45 v w_1) ∧
 (∀ w, C_16 w → ∀ v52_46, R_43 v52_46 w → (oM Tryz.prog (.buildSlice 22 1 #[(0, (.tmp 0))]) 22 [v52_46] (fun v w_1 => C_16 w_1 ∧ S_39 w w_1 ∧ R_45 v w_1) w)) ∧
 (∀ w, C_16 w → ∀ v46_47, R_40 v46_47 w → ∀ v51_48, R_41 v51_48 w → ∀ v52_49, R_43 v52_49 w → ∀ v53_50, R_45 v53_50 w → (
 oM Tryz.prog (.call (Go.Call.mk (.builtin .append) #[(.tmp 0), (.tmp 1)] #[22, 22])) 22 [v28_17, v53_50] (fun v54_51 w =>
 oM Tryz.prog (.binOp .add 3 (.tmp 0) (.tmp 1) 3) 3 [(l_7.getD 1 undef), (.int .i64 1)] (fun v27_52 w =>
 J_5 [v54_51, v27_52] w ∧ m_6 [v54_51, v27_52] w < m_6 l_7 w0_l_7) w) w)))))))))))))))))))))))))))))))
 (K (l_7.getD 0 undef) w)) w) w) w) w) w) w) w) w)) w0_l_7)) w) w) w) w
theorem sh_35_eq (a0 : Value) (a1 : Value) (a2 : Value) (a3 : Value) (K : Value → World → Prop) (w : World) : sh_35 a0 a1 a2 a3 K w = code Tryz.prog (fun _ => .free [0, 1, 2, 3, 4, 5, 6, 7, 8, 9, 10, 11, 12, 13, 14, 15, 16, 17, 19, 20, 21, 22] [18, 23, 24, 25] [26, 27]) 56 (Tryz.f35.body.getD .skip) (slotsAt [a0, a1, a2, a3]) (retK Tryz.prog [.tmp 8] K) w := by kernel_rfl
theorem sh_35_ok {a0 a1 a2 a3 : Value} {K : Value → World → Prop} {w : World} (h : sh_35 a0 a1 a2 a3 K w) : callM Tryz.prog 35 #[a0, a1, a2, a3] K w :=
  calls_of_code (fun _ => .free [0, 1, 2, 3, 4, 5, 6, 7, 8, 9, 10, 11, 12, 13, 14, 15, 16, 17, 19, 20, 21, 22] [18, 23, 24, 25] [26, 27]) (fn := Tryz.f35) (rs := [.tmp 8]) Tryz.func35 rfl rfl (by kernel_rfl) (Nat.le_of_ble_eq_true rfl) ((sh_35_eq a0 a1 a2 a3 K w).mp h)
def sh_6 (a0 : Value) (a1 : Value) (a2 : Value) (K : Value → World → Prop) (w : World) : Prop :=
 oM Tryz.prog (.box 68 (.tmp 0)) 0 [a0] (fun v3_1 w =>
 callM Tryz.prog 22 #[] (fun v21_2 w =>
 oM Tryz.prog (.fieldAddr 68 (.tmp 0) 0) 0 [v3_1] (fun v22_3 w =>
 oM Tryz.prog (.load 3 (.tmp 0)) 3 [v22_3] (fun v23_4 w =>
 oM Tryz.prog (.binOp .gtr 3 (.tmp 0) (.tmp 1) 3) 4 [v23_4, (.int .i64 200)] (fun v24_5 w =>
 gdM (gd v24_5 false) (pureM a2) (fun v26_6 w =>
 gdM (gd v24_5 false) (oM Tryz.prog (.call (Go.Call.mk (.builtin .len) #[(.tmp 0)] #[22])) 3 [v26_6]) (fun v27_7 w =>
 gdM (gd v24_5 false) (oM Tryz.prog (.binOp .gtr 3 (.tmp 0) (.tmp 1) 3) 4 [v27_7, (.int .i64 9)]) (fun v28_8 w =>
 oM Tryz.prog (.pick (.tmp 0) (.tmp 1) (.tmp 2)) 4 [v24_5, (.bool true), v28_8] (fun v29_9 w =>
 condM v29_9
 (K v21_2 w)
 (oM Tryz.prog (.load 68 (.tmp 0)) 68 [v3_1] (fun v32_10 w =>
 callM Tryz.prog 33 #[v32_10] (fun v33_11 w =>
 oM Tryz.prog (.extract (.tmp 0) 0) 35 [v33_11] (fun v34_12 w =>
 oM Tryz.prog (.extract (.tmp 0) 1) 41 [v33_11] (fun v35_13 w =>
 oM Tryz.prog (.extract (.tmp 0) 2) 43 [v33_11] (fun v36_14 w =>
 oM Tryz.prog (.extract (.tmp 0) 3) 4 [v33_11] (fun v37_15 w =>
 oM Tryz.prog (.alloc 35) 0 [] (fun v8_16 w =>
 oM Tryz.prog (.alloc 41) 0 [] (fun v9_17 w =>
 oM Tryz.prog (.alloc 43) 0 [] (fun v10_18 w =>
 oM Tryz.prog (.store 35 (.tmp 0) (.tmp 1)) 0 [v8_16, v34_12] (fun _ w =>
 oM Tryz.prog (.store 41 (.tmp 0) (.tmp 1)) 0 [v9_17, v35_13] (fun _ w =>
 oM Tryz.prog (.store 43 (.tmp 0) (.tmp 1)) 0 [v10_18, v36_14] (fun _ w =>
 oM Tryz.prog (.load 35 (.tmp 0)) 35 [v8_16] (fun v39_19 w =>
 oM Tryz.prog (.fieldAddr 68 (.tmp 0) 4) 0 [v3_1] (fun v40_20 w =>
 oM Tryz.prog (.load 22 (.tmp 0)) 22 [v40_20] (fun v41_21 w =>
 oM Tryz.prog (.fieldAddr 68 (.tmp 0) 5) 0 [v3_1] (fun v42_22 w =>
 oM Tryz.prog (.load 28 (.tmp 0)) 28 [v42_22] (fun v43_23 w =>
 callM Tryz.prog 13 #[v39_19, v41_21, v43_23, a1] (fun v45_24 w =>
 oM Tryz.prog (.extract (.tmp 0) 0) 47 [v45_24] (fun v46_25 w =>
 oM Tryz.prog (.extract (.tmp 0) 1) 4 [v45_24] (fun v47_26 w =>
 oM Tryz.prog (.alloc 47) 0 [] (fun v12_27 w =>
 oM Tryz.prog (.store 47 (.tmp 0) (.tmp 1)) 0 [v12_27, v46_25] (fun _ w =>
 oM Tryz.prog (.unOp .not 4 (.tmp 0)) 4 [v37_15] (fun v49_28 w =>
 gdM (gd v49_28 false) (pureM v47_26) (fun v51_29 w =>
 gdM (gd v49_28 false) (oM Tryz.prog (.unOp .not 4 (.tmp 0)) 4 [v51_29]) (fun v52_30 w =>
 oM Tryz.prog (.pick (.tmp 0) (.tmp 1) (.tmp 2)) 4 [v49_28, (.bool true), v52_30] (fun v53_31 w =>
 condM v53_31
 (K v21_2 w)
 (oM Tryz.prog (.load 35 (.tmp 0)) 35 [v8_16] (fun v55_32 w =>
 callM Tryz.prog 29 #[v55_32, a2] (fun v57_33 w =>
 oM Tryz.prog (.unOp .not 4 (.tmp 0)) 4 [v57_33] (fun v58_34 w =>
 condM v58_34
 (K v21_2 w)
 (loopM [(.int .i64 0), undef, undef, undef, (.bool false), (.int .i64 1)] w (fun J_35 m_36 l_37 u_l_37 w0_l_37 => (fun w => (
 oM Tryz.prog (.fieldAddr 68 (.tmp 0) 0) 0 [v3_1] (fun v61_38 w =>
 oM Tryz.prog (.load 3 (.tmp 0)) 3 [v61_38] (fun v62_39 w =>
 oM Tryz.prog (.binOp .lss 3 (.tmp 0) (.tmp 1) 3) 4 [(l_37.getD 5 undef), v62_39] (fun v63_40 w =>
 condM v63_40
 (joinM (fun M_41 => (heldM w (fun C_43 w => (((true : Bool) = true) ∧ (oH Tryz.prog (.fieldAddr 35 (.tmp 0) 0) 0 [v8_16] C_43 (fun v66_44 =>
 oH Tryz.prog (.load 33 (.tmp 0)) 33 [v66_44] C_43 (fun v67_45 =>
 oH Tryz.prog (.load 35 (.tmp 0)) 35 [v8_16] C_43 (fun v68_46 =>
 pureH a2 C_43 (fun v69_47 =>
 pureH (l_37.getD 5 undef) C_43 (fun v71_48 =>
 oH Tryz.prog (.fieldAddr 43 (.tmp 0) 0) 0 [v10_18] C_43 (fun v73_49 =>
 oH Tryz.prog (.load 3 (.tmp 0)) 3 [v73_49] C_43 (fun v74_50 =>
 ∃ S_51 : World → World → Prop, ∃ R_52 : Value → World → Prop, (∀ v w w_1, S_51 w w_1 → R_52 v w → R_52 v w_1) ∧
 (∀ w, C_43 w → (callM Tryz.prog 27 #[v68_46, v69_47] (fun v w_1 => C_43 w_1 ∧ S_51 w w_1 ∧ R_52 v w_1) w)) ∧
 (∃ R_53 : Value → World → Prop, (∀ v w w_1, S_51 w w_1 → R_53 v w → R_53 v w_1) ∧
 (∀ w, C_43 w → ∀ v70_54, R_52 v70_54 w → (callM Tryz.prog 37 #[v67_45, v70_54, v71_48] (fun v w_1 => C_43 w_1 ∧ S_51 w w_1 ∧ R_53 v w_1) w)) ∧
 (∀ w, C_43 w → ∀ v70_55, R_52 v70_55 w → ∀ v72_56, R_53 v72_56 w → (
 oM Tryz.prog (.binOp .neq 3 (.tmp 0) (.tmp 1) 3) 4 [v72_56, v74_50] (fun v75_57 w =>
 condM v75_57
 (M_41 [(l_37.getD 0 undef), (l_37.getD 1 undef), (l_37.getD 2 undef), (l_37.getD 3 undef), (l_37.getD 4 undef)] w)
 (oM Tryz.prog (.binOp .add 3 (.tmp 0) (.tmp 1) 3) 3 [(l_37.getD 0 undef), (.int .i64 1)] (fun v77_58 w =>
 oM Tryz.prog (.load 35 (.tmp 0)) 35 [v8_16] (fun v79_59 w =>
 oM Tryz.prog (.load 47 (.tmp 0)) 47 [v12_27] (fun v82_60 w =>
 callM Tryz.prog 35 #[v79_59, a2, (l_37.getD 5 undef), v82_60] (fun v83_61 w =>
 oM Tryz.prog (.build 28 #[(0, (.tmp 0)), (1, (.tmp 1)), (3, (.tmp 2))]) 28 [(l_37.getD 5 undef), (.int .i64 1), v83_61] (fun v84_62 w =>
 oM Tryz.prog (.alloc 28) 0 [] (fun v16_63 w =>
 oM Tryz.prog (.store 28 (.tmp 0) (.tmp 1)) 0 [v16_63, v84_62] (fun _ w =>
 oM Tryz.prog (.load 35 (.tmp 0)) 35 [v8_16] (fun v86_64 w =>
 oM Tryz.prog (.load 28 (.tmp 0)) 28 [v16_63] (fun v88_65 w =>
 callM Tryz.prog 13 #[v86_64, a2, v88_65, a1] (fun v90_66 w =>
 oM Tryz.prog (.extract (.tmp 0) 0) 47 [v90_66] (fun v91_67 w =>
 oM Tryz.prog (.extract (.tmp 0) 1) 4 [v90_66] (fun v92_68 w =>
 oM Tryz.prog (.alloc 47) 0 [] (fun v17_69 w =>
 oM Tryz.prog (.store 47 (.tmp 0) (.tmp 1)) 0 [v17_69, v91_67] (fun _ w =>
 oM Tryz.prog (.fieldAddr 35 (.tmp 0) 0) 0 [v8_16] (fun v94_70 w =>
 oM Tryz.prog (.load 33 (.tmp 0)) 33 [v94_70] (fun v95_71 w =>
 oM Tryz.prog (.fieldAddr 35 (.tmp 0) 1) 0 [v8_16] (fun v96_72 w =>
 oM Tryz.prog (.load 22 (.tmp 0)) 22 [v96_72] (fun v97_73 w =>
 oM Tryz.prog (.fieldAddr 28 (.tmp 0) 3) 0 [v16_63] (fun v98_74 w =>
 oM Tryz.prog (.load 22 (.tmp 0)) 22 [v98_74] (fun v99_75 w =>
 callM Tryz.prog 38 #[v95_71, v97_73, v99_75] (fun v100_76 w =>
 oM Tryz.prog (.extract (.tmp 0) 0) 3 [v100_76] (fun v101_77 w =>
 oM Tryz.prog (.extract (.tmp 0) 1) 4 [v100_76] (fun v102_78 w =>
 oM Tryz.prog (.unOp .not 4 (.tmp 0)) 4 [v92_68] (fun v104_79 w =>
 gdM (gd v104_79 false) (pureM v102_78) (fun v106_80 w =>
 gdM (gd v104_79 false) (oM Tryz.prog (.unOp .not 4 (.tmp 0)) 4 [v106_80]) (fun v107_81 w =>
 oM Tryz.prog (.pick (.tmp 0) (.tmp 1) (.tmp 2)) 4 [v104_79, (.bool true), v107_81] (fun v108_82 w =>
 gdM (gd v108_82 false) (pureM v101_77) (fun v110_83 w =>
 gdM (gd v108_82 false) (oM Tryz.prog (.fieldAddr 43 (.tmp 0) 1) 0 [v10_18]) (fun v111_84 w =>
 gdM (gd v108_82 false) (oM Tryz.prog (.load 3 (.tmp 0)) 3 [v111_84]) (fun v112_85 w =>
 gdM (gd v108_82 false) (oM Tryz.prog (.binOp .neq 3 (.tmp 0) (.tmp 1) 3) 4 [v110_83, v112_85]) (fun v113_86 w =>
 oM Tryz.prog (.pick (.tmp 0) (.tmp 1) (.tmp 2)) 4 [v108_82, (.bool true), v113_86] (fun v114_87 w =>
 gdM (gd v114_87 false) (oM Tryz.prog (.load 47 (.tmp 0)) 47 [v12_27]) (fun v116_88 w =>
 gdM (gd v114_87 false) (oM Tryz.prog (.load 47 (.tmp 0)) 47 [v17_69]) (fun v117_89 w =>
 gdM (gd v114_87 false) (callM Tryz.prog 21 #[v116_88, v117_89]) (fun v118_90 w =>
 gdM (gd v114_87 false) (oM Tryz.prog (.unOp .not 4 (.tmp 0)) 4 [v118_90]) (fun v119_91 w =>
 oM Tryz.prog (.pick (.tmp 0) (.tmp 1) (.tmp 2)) 4 [v114_87, (.bool true), v119_91] (fun v120_92 w =>
 condM v120_92
 (K (.bool false) w)
 (M_41 [v77_58, v92_68, v101_77, v102_78, (l_37.getD 4 undef)] w)) w) w) w) w) w) w) w) w) w) w) w) w) w) w) w) w) w) w) w) w) w) w) w) w) w) w) w) w) w) w) w) w) w) w) w) w) w)) w)))))))))))))))
 (fun l_42 u_l_42 w => (oM Tryz.prog (.binOp .add 3 (.tmp 0) (.tmp 1) 3) 3 [(l_37.getD 5 undef), (.int .i64 1)] (fun v65_93 w =>
 J_35 [(l_42.getD 0 undef), (l_42.getD 1 undef), (l_42.getD 2 undef), (l_42.getD 3 undef), (l_42.getD 4 undef), v65_93] w ∧ m_36 [(l_42.getD 0 undef), (l_42.getD 1 undef), (l_42.getD 2 undef), (l_42.getD 3 undef), (l_42.getD 4 undef), v65_93] w < m_36 l_37 w0_l_37) w)))
 (gdM (gd v21_2 true) (pureM (l_37.getD 0 undef)) (fun v123_94 w =>
 gdM (gd v21_2 true) (oM Tryz.prog (.binOp .eql 3 (.tmp 0) (.const (.int .i64 1)) 3) 4 [v123_94]) (fun v124_95 w =>
 oM Tryz.prog (.pick (.tmp 0) (.tmp 1) (.tmp 2)) 4 [v21_2, v124_95, (.bool false)] (fun v125_96 w =>
 K v125_96 w) w) w) w)) w) w) w)) w0_l_37))) w) w) w)) w) w) w) w) w) w) w) w) w) w) w) w) w) w) w) w) w) w) w) w) w) w) w) w) w) w)) w) w) w) w) w) w) w) w) w
theorem sh_6_eq (a0 : Value) (a1 : Value) (a2 : Value) (K : Value → World → Prop) (w : World) : sh_6 a0 a1 a2 K w = code Tryz.prog (fun _ => .free [0, 1, 2, 3, 5, 7, 8] [4, 6] [9]) 126 (Tryz.f6.body.getD .skip) (slotsAt [a0, a1, a2]) (retK Tryz.prog [.tmp 6] K) w := by kernel_rfl
theorem sh_6_ok {a0 a1 a2 : Value} {K : Value → World → Prop} {w : World} (h : sh_6 a0 a1 a2 K w) : callM Tryz.prog 6 #[a0, a1, a2] K w :=
  calls_of_code (fun _ => .free [0, 1, 2, 3, 5, 7, 8] [4, 6] [9]) (fn := Tryz.f6) (rs := [.tmp 6]) Tryz.func6 rfl rfl (by kernel_rfl) (Nat.le_of_ble_eq_true rfl) ((sh_6_eq a0 a1 a2 K w).mp h)
def sh_21 (a0 : Value) (a1 : Value) (K : Value → World → Prop) (w : World) : Prop :=
 oM Tryz.prog (.box 47 (.tmp 0)) 0 [a0] (fun v2_1 w =>
 oM Tryz.prog (.box 47 (.tmp 0)) 0 [a1] (fun v3_2 w =>
 oM Tryz.prog (.fieldAddr 47 (.tmp 0) 0) 0 [v2_1] (fun v5_3 w =>
 oM Tryz.prog (.load 3 (.tmp 0)) 3 [v5_3] (fun v6_4 w =>
 oM Tryz.prog (.fieldAddr 47 (.tmp 0) 0) 0 [v3_2] (fun v7_5 w =>
 oM Tryz.prog (.load 3 (.tmp 0)) 3 [v7_5] (fun v8_6 w =>
 oM Tryz.prog (.binOp .eql 3 (.tmp 0) (.tmp 1) 3) 4 [v6_4, v8_6] (fun v9_7 w =>
 gdM (gd v9_7 true) (oM Tryz.prog (.fieldAddr 47 (.tmp 0) 1) 0 [v2_1]) (fun v11_8 w =>
 gdM (gd v9_7 true) (oM Tryz.prog (.load 22 (.tmp 0)) 22 [v11_8]) (fun v12_9 w =>
 gdM (gd v9_7 true) (oM Tryz.prog (.fieldAddr 47 (.tmp 0) 1) 0 [v3_2]) (fun v13_10 w =>
 gdM (gd v9_7 true) (oM Tryz.prog (.load 22 (.tmp 0)) 22 [v13_10]) (fun v14_11 w =>
 gdM (gd v9_7 true) (callM Tryz.prog 59 #[v12_9, v14_11]) (fun v15_12 w =>
 oM Tryz.prog (.pick (.tmp 0) (.tmp 1) (.tmp 2)) 4 [v9_7, v15_12, (.bool false)] (fun v16_13 w =>
 K v16_13 w) w) w) w) w) w) w) w) w) w) w) w) w) w
theorem sh_21_eq (a0 : Value) (a1 : Value) (K : Value → World → Prop) (w : World) : sh_21 a0 a1 K w = code Tryz.prog (fun _ => 0) 17 (Tryz.f21.body.getD .skip) (slotsAt [a0, a1]) (retK Tryz.prog [.tmp 4] K) w := by kernel_rfl
theorem sh_21_ok {a0 a1 : Value} {K : Value → World → Prop} {w : World} (h : sh_21 a0 a1 K w) : callM Tryz.prog 21 #[a0, a1] K w :=
  calls_of_code (fun _ => 0) (fn := Tryz.f21) (rs := [.tmp 4]) Tryz.func21 rfl rfl (by kernel_rfl) (Nat.le_of_ble_eq_true rfl) ((sh_21_eq a0 a1 K w).mp h)
end Go.Proofs
namespace Go.Proofs
open Go Go.Sh Go.RowKit FdSpec TkSpec CodeSpec
set_option linter.unusedSimpArgs false
set_option linter.unusedVariables false
set_option maxRecDepth 10000
section
variable {K : Value → World → Prop} {w w0 : World} {L : List (Addr × Value)}
theorem sz_grp (w : World) : (sizeOf 33).run Tryz.prog w = .ok 3 w := by kernel_rfl
theorem al_grp (w : World) : (Instr.alloc 33 true (.tuple #[])).run Tryz.prog w = .ok (.pointer (some ⟨w.heap.size, 0, none⟩)) (w.alloc (.cells [.int .i64 0, .int .i64 0, .int .i64 0].toArray 33)) := by kernel_rfl
theorem grp_one (g : Grp) : ∀ u ∈ grpC g, u.oneCell' = true := by
  intro u hu
  simp only [grpC, List.mem_cons, List.not_mem_nil, or_false] at hu
  rcases hu with rfl | rfl | rfl <;> rfl
theorem local_grpM {K : Value → World → Prop} {T' T2 : TypeId} {g n : Nat} (t : Grp) (hk : KnM w0 L g n w)
    (k : ∀ b W, KnM w0 (cellsOf L b 0 (grpC t)) g n W → Below w.heap.size w W → w.heap.size ≤ b → K (.pointer (some ⟨b, 0, none⟩)) W) :
    oM Tryz.prog (.alloc 33) T' [] (fun v w => oM Tryz.prog (.store 33 (.tmp 0) (.tmp 1)) T2 [v, grpV t] (fun _ w => K v w) w) w :=
  local_knm al_grp rfl sz_grp rfl rfl (grp_one t) hk k
theorem store_grp {K : Value → World → Prop} {T' : TypeId} {g : Nat} (t : Grp) (hk : KnM w0 L g 3 w)
    (k : ∀ W, KnM w0 L g 3 W → cellsAre W (cellsOf [] g 0 (grpC t)) → K undef W) : oM Tryz.prog (.store 33 (.tmp 0) (.tmp 1)) T' [.pointer (some ⟨g, 0, none⟩), grpV t] K w :=
  store_mine sz_grp rfl rfl (grp_one t) hk k
@[reducible] def zG : Grp := ⟨0, 0, 0⟩
theorem build_grp3 (T : TypeId) (a b c : Int) : oM Tryz.prog (Go.Op.build 33 #[(0, (.tmp 0)), (1, (.tmp 1)), (2, (.tmp 2))]) T [.int .i64 a, .int .i64 b, .int .i64 c] = pureM (grpV ⟨a, b, c⟩) := by
  funext K w
  kernel_rfl
theorem fMake_ok (q : Int) (hq : I64 q) (hT : DbT w) (k : ∀ w', Below w.heap.size w w' → K (.tuple #[grpV (makeG q).1, .bool (makeG q).2]) w') : callM Tryz.prog 68 #[.int .i64 q] K w := by
  apply sh_68_ok
  unfold sh_68
  have k2 : ∀ w' r, makeG q = r → Below w.heap.size w w' → K (.tuple #[grpV r.1, .bool r.2]) w' := fun w' r e hb => by rw [← e]; exact k w' hb
  clear k
  refine alloc_mine (n := 3) al_grp rfl (.start w) fun g W hk hb4 hg => ?_
  clear hb4
  by_cases h5 : q < 5
  · have e : makeG q = (zG, false) := by unfold makeG; rw [if_pos (.inl h5)]
    repeat (any_goals (first
    | (with_reducible first|((refine idGd ?_); refine zD ?_)|((refine idPick ?_); refine yB ?_)|((refine idCond ?_); refine yL ?_))
    | ((with_reducible refine idO ?_); (with_reducible refine oM_gen fun Kv hK=>?_); simp [go_sem, h5]; refine hK _ _ ?_; clear hK; clear Kv)))
    exact store_grp zG hk (fun W3 hk hc => ⟨_, by simp [go_sem, hc], k2 _ _ e hk.below⟩)
  by_cases h6 : 1152921504606846976 ≤ q
  · have e : makeG q = (zG, false) := by unfold makeG; rw [if_pos (.inr h6)]
    repeat (any_goals (first
    | (with_reducible first|refine pureM_in ?_|((refine idGd ?_); refine zC ?_)|((refine idPick ?_); refine yC ?_)|((refine idCond ?_); refine yL ?_))
    | ((with_reducible refine idO ?_); (with_reducible refine oM_gen fun Kv hK=>?_); simp [go_sem, h5, h6]; refine hK _ _ ?_; clear hK; clear Kv)))
    exact store_grp zG hk (fun W3 hk hc => ⟨_, by simp [go_sem, hc], k2 _ _ e hk.below⟩)
  have e : makeG q = if validG ⟨2 * q + 1, q, 4⟩ then (⟨2 * q + 1, q, 4⟩, true) else (zG, false) := by unfold makeG; rw [if_neg (by omega)]
  repeat (any_goals (first
  | ((with_reducible refine local_grpM ⟨2 * q + 1, q, 4⟩ hk ?_); intro b7 W7 hk hb7 hg7)
  | (with_reducible first|refine pureM_in ?_|((refine idGd ?_); refine zC ?_)|((refine idPick ?_); refine yC ?_)|((refine idCond ?_); refine yM ?_))
  | ((with_reducible refine idO ?_); (with_reducible refine oM_gen fun Kv hK=>?_); simp [go_sem, h5, h6, build_grp3, hk.cells]; (try simp (disch := omega) only [wrapI64, wrapU8, wrapU32, wrapU64]); refine hK _ _ ?_; clear hK; clear Kv)))
  refine ValidGroup_ok ⟨2 * q + 1, q, 4⟩ ⟨by unfold I64; dsimp only; omega, hq, by unfold I64; dsimp only; omega⟩ (hT.next hk.below) (fun w2 h2 => ?_)
  have hk := hk.next h2
  cases hv : validG ⟨2 * q + 1, q, 4⟩ with
  | false =>
    rw [hv, if_neg (by decide)] at e
    repeat (any_goals (first
    | (with_reducible ((refine idCond ?_); refine yM ?_))
    | ((with_reducible refine idO ?_); (with_reducible refine oM_gen fun Kv hK=>?_); simp [go_sem, hk.cells]; refine hK _ _ ?_; clear hK; clear Kv)))
    exact store_grp zG hk (fun W3 hk hc => ⟨_, by simp [go_sem, hc], k2 _ _ e hk.below⟩)
  | true =>
    rw [hv, if_pos rfl] at e
    repeat (any_goals (first
    | (with_reducible ((refine idCond ?_); refine yL ?_))
    | ((with_reducible refine idO ?_); (with_reducible refine oM_gen fun Kv hK=>?_); simp [go_sem, hk.cells]; refine hK _ _ ?_; clear hK; clear Kv)))
    exact store_grp ⟨2 * q + 1, q, 4⟩ hk (fun W3 hk hc => ⟨_, by simp [go_sem, hc], k2 _ _ e hk.below⟩)
structure Cas where
  q : Int
  m : Mir
  x : Int
  w : Int
  attrs : List Int
  b : Bld
@[reducible] def casV (c : Cas) (mv av yv : Value) : Value := .agg #[.int .i64 c.q, mv, .int .i64 c.m.blind, .int .i64 c.x, .int .i64 c.w, av, .int .i64 c.b.s, .int .i64 c.b.u, .int .i64 c.b.v, yv]
@[reducible] def casC (c : Cas) (mv av yv : Value) : List Value := [.int .i64 c.q, mv, .int .i64 c.m.blind, .int .i64 c.x, .int .i64 c.w, av, .int .i64 c.b.s, .int .i64 c.b.u, .int .i64 c.b.v, yv]
structure CasR (w : World) (c : Cas) (mv av yv : Value) : Prop where
  q : I64 c.q
  m : MirR w c.m mv
  x : I64 c.x
  wn : I64 c.w
  attrs : Ints w av c.attrs
  b : BldR w c.b yv
theorem CasR.next {w1 : World} {c : Cas} {mv av yv : Value} (h : CasR w c mv av yv) (hb : Below w.heap.size w w1) : CasR w1 c mv av yv := ⟨h.q, h.m.next hb, h.x, h.wn, h.attrs.next hb, h.b.next hb⟩
def smallM (c : Cas) : Bool := decide (c.m.bases.length ≤ 9) && (decide (c.attrs.length ≤ 9) && decide (c.b.ys.length ≤ 9))
theorem small_ok (c : Cas) {mv av yv : Value} (hc : CasR w c mv av yv) (k : ∀ w', Below w.heap.size w w' → K (.bool (smallM c)) w') : callM Tryz.prog 101 #[casV c mv av yv] K w := by
  apply sh_101_ok
  unfold sh_101
  obtain ⟨mad, mc, rfl⟩ := hc.m.ints.isSlice
  obtain ⟨aad, ac, rfl⟩ := hc.attrs.isSlice
  obtain ⟨yad, yc, rfl⟩ := hc.b.ys.isSlice
  refine box_kn (cs := casC c (.slice mad c.m.bases.length mc) (.slice aad c.attrs.length ac) (.slice yad c.b.ys.length yc)) rfl (.start w) fun b1 W hk hb1 hbb => ?_
  have k := k _ hk.below
  unfold smallM at k
  by_cases h1 : (c.m.bases.length : Int) ≤ 9
  rotate_left
  · rw [decide_eq_false (by omega : ¬ c.m.bases.length ≤ 9), Bool.false_and] at k
    repeat (any_goals (first
    | (with_reducible first|((refine idGd ?_); refine zB ?_)|((refine idPick ?_); refine yC ?_))
    | ((with_reducible refine idO ?_); (with_reducible refine oM_gen fun Kv hK=>?_); simp [go_sem, hk.cells, h1]; refine hK _ _ ?_; clear hK; clear Kv)))
    exact k
  rw [decide_eq_true (by omega : c.m.bases.length ≤ 9), Bool.true_and] at k
  by_cases h2 : (c.attrs.length : Int) ≤ 9
  rotate_left
  · rw [decide_eq_false (by omega : ¬ c.attrs.length ≤ 9), Bool.false_and] at k
    repeat (any_goals (first
    | (with_reducible first|((refine idGd ?_); first|refine zA ?_|refine zB ?_)|((refine idPick ?_); first|refine yB ?_|refine yC ?_))
    | ((with_reducible refine idO ?_); (with_reducible refine oM_gen fun Kv hK=>?_); simp [go_sem, hk.cells, h1, h2]; refine hK _ _ ?_; clear hK; clear Kv)))
    exact k
  rw [decide_eq_true (by omega : c.attrs.length ≤ 9), Bool.true_and] at k
  by_cases h3 : (c.b.ys.length : Int) ≤ 9
  · rw [decide_eq_true (by omega : c.b.ys.length ≤ 9)] at k
    repeat (any_goals (first
    | (with_reducible first|((refine idGd ?_); refine zA ?_)|((refine idPick ?_); refine yB ?_))
    | ((with_reducible refine idO ?_); (with_reducible refine oM_gen fun Kv hK=>?_); simp [go_sem, hk.cells, h1, h2, h3]; refine hK _ _ ?_; clear hK; clear Kv)))
    exact k
  · rw [decide_eq_false (by omega : ¬ c.b.ys.length ≤ 9)] at k
    repeat (any_goals (first
    | (with_reducible first|((refine idGd ?_); refine zA ?_)|((refine idPick ?_); refine yB ?_))
    | ((with_reducible refine idO ?_); (with_reducible refine oM_gen fun Kv hK=>?_); simp [go_sem, hk.cells, h1, h2, h3]; refine hK _ _ ?_; clear hK; clear Kv)))
    exact k
end
end Go.Proofs
namespace Go.Proofs
open Go Go.Sh Go.RowKit FdSpec TkSpec CodeSpec
set_option linter.unusedSimpArgs false
set_option linter.unusedVariables false
set_option maxRecDepth 10000
section
variable {K : Value → World → Prop} {w w0 : World} {L : List (Addr × Value)}
end
end Go.Proofs
namespace Go.Proofs
open Go Go.Sh Go.RowKit FdSpec TkSpec CodeSpec
set_option linter.unusedSimpArgs false
set_option linter.unusedVariables false
set_option maxRecDepth 10000
section
variable {K : Value → World → Prop} {w w0 : World} {L : List (Addr × Value)}
@[reducible] def sesV (x : Ses) (v : Value) : Value := .agg #[v, .int .i64 x.offer.z, .int .i64 x.offer.a, .int .i64 x.offer.b, .int .i64 x.c, .int .i64 x.r]
@[reducible] def sesC (x : Ses) (v : Value) : List Value := [v, .int .i64 x.offer.z, .int .i64 x.offer.a, .int .i64 x.offer.b, .int .i64 x.c, .int .i64 x.r]
structure SesR (w : World) (x : Ses) (v : Value) : Prop where
  attrs : Ints w v x.attrs
  offer : OffR x.offer
  c : I64 x.c
  r : I64 x.r
theorem SesR.next {w1 : World} {x : Ses} {v : Value} (h : SesR w x v) (hb : Below w.heap.size w w1) : SesR w1 x v := ⟨h.attrs.next hb, h.offer, h.c, h.r⟩
end
end Go.Proofs
namespace Go.Proofs
open Go Go.Sh Go.RowKit FdSpec TkSpec CodeSpec
set_option linter.unusedSimpArgs false
set_option linter.unusedVariables false
set_option maxRecDepth 10000
section
variable {K : Value → World → Prop} {w w0 : World} {L : List (Addr × Value)}
end
end Go.Proofs
namespace Go.Proofs
open Go Go.Sh Go.RowKit FdSpec TkSpec CodeSpec
set_option linter.unusedSimpArgs false
set_option linter.unusedVariables false
set_option maxRecDepth 10000
section
variable {K : Value → World → Prop} {w w0 : World} {L : List (Addr × Value)}
theorem finish_R (s : Stp) (key : Int) (l : List Int) (o : Off) (b : Bld) (r : Int) : TktR (finishM s key l o b r).1 := by
  have h0 : TktR zT := ⟨by constructor <;> decide, by constructor <;> decide, by constructor <;> decide, by constructor <;> decide, by constructor <;> decide, by constructor <;> decide⟩
  unfold finishM
  split
  · exact h0
  split
  · exact h0
  split
  · exact h0
  · have h := askTkt_R s l o b
    exact ⟨h.mark, h.first, h.z, h.a, h.b, addM_I64 _ _ _⟩
end
end Go.Proofs
namespace Go.Proofs
open Go Go.Sh Go.RowKit FdSpec TkSpec CodeSpec
set_option linter.unusedSimpArgs false
set_option linter.unusedVariables false
set_option maxRecDepth 10000
section
variable {K : Value → World → Prop} {w w0 : World} {L : List (Addr × Value)}
theorem take_snoc' {al : List Int} {i : Nat} {x : Int} (h : al[i]? = some x) : al.take i ++ [x] = al.take (i + 1) := by
  rw [List.take_add_one, h]; rfl
end
end Go.Proofs
namespace Go.Proofs
open Go Go.Sh Go.RowKit FdSpec TkSpec CodeSpec
set_option linter.unusedSimpArgs false
set_option linter.unusedVariables false
set_option maxRecDepth 10000
section
variable {K : Value → World → Prop} {w w0 : World} {L : List (Addr × Value)}
theorem mkI0 {T : TypeId} (k : ∀ ad c W, Below w.heap.size w W → OwnI W w.heap.size (.slice ad 0 c) [] → K (.slice ad 0 c) W) : oM Tryz.prog (.buildSlice 22 0 #[]) T [] K w := by
  rw [oM_buildSlice0]
  have e : (Instr.buildSlice 22 0 #[]).run Tryz.prog w = .ok (.slice (some ⟨w.heap.size, 0, none⟩) 0 0) (w.alloc (.cells #[] 3)) := by kernel_rfl
  rw [e]
  exact k _ _ _ ((Below.refl _ w).alloc (Nat.le_refl _) _) ⟨rfl, .inr ⟨w.heap.size, 0, #[], rfl, Nat.le_refl _, heap_alloc_new w _, Nat.le_refl _, by decide, rfl, rfl⟩⟩
def answersM (s : Stp) (l : List Int) (n : Int) (x : Spd) : List Int := ((expsM l).zip x.answers).map fun p => subM s.g.Q p.2 (mulM s.g.Q (mulM s.g.Q x.dare n) p.1)
theorem answersM_len (s : Stp) (l : List Int) (n : Int) (x : Spd) : (answersM s l n x).length = min (l.length + 1) x.answers.length := by
  unfold answersM
  rw [List.length_map, List.length_zip]
  rfl
theorem answersM_at {s : Stp} {l : List Int} {n : Int} {x : Spd} (i : Nat) (h1 : i < (expsM l).length) (h2 : i < x.answers.length) : (answersM s l n x)[i]? = some (subM s.g.Q x.answers[i] (mulM s.g.Q (mulM s.g.Q x.dare n) (expsM l)[i])) := by
  simp [answersM, h1, h2, List.getElem?_zip_eq_some]
  exact ⟨_, _, ⟨rfl, rfl⟩, rfl⟩
theorem answersM_rng {s : Stp} {l : List Int} {n : Int} {x : Spd} : ∀ m ∈ answersM s l n x, I64 m := by
  intro m hm
  obtain ⟨p, _, rfl⟩ := List.mem_map.1 hm
  exact subM_I64 _ _ _
def AnJ (al : List Int) (w0 : World) (vs : List Value) (w' : World) : Prop := ∃ (ov : Value) (i : Nat), vs = [ov, .int .i64 (i : Int)] ∧ i ≤ al.length ∧ Below w0.heap.size w0 w' ∧ OwnI w' w0.heap.size ov (al.take i)
theorem answers_ok (s : Stp) (n : Int) (x : Spd) {v xv lv : Value} {l : List Int} (hs : SetR w s v) (hl : Ints w lv l) (hx : SpdR w x xv) (hln : l.length < 1000)
    (k : ∀ w' ov, Below w.heap.size w w' → Ints w' ov (answersM s l n x) → K ov w') : callM Tryz.prog 35 #[stpV s v, lv, .int .i64 n, spdV x xv] K w := by
  apply sh_35_ok
  unfold sh_35
  obtain ⟨ad, c, rfl⟩ := hs.ints.isSlice
  have hxa := hx.answers
  obtain ⟨xad, xc, rfl⟩ := hx.answers.isSlice
  refine box_kn (cs := stpC s (.slice ad s.bases.length c)) rfl (.start w) fun b1 W hk hb1 hbb => ?_
  refine box_kn (cs := spdC x (.slice xad x.answers.length xc)) rfl hk fun b2 W2 hk hb2 hbb => ?_
  clear hb1 hb2
  refine Exps_ok (hl.next hk.below) (by omega) (fun ev w3 h3 he => ?_)
  have hk := hk.next h3
  clear h3
  obtain ⟨ead, ec, rfl⟩ := he.isSlice
  have hel : (expsM l).length = l.length + 1 := rfl
  have hal := answersM_len s l n x
  have hat := answersM_at (s := s) (l := l) (n := n) (x := x)
  have hrng := answersM_rng (s := s) (l := l) (n := n) (x := x)
  generalize answersM s l n x = al at *
  refine mkI0 fun oad oc w4 h4 ho => ?_
  refine ⟨AnJ al w3, grMu al.length, ⟨_, 0, rfl, by omega, h4, ho⟩, ?_⟩
  clear h4 ho
  rintro _ _ w6 ⟨ov, i, rfl, hi, h6, ho⟩
  have hk := hk.next h6
  by_cases hin : i = al.length
  · rw [List.take_of_length_le (by omega)] at ho
    have k := k _ _ hk.below (ho.ints hrng (by omega))
    by_cases h1 : (i : Int) < (expsM l).length
    · have h2 : ¬ ((i : Int) < x.answers.length) := by omega
      repeat (any_goals (first
      | (with_reducible first|refine pureM_in ?_|((refine idGd ?_); refine zA ?_)|((refine idPick ?_); refine yB ?_)|((refine idCond ?_); refine yM ?_))
      | ((with_reducible refine idO ?_); (with_reducible refine oM_gen fun Kv hK=>?_); simp [go_sem, hk.cells, h1, h2]; refine hK _ _ ?_; clear hK; clear Kv)))
      exact k
    · repeat (any_goals (first
      | (with_reducible first|((refine idGd ?_); refine zB ?_)|((refine idPick ?_); refine yC ?_)|((refine idCond ?_); refine yM ?_))
      | ((with_reducible refine idO ?_); (with_reducible refine oM_gen fun Kv hK=>?_); simp [go_sem, hk.cells, h1]; refine hK _ _ ?_; clear hK; clear Kv)))
      exact k
  · have h1 : (i : Int) < (expsM l).length := by omega
    have h2 : (i : Int) < x.answers.length := by omega
    obtain ⟨b8, o8, rfl, hb8, ca, ra, _⟩ := he.at (i := i) (by omega)
    obtain ⟨b9, o9, rfl, hb9, cb, rb, _⟩ := hxa.at (i := i) (by omega)
    have htk := take_snoc' (hat i (by omega) (by omega))
    generalize (expsM l)[i] = e at *
    generalize x.answers[i] = a at *
    repeat (any_goals (first
    | (with_reducible first|refine pureM_in ?_|((refine idGd ?_); refine zA ?_)|((refine idPick ?_); refine yB ?_)|((refine idCond ?_); refine yL ?_))
    | ((with_reducible refine idO ?_); (with_reducible refine oM_gen fun Kv hK=>?_); simp [go_sem, hk.cells, h1, h2]; refine hK _ _ ?_; clear hK; clear Kv)))
    have hk := hk.drew
    have h6 := h6.on (.drawn (B := w6.heap.size))
    have ho := OwnI.keep ho (Below.drawn (w := w6))
    refine ⟨Nx { w6 with drawn := w6.drawn + 1 }, Below.refl _ _, rfl, ?_⟩
    generalize ({ w6 with drawn := w6.drawn + 1 } : World) = W6 at hk h6 ho ⊢
    repeat (any_goals (first
    | (with_reducible refine pureH_in ?_)
    | ((with_reducible refine idOH ?_); (with_reducible refine oH_of ⟨_, rfl⟩ (fun W0 hW0 => by (refine oM_gen (fun Kv hK => ?_)); simp [go_sem, (hk.next hW0).cells, cb _ (hk.next hW0).below, ca _ (h6.on hW0)]; (first | exact hK _ _ ⟨rfl, rfl⟩ | exact ⟨by omega, hK _ _ ⟨rfl, rfl⟩⟩)) ?_))))
    refine ⟨Nx, ?_⟩
    apply monoE
    · intro w1 h1
      exact Mul_ok _ _ _ (fun w2 h2 => ⟨h1.on h2, h2, rfl⟩)
    apply monoE
    · rintro w1 h1 _ rfl
      exact Mul_ok _ _ _ (fun w2 h2 => ⟨h1.on h2, h2, rfl⟩)
    apply monoE
    · rintro w1 h1 _ rfl
      exact Sub_ok _ _ _ ⟨h1, Below.refl _ _, rfl⟩
    refine monoR (fun v w' => Ints w' v [subM s.g.Q a (mulM s.g.Q (mulM s.g.Q x.dare n) e)]) (fun v w w1 hS h => h.next hS) ?_ ?_
    · rintro w1 h1 _ rfl
      exact mk1 _ (subM_I64 _ _ _) (fun v w2 h2 hi => ⟨h1.on h2, h2, hi⟩)
    rintro w9 h9 _ rfl _ rfl _ rfl v9 hi9
    refine append1 (ho.keep h9) (h6.on h9).size hi9 (by rw [List.length_take]; omega) (fun v10 w10 ho h10 => ?_)
    repeat (any_goals ((with_reducible refine idO ?_); (with_reducible refine oM_gen fun Kv hK=>?_); simp [go_sem]; (try simp (disch := omega) only [wrapI64, wrapU8, wrapU32, wrapU64]); refine hK _ _ ?_; clear hK; clear Kv))
    rw [htk] at ho
    refine ⟨⟨_, i + 1, rfl, by omega, (h6.on h9).trans h10, ho⟩, ?_⟩
    simp only [grMu_eq]; omega
end
end Go.Proofs
namespace Go.Proofs
open Go Go.Sh Go.RowKit FdSpec TkSpec CodeSpec
set_option linter.unusedSimpArgs false
set_option linter.unusedVariables false
set_option maxRecDepth 10000
section
variable {K : Value → World → Prop} {w w0 : World} {L : List (Addr × Value)}
theorem local_stpM {K : Value → World → Prop} {T' T2 : TypeId} {g n : Nat} (s : Stp) (ad : Option Addr) (m c : Nat) (hk : KnM w0 L g n w)
    (k : ∀ b W, KnM w0 (cellsOf L b 0 (stpC s (.slice ad m c))) g n W → Below w.heap.size w W → w.heap.size ≤ b → K (.pointer (some ⟨b, 0, none⟩)) W) :
    oM Tryz.prog (.alloc 35) T' [] (fun v w => oM Tryz.prog (.store 35 (.tmp 0) (.tmp 1)) T2 [v, stpV s (.slice ad m c)] (fun _ w => K v w) w) w :=
  local_knm al_stp rfl sz_stp rfl rfl (stp_one s ad m c) hk k
def madeM (c : Cas) : Stp × Bool := if (makeG c.q).2 then makeM (makeG c.q).1 c.m else (zS, false)
theorem makeG_R {q : Int} (hq : I64 q) : GrpR (makeG q).1 := by
  have hz : GrpR ⟨0, 0, 0⟩ := ⟨by constructor <;> decide, by constructor <;> decide, by constructor <;> decide⟩
  unfold makeG
  split
  · exact hz
  · rename_i h
    split
    · exact ⟨by unfold I64; dsimp only; omega, hq, by unfold I64; dsimp only; omega⟩
    · exact hz
theorem made_ok (c : Cas) {mv av yv : Value} (hT : DbT w) (hc : CasR w c mv av yv) (k : ∀ w' sv, Below w.heap.size w w' → SetR w' (madeM c).1 sv → (∀ i, Value.inBlock sv = some i → w.heap.size ≤ i) → K (.tuple #[stpV (madeM c).1 sv, .bool (madeM c).2]) w') : callM Tryz.prog 100 #[casV c mv av yv] K w := by
  apply sh_100_ok
  unfold sh_100
  have hm := hc.m
  obtain ⟨mad, mc, rfl⟩ := hc.m.ints.isSlice
  obtain ⟨aad, ac, rfl⟩ := hc.attrs.isSlice
  obtain ⟨yad, yc, rfl⟩ := hc.b.ys.isSlice
  have k2 : ∀ w' sv r, madeM c = r → Below w.heap.size w w' → SetR w' r.1 sv → (∀ i, Value.inBlock sv = some i → w.heap.size ≤ i) → K (.tuple #[stpV r.1 sv, .bool r.2]) w' := fun w' sv r e hb hi hf => by
    rw [← e] at hi ⊢
    exact k w' sv hb hi hf
  clear k
  refine box_kn (cs := casC c (.slice mad c.m.bases.length mc) (.slice aad c.attrs.length ac) (.slice yad c.b.ys.length yc)) rfl (.start w) fun b1 W hk hb1 hbb => ?_
  refine alloc_mine (n := 5) al_stp rfl hk fun g0 W3 hk hb3 hg0 => ?_
  clear hb1 hb3
  have eM : madeM c = if (makeG c.q).2 then makeM (makeG c.q).1 c.m else (zS, false) := rfl
  have hgr := makeG_R hc.q
  repeat (any_goals ((with_reducible refine idO ?_); (with_reducible refine oM_gen fun Kv hK=>?_); simp [go_sem, hk.cells]; refine hK _ _ ?_; clear hK; clear Kv))
  refine fMake_ok c.q hc.q (hT.next hk.below) (fun w2 h2 => ?_)
  have hk := hk.next h2
  clear h2
  generalize (makeG c.q).1 = g at *
  generalize (makeG c.q).2 = ok at *
  iterate 2 (any_goals ((with_reducible refine idO ?_); (with_reducible refine oM_gen fun Kv hK=>?_); simp [go_sem]; refine hK _ _ ?_; clear hK; clear Kv))
  refine local_grpM g hk (fun b7 W7 hk hb7 hg7 => ?_)
  clear hb7
  cases ok with
  | false =>
    rw [if_neg (by decide)] at eM
    repeat (any_goals (first
    | (with_reducible ((refine idCond ?_); refine yL ?_))
    | ((with_reducible refine idO ?_); (with_reducible refine oM_gen fun Kv hK=>?_); simp [go_sem, hk.cells]; refine hK _ _ ?_; clear hK; clear Kv)))
    exact store_stp zS none 0 0 hk (fun W3 hk hc _ => ⟨_, by simp [go_sem, hc], k2 _ _ _ eM hk.below (zS_R (hT.next hk.below) (Ints.nil _)) (fun i h => by cases h)⟩)
  | true =>
  rw [if_pos rfl] at eM
  repeat (any_goals (first
  | (with_reducible ((refine idCond ?_); refine yM ?_))
  | ((with_reducible refine idO ?_); (with_reducible refine oM_gen fun Kv hK=>?_); simp [go_sem, hk.cells]; refine hK _ _ ?_; clear hK; clear Kv)))
  refine Make_ok g c.m hgr (hT.next hk.below) (hm.next hk.below) (fun w4 sv h4 hr hf => ?_)
  have hgl := mine_lt hk.mine
  have hkb := hk.below.size
  have hk := hk.next h4
  clear h4
  obtain ⟨sad, sc, rfl⟩ := hr.ints.isSlice
  have eM : madeM c = ((makeM g c.m).1, (makeM g c.m).2) := eM
  generalize (makeM g c.m).1 = t at *
  generalize (makeM g c.m).2 = q at *
  iterate 2 (any_goals ((with_reducible refine idO ?_); (with_reducible refine oM_gen fun Kv hK=>?_); simp [go_sem]; refine hK _ _ ?_; clear hK; clear Kv))
  refine local_stpM t sad t.bases.length sc hk (fun b8 W8 hk hb8 hg8 => ?_)
  have hr := hr.next hb8
  repeat (any_goals ((with_reducible refine idO ?_); (with_reducible refine oM_gen fun Kv hK=>?_); simp [go_sem, hk.cells]; refine hK _ _ ?_; clear hK; clear Kv))
  refine store_stp t sad t.bases.length sc hk (fun W3 hk hc hg3 => ⟨stpV t (.slice sad t.bases.length sc), by simp [go_sem, hc], k2 W3 (.slice sad t.bases.length sc) _ eM hk.below ⟨hr.grp, ⟨hr.ints.row.keep hg3.size (fun i hi hlt => hg3.block i hlt ?_), hr.ints.rng, hr.ints.len⟩, hr.blind, hT.next hk.below⟩ (fun i hi => Nat.le_trans hkb (hf i hi))⟩)
  have := hf i hi
  intro e
  have e2 : i = g0 := Option.some.inj e
  omega
end
end Go.Proofs
namespace TkSpec
open FdSpec
def grp (n : Nat) : Grp := ⟨2 * n + 1, n, 4⟩
def ordL : List Nat := [5, 11, 23, 29, 41, 53, 83, 89, 113, 131, 173, 179, 191]
theorem ord_of : ∀ n, n < 201 → validG (grp n) = true → n ∈ ordL := by decide +kernel
def powsL (n : Nat) : List Int := (List.range n).map fun k => pw (2 * n + 1) 4 k
theorem pows_nodup : ∀ n ∈ ordL, (powsL n).Nodup := by decide +kernel
theorem ord_inv : ∀ n ∈ ordL, ∀ a, a < n → 0 < a → ∃ b, b < n ∧ 0 < b ∧ a * b % n = 1 := by decide +kernel
end TkSpec
namespace TkSpec
open FdSpec
theorem pw_mul (n a : Int) (b c : Nat) : pw n a b * pw n a c % n = pw n a (b + c) := by
  unfold pw
  rw [← Int.mul_emod, ← Int.pow_add]
theorem pw_pw (n a : Int) (b c : Nat) : pw n (pw n a b) c = pw n a (b * c) := by
  have h := pw_emod n (a ^ b) c
  rw [show (a ^ b) % n = pw n a b from rfl] at h
  rw [h]
  unfold pw
  rw [Int.pow_mul]
theorem pw_mod {n a : Int} {q : Nat} (hn : 1 < n) (h : pw n a q = 1) (k : Nat) : pw n a k = pw n a (k % q) := by
  have h1 : pw n a (q * (k / q)) = 1 := by
    rw [← pw_pw, h]
    unfold pw
    rw [Int.one_pow]
    exact Int.emod_eq_of_lt (by omega) hn
  have h2 := pw_mul n a (q * (k / q)) (k % q)
  rw [h1, Int.one_mul, Nat.div_add_mod] at h2
  rw [← h2]
  unfold pw
  rw [Int.emod_emod]
def E (n : Nat) (k : Int) : Int := pw (2 * n + 1) 4 (k % n).toNat
structure Ok (n : Nat) : Prop where
  five : 5 ≤ n
  le : n ≤ 200
  one : pw (2 * n + 1) 4 n = 1
theorem E_nat {n : Nat} (h : Ok n) (k : Nat) : E n k = pw (2 * n + 1) 4 k := by
  unfold E
  rw [pw_mod (by have := h.five; omega) h.one k]
  congr 1
theorem E_add {n : Nat} (h : Ok n) (a b : Int) : E n a * E n b % (2 * n + 1) = E n (a + b) := by
  have h5 := h.five
  have e : E n (a + b) = E n (((a % n).toNat + (b % n).toNat : Nat) : Int) := by
    unfold E
    congr 2
    have h1 := Int.emod_nonneg a (b := n) (by omega)
    have h2 := Int.emod_nonneg b (b := n) (by omega)
    rw [Int.natCast_add, Int.toNat_of_nonneg h1, Int.toNat_of_nonneg h2, ← Int.add_emod]
  rw [e, E_nat h, ← pw_mul]
  rfl
theorem E_pow {n : Nat} (h : Ok n) (a k : Int) : pw (2 * n + 1) (E n a) (k % n).toNat = E n (a * k) := by
  have h5 := h.five
  have e : E n (a * k) = E n (((a % n).toNat * (k % n).toNat : Nat) : Int) := by
    unfold E
    congr 2
    have h1 := Int.emod_nonneg a (b := n) (by omega)
    have h2 := Int.emod_nonneg k (b := n) (by omega)
    rw [Int.natCast_mul, Int.toNat_of_nonneg h1, Int.toNat_of_nonneg h2, ← Int.mul_emod]
  rw [e, E_nat h]
  unfold E
  rw [pw_pw]
theorem E_cong {n : Nat} {a b : Int} (h : a % n = b % n) : E n a = E n b := by
  unfold E; rw [h]
end TkSpec
namespace TkSpec
open FdSpec
theorem Ok.q {n : Nat} (h : Ok n) : okN (n : Int) := by have := h.five; have := h.le; unfold okN; omega
theorem Ok.p {n : Nat} (h : Ok n) : okN (2 * (n : Int) + 1) := by have := h.five; have := h.le; unfold okN; omega
theorem powerG_E {n : Nat} (h : Ok n) (a k : Int) : powerG (grp n) (E n a) k = E n (a * k) := by
  unfold powerG
  rw [if_pos ⟨h.p, h.q⟩]
  exact E_pow h a k
theorem powerG_4 {n : Nat} (h : Ok n) (k : Int) : powerG (grp n) 4 k = E n k := by
  unfold powerG
  rw [if_pos ⟨h.p, h.q⟩]
  rfl
def dot : List Int → List Int → Int
  | a :: l, b :: m => a * b + dot l m
  | _, _ => 0
theorem prodL_E {n : Nat} (h : Ok n) : ∀ (ns es : List Int) (o : Int), prodL (grp n) (E n o) ((ns.map (E n)).zip es) = E n (o + dot ns es)
  | [], es, o => by simp [prodL, dot]
  | a :: ns, [], o => by simp [prodL, dot]
  | a :: ns, e :: es, o => by
    simp only [List.map_cons, List.zip_cons_cons, prodL]
    have h1 : mulM (grp n).P (E n o) (powerG (grp n) (E n a) e) = E n (o + a * e) := by
      rw [powerG_E h]
      unfold mulM
      rw [if_pos (show okN (grp n).P from h.p)]
      exact E_add h o (a * e)
    rw [h1, prodL_E h ns es]
    simp only [dot]
    congr 1
    omega
theorem E_zero {n : Nat} (h : Ok n) : E n 0 = 1 := by
  have h5 := h.five
  unfold E
  rw [Int.zero_emod]
  unfold pw
  rw [Int.toNat_zero, Int.pow_zero]
  exact Int.emod_eq_of_lt (by omega) (by omega)
theorem prodG_E {n : Nat} (h : Ok n) (ns es : List Int) (hl : ns.length = es.length) : prodG (grp n) (ns.map (E n)) es = (E n (dot ns es), true) := by
  unfold prodG
  rw [if_pos ⟨h.p, h.q, by rw [List.length_map]; exact hl⟩]
  have h5 := h.five
  have e : (1 : Int) % (grp n).P = E n 0 := by
    rw [E_zero h]
    exact Int.emod_eq_of_lt (by decide) (show (1 : Int) < 2 * n + 1 by omega)
  rw [e, prodL_E h, Int.zero_add]
theorem ord_one : ∀ n ∈ ordL, pw (2 * n + 1) 4 n = 1 := by decide +kernel
theorem ord_rng : ∀ n ∈ ordL, 5 ≤ n ∧ n ≤ 200 := by decide
theorem ok_of {n : Nat} (h : n ∈ ordL) : Ok n := ⟨(ord_rng n h).1, (ord_rng n h).2, ord_one n h⟩
theorem E_inj {n : Nat} (hn : n ∈ ordL) {a b : Int} (h : E n a = E n b) : a % n = b % n := by
  have h5 := (ok_of hn).five
  have h1 := Int.emod_nonneg a (b := n) (by omega)
  have h2 := Int.emod_nonneg b (b := n) (by omega)
  have h3 := Int.emod_lt_of_pos a (b := n) (by omega)
  have h4 := Int.emod_lt_of_pos b (b := n) (by omega)
  have hnd := pows_nodup n hn
  have key : ∀ i j, i < j → j < n → pw (2 * n + 1) 4 i ≠ pw (2 * n + 1) 4 j := fun i j hij hj he => by
    have hlen : (powsL n).length = n := by unfold powsL; simp
    have := (List.pairwise_iff_getElem.1 hnd) i j (by omega) (by omega) hij
    apply this
    unfold powsL
    simp only [List.getElem_map, List.getElem_range]
    exact he
  unfold E at h
  have e1 : ((a % n).toNat : Int) = a % n := Int.toNat_of_nonneg h1
  have e2 : ((b % n).toNat : Int) = b % n := Int.toNat_of_nonneg h2
  rcases Nat.lt_trichotomy (a % n).toNat (b % n).toNat with hlt | heq | hgt
  · exact absurd h (key _ _ hlt (by omega))
  · omega
  · exact absurd h.symm (key _ _ hgt (by omega))
end TkSpec
namespace TkSpec
open FdSpec
def ansF (n d S : Int) (p : Int × Int) : Int := addM n p.2 (mulM n (mulM n d S) p.1)
def ansG (n d i : Int) (p : Int × Int) : Int := subM n p.2 (mulM n (mulM n d i) p.1)
theorem step_lin (n a ys e e' d S i : Int) (hn : okN n) : ∃ q, a * ansG n d i (e', ansF n d S (e, ys)) = a * ys + d * S * (a * e) - d * i * (a * e') + n * q := by
  unfold ansG ansF addM subM mulM
  simp only [if_pos hn]
  rw [Int.emod_def (d * S) n]
  generalize d * S / n = A
  rw [Int.emod_def ((d * S - n * A) * e) n]
  generalize (d * S - n * A) * e / n = B
  rw [Int.emod_def (ys + _) n]
  generalize (ys + ((d * S - n * A) * e - n * B)) / n = C
  rw [Int.emod_def (d * i) n]
  generalize d * i / n = D
  rw [Int.emod_def ((d * i - n * D) * e') n]
  generalize (d * i - n * D) * e' / n = F
  rw [Int.emod_def]
  generalize (ys + ((d * S - n * A) * e - n * B) - n * C - ((d * i - n * D) * e' - n * F)) / n = G
  exact ⟨-(a * (A * e + B + C - D * e' - F + G)), by grind⟩
theorem dot_lin (n d S i : Int) (hn : okN n) : ∀ (ns es ys es' : List Int), es.length = ns.length → ys.length = ns.length → es'.length = ns.length →
    ∃ q, dot ns ((es'.zip ((es.zip ys).map (ansF n d S))).map (ansG n d i)) = dot ns ys + d * S * dot ns es - d * i * dot ns es' + n * q
  | [], es, ys, es', _, _, _ => ⟨0, by simp [dot]⟩
  | a :: ns, e :: es, y :: ys, e' :: es', h1, h2, h3 => by
    simp only [List.length_cons, Nat.add_right_cancel_iff] at h1 h2 h3
    obtain ⟨q, hq⟩ := dot_lin n d S i hn ns es ys es' h1 h2 h3
    obtain ⟨r, hr⟩ := step_lin n a y e e' d S i hn
    simp only [List.zip_cons_cons, List.map_cons, dot]
    rw [hq, hr]
    exact ⟨q + r, by grind⟩
  | a :: ns, [], ys, es', h1, _, _ => by simp at h1
  | a :: ns, e :: es, [], es', _, h2, _ => by simp at h2
  | a :: ns, e :: es, y :: ys, [], _, _, h3 => by simp at h3
theorem ans_back (n d i x e' : Int) (hn : okN n) (hx : 0 ≤ x ∧ x < n) : ansF n d i (e', ansG n d i (e', x)) = x := by
  unfold ansF ansG addM subM
  simp only [if_pos hn]
  generalize mulM n (mulM n d i) e' = m
  rw [Int.emod_def (x - m) n]
  generalize (x - m) / n = A
  have h : x - m - n * A + m = x + n * (-A) := by grind
  rw [h, Int.add_mul_emod_self_left]
  exact Int.emod_eq_of_lt hx.1 hx.2
#print axioms dot_lin
end TkSpec
namespace TkSpec
open FdSpec
theorem E_dvd {n : Nat} {a b q : Int} (h : a = b + n * q) : E n a = E n b := by
  subst h
  unfold E
  rw [Int.add_mul_emod_self_left]
theorem E_ex {n : Nat} (hn : n ∈ ordL) {a b : Int} (h : E n a = E n b) : ∃ q, a = b + n * q := by
  have h := E_inj hn h
  have h1 := Int.emod_add_mul_ediv a n
  have h2 := Int.emod_add_mul_ediv b n
  exact ⟨a / n - b / n, by grind⟩
theorem E_ne {n : Nat} (hn : n ∈ ordL) {a : Int} (h : E n a ≠ 1) : 0 < a % n := by
  have h5 := (ok_of hn).five
  have h1 := Int.emod_nonneg a (b := n) (by omega)
  by_cases h0 : a % n = 0
  · exfalso
    apply h
    rw [← E_zero (ok_of hn)]
    exact E_cong (by rw [h0]; simp)
  · omega
theorem inv_ex {n : Nat} (hn : n ∈ ordL) {a : Int} (h : 0 < a % n) : ∃ b q : Int, a * b = 1 + n * q := by
  have h5 := (ok_of hn).five
  have h3 := Int.emod_lt_of_pos a (b := n) (by omega)
  obtain ⟨b, hb, _, he⟩ := ord_inv n hn (a % n).toNat (by omega) (by omega)
  have e1 : ((a % n).toNat : Int) = a % n := Int.toNat_of_nonneg (by omega)
  have h2 := Int.emod_add_mul_ediv a n
  have h4 := Int.emod_add_mul_ediv ((a % n) * b) n
  have he' : ((a % n) * (b : Int)) % n = 1 := by
    have := congrArg (fun k : Nat => (k : Int)) he
    simp only [Int.natCast_emod, Int.natCast_mul, e1] at this
    simpa using this
  rw [he'] at h4
  exact ⟨b, (a % n) * b / n + a / n * b, by grind⟩
theorem prime_ne {n : Nat} (hn : n ∈ ordL) {a s : Int} (h : 0 < a % n) (h1 : 1 ≤ s) (h2 : s < n) : ∀ q : Int, a * s ≠ n * q := by
  intro q he
  have h5 := (ok_of hn).five
  obtain ⟨b, r, hb⟩ := inv_ex hn h
  have : s = n * (q * b - r * s) := by grind
  have h6 : n * (q * b - r * s) % (n : Int) = 0 := Int.mul_emod_right _ _
  rw [← this, Int.emod_eq_of_lt (by omega) h2] at h6
  omega
theorem core_ex {n : Nat} (hn : n ∈ ordL) {a a' s : Int} (ha : E n a ≠ 1) (ha' : E n a' ≠ 1) (h1 : 1 ≤ s) (h2 : s < n) :
    ∃ i : Int, 1 ≤ i ∧ i < n ∧ E n (a' * i) = E n (a * s) ∧ ∀ j : Int, 1 ≤ j → j < n → E n (a' * j) = E n (a * s) → j = i := by
  have h5 := (ok_of hn).five
  obtain ⟨b, r, hb⟩ := inv_ex hn (E_ne hn ha')
  have hi0 := Int.emod_nonneg (a * s * b) (b := n) (by omega)
  have hi1 := Int.emod_lt_of_pos (a * s * b) (b := n) (by omega)
  have hi2 := Int.emod_add_mul_ediv (a * s * b) n
  generalize a * s * b / n = q at hi2
  have hne : a * s * b % n ≠ 0 := fun h0 => by
    rw [h0] at hi2
    exact prime_ne hn (E_ne hn ha) h1 h2 (a' * q - r * (a * s)) (by grind)
  generalize hi : a * s * b % n = i at *
  refine ⟨i, by omega, hi1, E_dvd (q := r * (a * s) - a' * q) (by grind), fun j hj1 hj2 he => ?_⟩
  obtain ⟨t, ht⟩ := E_ex hn he
  have e : j = i + n * (q + t * b - r * j) := by grind
  have h3 : (i + n * (q + t * b - r * j)) % (n : Int) = i := by
    rw [Int.add_mul_emod_self_left]; exact Int.emod_eq_of_lt hi0 hi1
  rw [← e, Int.emod_eq_of_lt (by omega) hj2] at h3
  exact h3
theorem core_first {n : Nat} (hn : n ∈ ordL) {d S i : Int} {ns es ys es' : List Int} (h1 : es.length = ns.length) (h2 : ys.length = ns.length) (h3 : es'.length = ns.length)
    (he : E n (dot ns es' * i) = E n (dot ns es * S)) : E n (dot ns ((es'.zip ((es.zip ys).map (ansF n d S))).map (ansG n d i))) = E n (dot ns ys) := by
  obtain ⟨t, ht⟩ := E_ex hn he
  obtain ⟨q, hq⟩ := dot_lin n d S i (ok_of hn).q ns es ys es' h1 h2 h3
  exact E_dvd (q := q - d * t) (by grind)
end TkSpec
namespace Go.Proofs
open Go Go.Sh Go.RowKit FdSpec TkSpec CodeSpec
set_option linter.unusedSimpArgs false
set_option linter.unusedVariables false
set_option maxRecDepth 10000
theorem made_facts {q : Int} {m : Mir} (h1 : (makeG q).2 = true) (h2 : (makeM (makeG q).1 m).2 = true) (hq : q ≤ 200) :
    ∃ n : Nat, n ∈ ordL ∧ q = n ∧ (makeM (makeG q).1 m).1.g = grp n ∧ (makeM (makeG q).1 m).1.bases = m.bases.map (E n) := by
  unfold makeG at h1 h2 ⊢
  split at h1
  · cases h1
  rename_i hc
  rw [if_neg hc] at h2 ⊢
  split at h1
  rotate_left
  · cases h1
  rename_i hv
  rw [if_pos hv] at h2 ⊢
  have e : ((q.toNat : Nat) : Int) = q := Int.toNat_of_nonneg (by omega)
  have eg : (⟨2 * q + 1, q, 4⟩ : Grp) = grp q.toNat := by unfold grp; rw [e]
  rw [eg] at hv h2 ⊢
  have hn := ord_of q.toNat (by omega) hv
  refine ⟨q.toNat, hn, e.symm, ?_, ?_⟩
  · unfold makeM at h2 ⊢
    split at h2
    · rename_i h; rw [if_pos h]
    · cases h2
  · unfold makeM at h2 ⊢
    split at h2
    · rename_i h; rw [if_pos h]
      show m.bases.map (powerG (grp q.toNat) 4) = _
      congr 1
      funext k
      exact powerG_4 (ok_of hn) k
    · cases h2
theorem mark_E {n : Nat} (hn : n ∈ ordL) {s : Stp} {ns l : List Int} (hg : s.g = grp n) (hb : s.bases = ns.map (E n)) (hu : (usableM s l).2 = true) :
    (markM s l).1 = E n (dot ns (expsM l)) ∧ E n (dot ns (expsM l)) ≠ 1 ∧ l.length + 1 = ns.length := by
  have hl := usable_len hu
  have hlen : l.length + 1 = ns.length := by rw [hl.1, hb, List.length_map]
  have hm : (markM s l).1 = E n (dot ns (expsM l)) := by
    unfold usableM at hu
    simp only [Bool.and_eq_true] at hu
    have h2 := hu.1
    unfold markM at h2 ⊢
    split at h2
    · rename_i h
      rw [if_pos h, hg, hb, prodG_E (ok_of hn) ns (expsM l) hlen.symm]
    · cases h2
  refine ⟨hm, fun h => ?_, hlen⟩
  unfold usableM at hu
  simp only [Bool.and_eq_true] at hu
  rw [hm, h] at hu
  exact absurd hu.2 (by decide)
end Go.Proofs
namespace Go.Proofs
open Go Go.Sh Go.RowKit FdSpec TkSpec CodeSpec
set_option linter.unusedSimpArgs false
set_option linter.unusedVariables false
set_option maxRecDepth 10000
theorem ansL_F {n : Nat} {s : Stp} {l : List Int} {b : Bld} {dare : Int} (hg : s.g = grp n) : ansL s l b dare = ((expsM l).zip b.ys).map (ansF n dare b.s) := by
  unfold ansL
  congr 1
  funext p
  unfold plusQ mulQ ansF
  rw [hg]
  rfl
theorem answersM_G {n : Nat} {s : Stp} {l : List Int} {i : Int} {x : Spd} (hg : s.g = grp n) : answersM s l i x = ((expsM l).zip x.answers).map (ansG n x.dare i) := by
  unfold answersM
  congr 1
  funext p
  unfold ansG
  rw [hg]
  rfl
theorem use_facts {s : Stp} {l : List Int} {b : Bld} {dare : Int} (h : (useM s l b dare).2 = true) : (usableM s l).2 = true ∧ blindsM s b = true ∧ numsM s 1 [dare] = true := by
  cases hu : (usableM s l).2 with
  | false => rw [useM_no (.inl hu)] at h; cases h
  | true =>
  cases hb : blindsM s b with
  | false => rw [useM_no (.inr (.inl hb))] at h; cases h
  | true =>
  cases hn : numsM s 1 [dare] with
  | false => rw [useM_no (.inr (.inr hn))] at h; cases h
  | true => exact ⟨rfl, rfl, rfl⟩
theorem hides_ex {n : Nat} (hn : n ∈ ordL) {s : Stp} {ns l attrs : List Int} {b : Bld} {dare : Int} (hg : s.g = grp n) (hb : s.bases = ns.map (E n)) (hu : (useM s l b dare).2 = true) (ha : (usableM s attrs).2 = true) :
    ∃ i : Int, 1 ≤ i ∧ i < n ∧ powerG s.g (markM s attrs).1 i = powerG s.g (usableM s l).1 b.s ∧ ∀ j : Int, 1 ≤ j → j < n → powerG s.g (markM s attrs).1 j = powerG s.g (usableM s l).1 b.s → j = i := by
  obtain ⟨h1, h2, h3⟩ := use_facts hu
  obtain ⟨m1, n1, l1⟩ := mark_E hn hg hb h1
  obtain ⟨m2, n2, l2⟩ := mark_E hn hg hb ha
  have e1 : (usableM s l).1 = (markM s l).1 := rfl
  have hS : 1 ≤ b.s ∧ b.s < n := by
    unfold blindsM numsM at h2
    rw [hg] at h2
    simp only [List.all_cons, List.all_nil, Bool.and_eq_true, decide_eq_true_eq] at h2
    exact ⟨h2.1.1.1.1.1, h2.1.1.1.1.2⟩
  obtain ⟨i, i1, i2, i3, i4⟩ := core_ex hn n1 n2 hS.1 hS.2
  rw [e1, m1, m2, hg]
  refine ⟨i, i1, i2, ?_, fun j j1 j2 j3 => i4 j j1 j2 ?_⟩
  · rw [powerG_E (ok_of hn), powerG_E (ok_of hn)]; exact i3
  · rw [powerG_E (ok_of hn), powerG_E (ok_of hn)] at j3; exact j3
end Go.Proofs
namespace Go.Proofs
open Go Go.Sh Go.RowKit FdSpec TkSpec CodeSpec
set_option linter.unusedSimpArgs false
set_option linter.unusedVariables false
set_option maxRecDepth 10000
theorem addM_rng {n : Nat} (hn : n ∈ ordL) (a b : Int) : 0 ≤ addM n a b ∧ addM n a b < n := addM_range _ _ _ (ok_of hn).q
theorem zip_back {n : Nat} (hn : n ∈ ordL) (d i : Int) : ∀ (es xs : List Int), xs.length = es.length → (∀ x ∈ xs, 0 ≤ x ∧ x < (n : Int)) → ((es.zip ((es.zip xs).map (ansG n d i))).map (ansF n d i)) = xs
  | [], [], _, _ => rfl
  | e :: es, x :: xs, hl, hx => by
    simp only [List.length_cons, Nat.add_right_cancel_iff] at hl
    simp only [List.zip_cons_cons, List.map_cons]
    rw [ans_back n d i x e (ok_of hn).q (hx x (by simp)), zip_back hn d i es xs hl (fun y hy => hx y (by simp [hy]))]
  | [], x :: xs, hl, _ => by simp at hl
  | e :: es, [], hl, _ => by simp at hl
theorem hides_same {n : Nat} (hn : n ∈ ordL) {s : Stp} {ns l attrs : List Int} {b : Bld} {dare i : Int} (hg : s.g = grp n) (hb : s.bases = ns.map (E n)) (hu : (useM s l b dare).2 = true) (ha : (usableM s attrs).2 = true)
    (h1 : 1 ≤ i) (h2 : i < n) (he : powerG s.g (markM s attrs).1 i = powerG s.g (usableM s l).1 b.s) :
    useM s attrs ⟨i, 1, 0, answersM s attrs i (useM s l b dare).1⟩ dare = ((useM s l b dare).1, true) ∧ prodG s.g s.bases (answersM s attrs i (useM s l b dare).1) = ((prodG s.g s.bases b.ys).1, true) := by
  obtain ⟨u1, u2, u3⟩ := use_facts hu
  obtain ⟨m1, n1, l1⟩ := mark_E hn hg hb u1
  obtain ⟨m2, n2, l2⟩ := mark_E hn hg hb ha
  have e1 : (usableM s l).1 = (markM s l).1 := rfl
  have hy := blinds_len u2
  have hbl : s.bases.length = ns.length := by rw [hb, List.length_map]
  have ok := ok_of hn
  have h5 := ok.five
  rw [useM_yes u1 u2 u3]
  dsimp only
  rw [answersM_G hg, ansL_F hg]
  dsimp only
  rw [e1, m1, m2, hg, powerG_E ok, powerG_E ok] at he
  have hxl : (((expsM l).zip b.ys).map (ansF n dare b.s)).length = ns.length := by
    rw [List.length_map, List.length_zip]
    show min (l.length + 1) _ = _
    omega
  have hxr : ∀ x ∈ ((expsM l).zip b.ys).map (ansF n dare b.s), 0 ≤ x ∧ x < (n : Int) := by
    intro x hx
    obtain ⟨p, _, rfl⟩ := List.mem_map.1 hx
    exact addM_rng hn _ _
  have hcf := core_first hn (d := dare) (S := b.s) (i := i) (ns := ns) (es := expsM l) (ys := b.ys) (es' := expsM attrs) (by show l.length + 1 = _; omega) (by omega) (by show attrs.length + 1 = _; omega) he
  generalize ((expsM l).zip b.ys).map (ansF n dare b.s) = xs at *
  have hal : (((expsM attrs).zip xs).map (ansG n dare i)).length = ns.length := by
    rw [List.length_map, List.length_zip]
    show min (attrs.length + 1) _ = _
    omega
  have har : numsM s 0 (((expsM attrs).zip xs).map (ansG n dare i)) = true := by
    unfold numsM
    rw [List.all_eq_true]
    intro x hx
    obtain ⟨p, _, rfl⟩ := List.mem_map.1 hx
    have := subM_range n p.2 (mulM n (mulM n dare i) p.1) ok.q
    unfold ansG
    rw [hg]
    show (decide (0 ≤ _) && decide (_ < (n : Int))) = true
    rw [decide_eq_true this.1, decide_eq_true this.2]; rfl
  constructor
  · have hbl2 : blindsM s ⟨i, 1, 0, ((expsM attrs).zip xs).map (ansG n dare i)⟩ = true := by
      unfold blindsM
      rw [har, decide_eq_true (show (((expsM attrs).zip xs).map (ansG n dare i)).length = s.bases.length by omega)]
      unfold numsM
      rw [hg]
      show (((decide (1 ≤ i) && decide (i < (n : Int))) && ((decide ((1 : Int) ≤ 1) && decide ((1 : Int) < n)) && true)) && ((decide ((0 : Int) ≤ 0) && decide ((0 : Int) < n)) && true) && true && true) = true
      rw [decide_eq_true h1, decide_eq_true h2, decide_eq_true (by omega : (1 : Int) < n), decide_eq_true (by omega : (0 : Int) < n)]
      rfl
    rw [useM_yes ha hbl2 u3, ansL_F hg]
    dsimp only
    rw [zip_back hn dare i (expsM attrs) xs (by rw [hxl]; show _ = attrs.length + 1; omega) hxr]
  · rw [hg, hb, prodG_E ok ns _ (by omega), prodG_E ok ns b.ys (by omega), hcf]
end Go.Proofs
namespace Go.Proofs
open Go Go.Sh Go.RowKit FdSpec TkSpec CodeSpec
set_option linter.unusedSimpArgs false
set_option linter.unusedVariables false
set_option maxRecDepth 10000
section
variable {K : Value → World → Prop} {w w0 : World} {L : List (Addr × Value)}
theorem SameSpend_ok (x y : Spd) {v u : Value} (hx : SpdR w x v) (hy : SpdR w y u) (k : ∀ w', Below w.heap.size w w' → K (.bool (decide (x.dare = y.dare) && decide (x.answers = y.answers))) w') : callM Tryz.prog 21 #[spdV x v, spdV y u] K w := by
  apply sh_21_ok
  unfold sh_21
  have hx' := hx.answers
  have hy' := hy.answers
  obtain ⟨ad, c, rfl⟩ := hx.answers.isSlice
  obtain ⟨ad2, c2, rfl⟩ := hy.answers.isSlice
  refine box_kn (cs := spdC x (.slice ad x.answers.length c)) rfl (.start w) fun b1 W hk hb1 hbb => ?_
  refine box_kn (cs := spdC y (.slice ad2 y.answers.length c2)) rfl hk fun b2 W2 hk hb2 hbb => ?_
  by_cases hd : x.dare = y.dare
  rotate_left
  · rw [decide_eq_false hd, Bool.false_and] at k
    repeat (any_goals (first
    | (with_reducible first|((refine idGd ?_); refine zB ?_)|((refine idPick ?_); refine yC ?_))
    | ((with_reducible refine idO ?_); (with_reducible refine oM_gen fun Kv hK=>?_); simp [go_sem, hk.cells, hd]; refine hK _ _ ?_; clear hK; clear Kv)))
    exact k _ hk.below
  rw [decide_eq_true hd, Bool.true_and] at k
  repeat (any_goals (first
  | (with_reducible ((refine idGd ?_); refine zA ?_))
  | ((with_reducible refine idO ?_); (with_reducible refine oM_gen fun Kv hK=>?_); simp [go_sem, hk.cells, hd]; refine hK _ _ ?_; clear hK; clear Kv)))
  refine Same_ok (hx'.next hk.below) (hy'.next hk.below) (fun w3 h3 => ?_)
  have k := k _ (hk.next h3).below
  generalize decide (x.answers = y.answers) = q at *
  repeat (any_goals (with_reducible ((refine idPick ?_); refine yB ?_)))
  exact k
structure Iss where
  s : Stp
  x : Ses
  t : Tkt
  ok : Bool
def zX : Ses := ⟨[], ⟨0, 0, 0⟩, 0, 0⟩
def issuedM (c : Cas) : Iss :=
  if smallM c && (madeM c).2 then
    if decide ((proposeM (madeM c).1 c.x c.attrs c.w).2 = 0) && decide ((askM (madeM c).1 (publicM (madeM c).1 c.x) c.attrs (proposeM (madeM c).1 c.x c.attrs c.w).1 c.b).2 = 0) then
      ⟨(madeM c).1, ⟨c.attrs, (proposeM (madeM c).1 c.x c.attrs c.w).1, (askM (madeM c).1 (publicM (madeM c).1 c.x) c.attrs (proposeM (madeM c).1 c.x c.attrs c.w).1 c.b).1, grantM (madeM c).1 c.x c.w (askM (madeM c).1 (publicM (madeM c).1 c.x) c.attrs (proposeM (madeM c).1 c.x c.attrs c.w).1 c.b).1⟩,
        (finishM (madeM c).1 (publicM (madeM c).1 c.x) c.attrs (proposeM (madeM c).1 c.x c.attrs c.w).1 c.b (grantM (madeM c).1 c.x c.w (askM (madeM c).1 (publicM (madeM c).1 c.x) c.attrs (proposeM (madeM c).1 c.x c.attrs c.w).1 c.b).1)).1,
        decide ((finishM (madeM c).1 (publicM (madeM c).1 c.x) c.attrs (proposeM (madeM c).1 c.x c.attrs c.w).1 c.b (grantM (madeM c).1 c.x c.w (askM (madeM c).1 (publicM (madeM c).1 c.x) c.attrs (proposeM (madeM c).1 c.x c.attrs c.w).1 c.b).1)).2 = 0)⟩
    else ⟨(madeM c).1, zX, zT, false⟩
  else ⟨(madeM c).1, zX, zT, false⟩
theorem finish_ok {s : Stp} {key r : Int} {l : List Int} {o : Off} {b : Bld} (h : (finishM s key l o b r).2 = 0) : (finishM s key l o b r).1.mark = powerG s.g (usableM s l).1 b.s ∧ (finishM s key l o b r).1.first = (prodG s.g s.bases b.ys).1 := by
  unfold finishM at h ⊢
  split at h
  · rename_i hc; exact absurd h hc
  rename_i hc
  rw [if_neg hc]
  split at h
  · cases h
  rename_i hc
  rw [if_neg hc]
  split at h
  · cases h
  rename_i hc
  rw [if_neg hc]
  exact ⟨rfl, rfl⟩
theorem issued_facts {c : Cas} (h : (issuedM c).ok = true) : smallM c = true ∧ (madeM c).2 = true ∧ (issuedM c).s = (madeM c).1 ∧ (issuedM c).t.mark = powerG (madeM c).1.g (usableM (madeM c).1 c.attrs).1 c.b.s ∧ (issuedM c).t.first = (prodG (madeM c).1.g (madeM c).1.bases c.b.ys).1 := by
  unfold issuedM at h ⊢
  split at h
  · rename_i h1
    rw [if_pos h1]
    simp only [Bool.and_eq_true] at h1
    split at h
    · rename_i h2
      rw [if_pos h2]
      have hf := finish_ok (of_decide_eq_true h)
      exact ⟨h1.1, h1.2, rfl, hf.1, hf.2⟩
    · cases h
  · cases h
end
end Go.Proofs
namespace Go.Proofs
open Go Go.Sh Go.RowKit FdSpec TkSpec CodeSpec
set_option linter.unusedSimpArgs false
set_option linter.unusedVariables false
set_option maxRecDepth 10000
section
variable {K : Value → World → Prop} {w w0 : World} {L : List (Addr × Value)}
theorem sz_ses (w : World) : (sizeOf 41).run Tryz.prog w = .ok 6 w := by kernel_rfl
theorem al_ses (w : World) : (Instr.alloc 41 true (.tuple #[])).run Tryz.prog w = .ok (.pointer (some ⟨w.heap.size, 0, none⟩)) (w.alloc (.cells (sesC zX (.slice none 0 0)).toArray 41)) := by kernel_rfl
theorem ses_one (x : Ses) (ad : Option Addr) (n c : Nat) : ∀ u ∈ sesC x (.slice ad n c), u.oneCell' = true := by
  intro u hu
  simp only [sesC, List.mem_cons, List.not_mem_nil, or_false] at hu
  rcases hu with rfl | rfl | rfl | rfl | rfl | rfl <;> rfl
structure Res3 (w : World) (B g1 g2 g3 : Nat) (a b c : List Value) : Prop where
  lo : B ≤ g1 ∧ g1 < g2 ∧ g2 < g3
  s : Holds w g1 35 a
  x : Holds w g2 41 b
  t : Holds w g3 43 c
theorem Res3.next {w1 : World} {B g1 g2 g3 : Nat} {a b c : List Value} (h : Res3 w B g1 g2 g3 a b c) (hb : Below w.heap.size w w1) : Res3 w1 B g1 g2 g3 a b c := ⟨h.lo, h.s.next hb, h.x.next hb, h.t.next hb⟩
abbrev Fr3 (g1 g2 g3 : Nat) (w w' : World) : Prop := Fr (fun i => i = g1 ∨ i = g2 ∨ i = g3) w w'
theorem store3 {B g1 g2 g3 : Nat} {a b c : List Value} {T1 T2 T3 : TypeId} (s : Stp) (ad : Option Addr) (n cc : Nat) (x : Ses) (ad2 : Option Addr) (n2 c2 : Nat) (t : Tkt) (q : Bool) (hr : Res3 w B g1 g2 g3 a b c) (la : a.length = 5) (lb : b.length = 6) (lc : c.length = 6)
    (k : ∀ W, Fr3 g1 g2 g3 w W → K (.tuple #[stpV s (.slice ad n cc), sesV x (.slice ad2 n2 c2), tktV t, .bool q]) W) :
    oM Tryz.prog (.store 35 (.tmp 0) (.tmp 1)) T1 [.pointer (some ⟨g1, 0, none⟩), stpV s (.slice ad n cc)] (fun _ w => oM Tryz.prog (.store 41 (.tmp 0) (.tmp 1)) T2 [.pointer (some ⟨g2, 0, none⟩), sesV x (.slice ad2 n2 c2)] (fun _ w => oM Tryz.prog (.store 43 (.tmp 0) (.tmp 1)) T3 [.pointer (some ⟨g3, 0, none⟩), tktV t] (fun _ w =>
      ∃ r1, (do loadVar 35 (← asAddr (.pointer (some ⟨g1, 0, none⟩))) : Sem Value).run Tryz.prog w = .ok r1 w ∧ ∃ r2, (do loadVar 41 (← asAddr (.pointer (some ⟨g2, 0, none⟩))) : Sem Value).run Tryz.prog w = .ok r2 w ∧ ∃ r3, (do loadVar 43 (← asAddr (.pointer (some ⟨g3, 0, none⟩))) : Sem Value).run Tryz.prog w = .ok r3 w ∧ K (.tuple #[r1, r2, r3, .bool q]) w) w) w) w := by
  obtain ⟨h0, h1, h2⟩ := hr.lo
  refine arr_store sz_stp rfl rfl (stp_one s ad n cc) hr.s la (fun W1 hg1 hs => ?_)
  refine arr_store sz_ses rfl rfl (ses_one x ad2 n2 c2) (hr.x.other hg1 (by omega)) lb (fun W2 hg2 hx => ?_)
  refine arr_store sz_tkt rfl rfl (tkt_one t) ((hr.t.other hg1 (by omega)).other hg2 (by omega)) lc (fun W3 hg3 ht => ?_)
  have hs := (hs.other hg2 (by omega)).other hg3 (by omega)
  have hx := hx.other hg3 (by omega)
  refine ⟨stpV s (.slice ad n cc), by simp [go_sem, hs.are], sesV x (.slice ad2 n2 c2), by simp [go_sem, hx.are], tktV t, by simp [go_sem, ht.are], k _ ?_⟩
  have f0 : Fr3 g1 g2 g3 w w := Fr.refl _ _
  exact ((f0.by hg1 (fun i e => .inl (.inl (Option.some.inj e).symm))).by hg2 (fun i e => .inl (.inr (.inl (Option.some.inj e).symm)))).by hg3 (fun i e => .inl (.inr (.inr (Option.some.inj e).symm)))
theorem fr3_below {w1 W : World} {g1 g2 g3 : Nat} (hb : Below w.heap.size w w1) (h : Fr3 g1 g2 g3 w1 W) (h1 : w.heap.size ≤ g1) (h2 : g1 < g2) (h3 : g2 < g3) : Below w.heap.size w W :=
  ⟨h.os.trans hb.os, h.tape.trans hb.tape, h.output.trans hb.output, Nat.le_trans hb.size h.size, fun i hi => (h.block i (Nat.lt_of_lt_of_le hi hb.size) (fun e => by rcases e with rfl | rfl | rfl <;> omega)).trans (hb.block i hi)⟩
theorem ints_fr3 {W : World} {g1 g2 g3 : Nat} {v : Value} {l : List Int} (hi : Ints w v l) (h : Fr3 g1 g2 g3 w W) (hne : ∀ i, Value.inBlock v = some i → i ≠ g1 ∧ i ≠ g2 ∧ i ≠ g3) : Ints W v l :=
  ⟨hi.row.keep h.size (fun i e hlt => h.block i hlt (fun e2 => by have := hne i e; rcases e2 with rfl | rfl | rfl <;> omega)), hi.rng, hi.len⟩
theorem zX_R : SesR w zX (.slice none 0 0) := ⟨Ints.nil _, ⟨by constructor <;> decide, by constructor <;> decide, by constructor <;> decide⟩, by constructor <;> decide, by constructor <;> decide⟩
theorem zT_R : TktR zT := ⟨by constructor <;> decide, by constructor <;> decide, by constructor <;> decide, by constructor <;> decide, by constructor <;> decide, by constructor <;> decide⟩
theorem cells_fr3 {W : World} {g1 g2 g3 : Nat} : ∀ {L : List (Addr × Value)}, cellsAre w L → Fr3 g1 g2 g3 w W → (∀ p ∈ L, p.1.block < w.heap.size ∧ p.1.block ≠ g1 ∧ p.1.block ≠ g2 ∧ p.1.block ≠ g3) → cellsAre W L
  | [], _, _, _ => trivial
  | p :: L, hL, h, hn => by
    obtain ⟨h0, h1, h2, h3⟩ := hn p (by simp)
    exact ⟨(World.cell?_of_block (h.block _ h0 (fun e => by rcases e with e | e | e <;> contradiction))).trans hL.1, cells_fr3 hL.2 h (fun q hq => hn q (by simp [hq]))⟩
end
end Go.Proofs
namespace Go.Proofs
open Go Go.Sh Go.RowKit FdSpec TkSpec CodeSpec
set_option linter.unusedSimpArgs false
set_option linter.unusedVariables false
set_option maxRecDepth 10000
section
variable {K : Value → World → Prop} {w w0 : World} {L : List (Addr × Value)}
theorem propose_R (s : Stp) (x : Int) (l : List Int) (y : Int) : OffR (proposeM s x l y).1 := by
  unfold proposeM
  split
  · exact ⟨powerG_I64 _ _ _, genM_I64 _ _, powerG_I64 _ _ _⟩
  · exact ⟨by constructor <;> decide, by constructor <;> decide, by constructor <;> decide⟩
theorem publicM_I64 (s : Stp) (x : Int) : I64 (publicM s x) := by
  unfold publicM
  split
  · exact genM_I64 _ _
  · constructor <;> decide
theorem askM_I64 (s : Stp) (key : Int) (l : List Int) (o : Off) (b : Bld) : I64 (askM s key l o b).1 := by
  unfold askM
  dsimp only
  split
  · exact mulQ_I64 _ _ _ (by simp)
  · constructor <;> decide
theorem build_ses4 (T : TypeId) (ad : Option Addr) (n cc : Nat) (o : Off) (x y : Int) : oM Tryz.prog (Go.Op.build 41 #[(0, (.tmp 0)), (1, (.tmp 1)), (2, (.tmp 2)), (3, (.tmp 3))]) T [.slice ad n cc, offV o, .int .i64 x, .int .i64 y] = pureM (sesV ⟨[], o, x, y⟩ (.slice ad n cc)) := by
  funext K w
  kernel_rfl
theorem grantM_I64 (s : Stp) (x w c : Int) : I64 (grantM s x w c) := by
  unfold grantM
  split
  · exact addM_I64 _ _ _
  · constructor <;> decide
theorem issued_end {g1 g2 g3 b2 g7 g8 B : Nat} {a b c : List Value} (s : Stp) (ad : Option Addr) (n cc : Nat) (x : Ses) (ad2 : Option Addr) (n2 c2 : Nat) (t : Tkt) (e : Int)
    (hr : Res3 w B g1 g2 g3 a b c) (la : a.length = 5) (lb : b.length = 6) (lc : c.length = 6) (hs : cellsAre w (cellsOf [] b2 0 (stpC s (.slice ad n cc)))) (hx : Holds w g7 41 (sesC x (.slice ad2 n2 c2))) (ht : Holds w g8 43 (tktC t))
    (o2 : b2 ≠ g1 ∧ b2 ≠ g2 ∧ b2 ≠ g3) (o7 : g7 ≠ g1 ∧ g7 ≠ g2 ∧ g7 ≠ g3) (o8 : g8 ≠ g1 ∧ g8 ≠ g2 ∧ g8 ≠ g3)
    (k : ∀ W, Fr3 g1 g2 g3 { w with drawn := w.drawn + 1 } W → K (.tuple #[stpV s (.slice ad n cc), sesV x (.slice ad2 n2 c2), tktV t, .bool (decide (e = 0))]) W) :
    heldM w (fun C w => (oH Tryz.prog (Go.Op.load 35 (.tmp 0)) 35 [.pointer (some ⟨b2, 0, none⟩)] C (fun v92_110 =>
 oH Tryz.prog (Go.Op.load 41 (.tmp 0)) 41 [.pointer (some ⟨g7, 0, none⟩)] C (fun v93_111 =>
 oH Tryz.prog (Go.Op.load 43 (.tmp 0)) 43 [.pointer (some ⟨g8, 0, none⟩)] C (fun v94_112 =>
 pureH (.int .i64 e) C (fun v95_113 =>
 oH Tryz.prog (Go.Op.binOp Go.BinOp.eql 50 (.tmp 0) (.const (.int .i64 0)) 50) 4 [v95_113] C (fun v96_114 =>
 oM Tryz.prog (Go.Op.store 35 (.tmp 0) (.tmp 1)) 0 [.pointer (some ⟨g1, 0, none⟩), v92_110] (fun _ w => C w ∧ (
 oM Tryz.prog (Go.Op.store 41 (.tmp 0) (.tmp 1)) 0 [.pointer (some ⟨g2, 0, none⟩), v93_111] (fun _ w => C w ∧ (
 oM Tryz.prog (Go.Op.store 43 (.tmp 0) (.tmp 1)) 0 [.pointer (some ⟨g3, 0, none⟩), v94_112] (fun _ w => C w ∧ (
 C w ∧ (∃ r_116, (do loadVar 35 (← asAddr (.pointer (some ⟨g1, 0, none⟩))) : Sem Value).run Tryz.prog w = .ok r_116 w ∧ ∃ r_117, (do loadVar 41 (← asAddr (.pointer (some ⟨g2, 0, none⟩))) : Sem Value).run Tryz.prog w = .ok r_117 w ∧ ∃ r_118, (do loadVar 43 (← asAddr (.pointer (some ⟨g3, 0, none⟩))) : Sem Value).run Tryz.prog w = .ok r_118 w ∧ K (.tuple #[r_116, r_117, r_118, v96_114]) w))) w)) w)) w))))))) := by
  have hb : Below w.heap.size w { w with drawn := w.drawn + 1 } := .drawn
  have hr := hr.next hb
  have hall : cellsAre { w with drawn := w.drawn + 1 } (cellsOf (cellsOf (cellsOf [] b2 0 (stpC s (.slice ad n cc))) g7 0 (sesC x (.slice ad2 n2 c2))) g8 0 (tktC t)) := by
    have A := fun {vs : List Value} {g : Nat} {T : TypeId} {L : List (Addr × Value)} (h : Holds { w with drawn := w.drawn + 1 } g T vs) (hL : cellsAre { w with drawn := w.drawn + 1 } L) => cellsOf_are (xs := vs) hL (fun i v hi => by
      obtain ⟨hl, rfl⟩ := List.getElem?_eq_some_iff.1 hi
      exact h.cell i hl) vs 0 rfl
    exact A (ht.next hb) (A (hx.next hb) (cellsAre_keep hs fun a ha => hb.cell ha))
  refine ⟨Fr3 g1 g2 g3 { w with drawn := w.drawn + 1 }, Fr.refl _ _, ?_⟩
  generalize ({ w with drawn := w.drawn + 1 } : World) = W at hr hall k ⊢
  have hoff : ∀ p ∈ cellsOf (cellsOf (cellsOf [] b2 0 (stpC s (.slice ad n cc))) g7 0 (sesC x (.slice ad2 n2 c2))) g8 0 (tktC t), p.1.block < W.heap.size ∧ p.1.block ≠ g1 ∧ p.1.block ≠ g2 ∧ p.1.block ≠ g3 := fun p hp => by
    refine ⟨cells_lt hall p hp, ?_⟩
    rcases cellsOf_mem _ _ _ hp with h | hp
    · rw [h]; exact o8
    rcases cellsOf_mem _ _ _ hp with h | hp
    · rw [h]; exact o7
    rcases cellsOf_mem _ _ _ hp with h | hp
    · rw [h]; exact o2
    · cases hp
  repeat (any_goals (first
  | (with_reducible refine pureH_in ?_)
  | ((with_reducible refine idOH ?_); (with_reducible refine oH_of ⟨_, rfl⟩ (fun W0 hW0 => by (refine oM_gen (fun Kv hK => ?_)); simp [go_sem, (cells_fr3 hall hW0 hoff)]; (first | exact hK _ _ ⟨rfl, rfl⟩ | exact ⟨by omega, hK _ _ ⟨rfl, rfl⟩⟩)) ?_))))
  obtain ⟨h0, h1, h2⟩ := hr.lo
  have f0 : Fr3 g1 g2 g3 W W := Fr.refl _ _
  refine arr_store sz_stp rfl rfl (stp_one s ad n cc) hr.s la (fun W1 hg1 hs => ?_)
  have f0 := f0.by hg1 (fun i e => .inl (.inl (Option.some.inj e).symm))
  refine ⟨f0, ?_⟩
  refine arr_store sz_ses rfl rfl (ses_one x ad2 n2 c2) (hr.x.other hg1 (by omega)) lb (fun W2 hg2 hx => ?_)
  have f0 := f0.by hg2 (fun i e => .inl (.inr (.inl (Option.some.inj e).symm)))
  refine ⟨f0, ?_⟩
  refine arr_store sz_tkt rfl rfl (tkt_one t) ((hr.t.other hg1 (by omega)).other hg2 (by omega)) lc (fun W3 hg3 ht => ?_)
  have f0 := f0.by hg3 (fun i e => .inl (.inr (.inr (Option.some.inj e).symm)))
  have hs := (hs.other hg2 (by omega)).other hg3 (by omega)
  have hx := hx.other hg3 (by omega)
  exact ⟨f0, f0, stpV s (.slice ad n cc), by simp [go_sem, hs.are], sesV x (.slice ad2 n2 c2), by simp [go_sem, hx.are], tktV t, by simp [go_sem, ht.are], k _ f0⟩
theorem issued_ok (c : Cas) {mv av yv : Value} (hT : DbT w) (hL : Cd.Laid w) (hc : CasR w c mv av yv)
    (k : ∀ w' sv xv, Below w.heap.size w w' → SetR w' (issuedM c).s sv → SesR w' (issuedM c).x xv → TktR (issuedM c).t → K (.tuple #[stpV (issuedM c).s sv, sesV (issuedM c).x xv, tktV (issuedM c).t, .bool (issuedM c).ok]) w') : callM Tryz.prog 33 #[casV c mv av yv] K w := by
  apply sh_33_ok
  unfold sh_33
  have hc' := hc
  obtain ⟨mad, mc, rfl⟩ := hc.m.ints.isSlice
  obtain ⟨aad, ac, rfl⟩ := hc.attrs.isSlice
  obtain ⟨yad, yc, rfl⟩ := hc.b.ys.isSlice
  refine box_kn (cs := casC c (.slice mad c.m.bases.length mc) (.slice aad c.attrs.length ac) (.slice yad c.b.ys.length yc)) rfl (.start w) fun b1 W hk hb1 hbb => ?_
  refine arr_alloc al_stp fun g1 w1 h1 hg1 hh1 => ?_
  refine arr_alloc al_ses fun g2 w2 h2 hg2 hh2 => ?_
  refine arr_alloc al_tkt fun g3 w3 h3 hg3 hh3 => ?_
  have hr : Res3 w3 W.heap.size g1 g2 g3 _ _ _ := ⟨⟨hg1, Nat.lt_of_lt_of_le hh1.lt hg2, Nat.lt_of_lt_of_le hh2.lt hg3⟩, (hh1.next h2).next h3, hh2.next h3, hh3⟩
  have hwW := hk.below.size
  have hg3l : g3 < w3.heap.size := hr.t.lt
  have hk := ((hk.next h1).next h2).next h3
  clear h1 h2 h3 hh1 hh2 hh3 hb1
  repeat (any_goals ((with_reducible refine idO ?_); (with_reducible refine oM_gen fun Kv hK=>?_); simp [go_sem, hk.cells]; refine hK _ _ ?_; clear hK; clear Kv))
  refine made_ok c (hT.next hk.below) (hc'.next hk.below) (fun w4 sv h4 hs hf => ?_)
  have hk := hk.next h4
  have hr := hr.next h4
  have hg3w4 := hr.t.lt
  clear h4
  obtain ⟨sad, sc, rfl⟩ := hs.ints.isSlice
  iterate 2 (any_goals ((with_reducible refine idO ?_); (with_reducible refine oM_gen fun Kv hK=>?_); simp [go_sem]; refine hK _ _ ?_; clear hK; clear Kv))
  refine local_stp (madeM c).1 sad (madeM c).1.bases.length sc hk (fun b2 w5 hk h5 hb2 => ?_)
  have hr := hr.next h5
  have hs := hs.next h5
  clear h5
  repeat (any_goals ((with_reducible refine idO ?_); (with_reducible refine oM_gen fun Kv hK=>?_); simp [go_sem, hk.cells]; refine hK _ _ ?_; clear hK; clear Kv))
  refine small_ok c (hc'.next hk.below) (fun w6 h6 => ?_)
  have hk := hk.next h6
  have hr := hr.next h6
  have hs := hs.next h6
  clear h6
  have hlo := hr.lo
  have hwl := hk.below.size
  have bad : issuedM c = ⟨(madeM c).1, zX, zT, false⟩ → ∀ (w7 : World) (a b d : List Value), a.length = 5 → b.length = 6 → d.length = 6 → Below w.heap.size w w7 → SetR w7 (madeM c).1 (.slice sad (madeM c).1.bases.length sc) → Res3 w7 W.heap.size g1 g2 g3 a b d →
      ∀ W9, Fr3 g1 g2 g3 w7 W9 → K (.tuple #[stpV (madeM c).1 (.slice sad (madeM c).1.bases.length sc), sesV zX (.slice none 0 0), tktV zT, .bool false]) W9 := fun e w7 a b d la lb ld hb hs hr W9 hf3 => by
    have hW := fr3_below hb hf3 (by omega) hlo.2.1 hlo.2.2
    have := k W9 (.slice sad (madeM c).1.bases.length sc) (.slice none 0 0) hW
    rw [e] at this
    exact this ⟨hs.grp, ints_fr3 hs.ints hf3 (fun i hi => by have := hf i hi; omega), hs.blind, hT.next hW⟩ zX_R zT_R
  cases hsm : smallM c with
  | false =>
    repeat (any_goals (first
    | (with_reducible first|((refine idGd ?_); refine zD ?_)|((refine idPick ?_); refine yB ?_)|((refine idCond ?_); refine yL ?_))
    | ((with_reducible refine idO ?_); (with_reducible refine oM_gen fun Kv hK=>?_); simp [go_sem, hk.cells]; refine hK _ _ ?_; clear hK; clear Kv)))
    exact store3 (madeM c).1 sad (madeM c).1.bases.length sc zX none 0 0 zT false hr rfl rfl rfl (bad (by unfold issuedM; rw [hsm]; rfl) _ _ _ _ rfl rfl rfl hk.below hs hr)
  | true =>
  cases hmd : (madeM c).2 with
  | false =>
    repeat (any_goals (first
    | (with_reducible first|refine pureM_in ?_|((refine idGd ?_); refine zC ?_)|((refine idPick ?_); refine yC ?_)|((refine idCond ?_); refine yL ?_))
    | ((with_reducible refine idO ?_); (with_reducible refine oM_gen fun Kv hK=>?_); simp [go_sem, hk.cells]; refine hK _ _ ?_; clear hK; clear Kv)))
    exact store3 (madeM c).1 sad (madeM c).1.bases.length sc zX none 0 0 zT false hr rfl rfl rfl (bad (by unfold issuedM; rw [hsm, hmd]; rfl) _ _ _ _ rfl rfl rfl hk.below hs hr)
  | true =>
  repeat (any_goals (first
  | (with_reducible first|refine pureM_in ?_|((refine idGd ?_); refine zC ?_)|((refine idPick ?_); refine yC ?_)|((refine idCond ?_); refine yM ?_))
  | ((with_reducible refine idO ?_); (with_reducible refine oM_gen fun Kv hK=>?_); simp [go_sem, hk.cells]; refine hK _ _ ?_; clear hK; clear Kv)))
  refine Propose_ok (madeM c).1 c.x c.w hc'.x hc'.wn (hs.next (Below.refl _ _)) (hc'.attrs.next hk.below) (fun w7 h7 => ?_)
  have hk := hk.next h7
  have hr := hr.next h7
  have hs := hs.next h7
  clear h7
  have ei : issuedM c = if decide ((proposeM (madeM c).1 c.x c.attrs c.w).2 = 0) && decide ((askM (madeM c).1 (publicM (madeM c).1 c.x) c.attrs (proposeM (madeM c).1 c.x c.attrs c.w).1 c.b).2 = 0) then
      ⟨(madeM c).1, ⟨c.attrs, (proposeM (madeM c).1 c.x c.attrs c.w).1, (askM (madeM c).1 (publicM (madeM c).1 c.x) c.attrs (proposeM (madeM c).1 c.x c.attrs c.w).1 c.b).1, grantM (madeM c).1 c.x c.w (askM (madeM c).1 (publicM (madeM c).1 c.x) c.attrs (proposeM (madeM c).1 c.x c.attrs c.w).1 c.b).1⟩,
        (finishM (madeM c).1 (publicM (madeM c).1 c.x) c.attrs (proposeM (madeM c).1 c.x c.attrs c.w).1 c.b (grantM (madeM c).1 c.x c.w (askM (madeM c).1 (publicM (madeM c).1 c.x) c.attrs (proposeM (madeM c).1 c.x c.attrs c.w).1 c.b).1)).1,
        decide ((finishM (madeM c).1 (publicM (madeM c).1 c.x) c.attrs (proposeM (madeM c).1 c.x c.attrs c.w).1 c.b (grantM (madeM c).1 c.x c.w (askM (madeM c).1 (publicM (madeM c).1 c.x) c.attrs (proposeM (madeM c).1 c.x c.attrs c.w).1 c.b).1)).2 = 0)⟩
    else ⟨(madeM c).1, zX, zT, false⟩ := by
    unfold issuedM
    rw [hsm, hmd]
    rfl
  have hpo : OffR (proposeM (madeM c).1 c.x c.attrs c.w).1 := propose_R _ _ _ _
  generalize (madeM c).1 = s at *
  generalize (proposeM s c.x c.attrs c.w).1 = o at *
  generalize (proposeM s c.x c.attrs c.w).2 = pe at *
  iterate 2 (any_goals ((with_reducible refine idO ?_); (with_reducible refine oM_gen fun Kv hK=>?_); simp [go_sem]; refine hK _ _ ?_; clear hK; clear Kv))
  refine local_off o hk (fun b3 w8 hk h8 hb3 => ?_)
  have hr := hr.next h8
  have hs := hs.next h8
  clear h8
  have hk := hk.drew
  have hr := hr.next (.drawn (B := w8.heap.size))
  have hs := hs.next (.drawn (B := w8.heap.size))
  refine ⟨Nx { w8 with drawn := w8.drawn + 1 }, Below.refl _ _, rfl, ?_⟩
  generalize ({ w8 with drawn := w8.drawn + 1 } : World) = W8 at hk hr hs ⊢
  repeat (any_goals ((with_reducible refine idOH ?_); (with_reducible refine oH_of ⟨_, rfl⟩ (fun W0 hW0 => by (refine oM_gen (fun Kv hK => ?_)); simp [go_sem, (hk.next hW0).cells]; (first | exact hK _ _ ⟨rfl, rfl⟩ | exact ⟨by omega, hK _ _ ⟨rfl, rfl⟩⟩)) ?_)))
  refine ⟨Nx, ?_⟩
  apply monoE
  · intro w1 h1
    exact Public_ok s c.x hc'.x (hs.next h1) (fun w2 h2 => ⟨h1.on h2, h2, rfl⟩)
  apply monoE
  · rintro w1 h1 _ rfl
    exact Ask_ok s (publicM s c.x) o c.b (publicM_I64 _ _) hpo (hs.next h1) (hc'.attrs.next (hk.next h1).below) (hc'.b.next (hk.next h1).below) (hL.below (hk.next h1).below hL.size) (fun w2 h2 => ⟨h1.on h2, h2, rfl⟩)
  repeat (apply monoE; focus (intro w9 h9; (repeat (intro v9 e9; try (obtain rfl := e9))); (repeat (any_goals ((with_reducible refine idO ?_); (with_reducible refine oM_gen fun Kv hK=>?_); simp [go_sem]; refine hK _ _ ?_; clear hK; clear Kv))); exact ⟨h9, Below.refl _ _, rfl⟩))
  (intro w9 h9; repeat (intro v9 e9; try (obtain rfl := e9)))
  have hk := hk.next h9
  have hr := hr.next h9
  have hs := hs.next h9
  clear h9
  have hkey : I64 (publicM s c.x) := publicM_I64 _ _
  generalize hkq : publicM s c.x = key at *
  have hn : I64 (askM s key c.attrs o c.b).1 := askM_I64 _ _ _ _ _
  generalize (askM s key c.attrs o c.b).1 = n at *
  generalize (askM s key c.attrs o c.b).2 = ae at *
  by_cases hpe : pe = 0
  rotate_left
  · rw [decide_eq_false hpe, Bool.false_and, if_neg (by decide)] at ei
    repeat (any_goals (first
    | (with_reducible first|((refine idGd ?_); refine zD ?_)|((refine idPick ?_); refine yB ?_)|((refine idCond ?_); refine yL ?_))
    | ((with_reducible refine idO ?_); (with_reducible refine oM_gen fun Kv hK=>?_); simp [go_sem, hk.cells, hpe]; refine hK _ _ ?_; clear hK; clear Kv)))
    exact store3 s sad s.bases.length sc zX none 0 0 zT false hr rfl rfl rfl (bad ei _ _ _ _ rfl rfl rfl hk.below hs hr)
  by_cases hae : ae = 0
  rotate_left
  · rw [decide_eq_false hae, Bool.and_false, if_neg (by decide)] at ei
    repeat (any_goals (first
    | (with_reducible first|refine pureM_in ?_|((refine idGd ?_); refine zC ?_)|((refine idPick ?_); refine yC ?_)|((refine idCond ?_); refine yL ?_))
    | ((with_reducible refine idO ?_); (with_reducible refine oM_gen fun Kv hK=>?_); simp [go_sem, hk.cells, hpe, hae]; refine hK _ _ ?_; clear hK; clear Kv)))
    exact store3 s sad s.bases.length sc zX none 0 0 zT false hr rfl rfl rfl (bad ei _ _ _ _ rfl rfl rfl hk.below hs hr)
  rw [decide_eq_true hpe, decide_eq_true hae, Bool.true_and, if_pos rfl] at ei
  clear bad
  repeat (any_goals (first
  | (with_reducible first|refine pureM_in ?_|((refine idGd ?_); refine zC ?_)|((refine idPick ?_); refine yC ?_)|((refine idCond ?_); refine yM ?_))
  | ((with_reducible refine idO ?_); (with_reducible refine oM_gen fun Kv hK=>?_); simp [go_sem, hk.cells, hpe, hae]; refine hK _ _ ?_; clear hK; clear Kv)))
  have hk := hk.drew
  have hr := hr.next (.drawn (B := w9.heap.size))
  have hs := hs.next (.drawn (B := w9.heap.size))
  refine ⟨Nx { w9 with drawn := w9.drawn + 1 }, Below.refl _ _, rfl, ?_⟩
  generalize ({ w9 with drawn := w9.drawn + 1 } : World) = W9 at hk hr hs ⊢
  repeat (any_goals (first
  | (with_reducible refine pureH_in ?_)
  | ((with_reducible refine idOH ?_); (with_reducible refine oH_of ⟨_, rfl⟩ (fun W0 hW0 => by (refine oM_gen (fun Kv hK => ?_)); simp [go_sem, (hk.next hW0).cells]; (first | exact hK _ _ ⟨rfl, rfl⟩ | exact ⟨by omega, hK _ _ ⟨rfl, rfl⟩⟩)) ?_))))
  refine ⟨Nx, ?_⟩
  apply monoE
  · intro w1 h1
    exact Grant_ok s c.x c.w n hc'.x hc'.wn hn (hs.next h1) (fun w2 h2 => ⟨h1.on h2, h2, rfl⟩)
  repeat (apply monoE; focus (intro w9 h9; (repeat (intro v9 e9; try (obtain rfl := e9))); (repeat (any_goals ((with_reducible refine idO ?_); (with_reducible refine oM_gen fun Kv hK=>?_); simp [go_sem, build_ses4]; refine hK _ _ ?_; clear hK; clear Kv))); exact ⟨h9, Below.refl _ _, rfl⟩))
  have hgr : I64 (grantM s c.x c.w n) := grantM_I64 _ _ _ _
  generalize grantM s c.x c.w n = gr at *
  refine monoR (fun v w' => ∃ g2, v = ptr g2 0 ∧ W9.heap.size ≤ g2 ∧ Holds w' g2 41 (sesC zX (.slice none 0 0))) (fun v w w1 hS h => h.imp fun g2 h => ⟨h.1, h.2.1, h.2.2.next hS⟩) ?_ ?_
  · intro w1 h1
    exact arr_alloc al_ses (fun g2 w2 h2 hg2 hh => ⟨h1.on h2, h2, g2, rfl, Nat.le_trans h1.size hg2, hh⟩)
  (intro w9 h9; repeat (intro v9 e9; try (obtain rfl := e9)))
  obtain ⟨g7, rfl, hg7, hh⟩ := e9
  have hg3W9 := hr.t.lt
  refine arr_store sz_ses (xs := sesC ⟨[], o, n, gr⟩ (.slice aad c.attrs.length ac)) rfl rfl (ses_one ⟨[], o, n, gr⟩ aad c.attrs.length ac) hh rfl (fun w10 hg10 hh => ?_)
  have h10 := grown_below h9 hg10 hg7
  have hk := hk.next h10
  have hr := hr.next h10
  have hs := hs.next h10
  clear h9 hg10 h10
  have hk := hk.drew
  have hr := hr.next (.drawn (B := w10.heap.size))
  have hs := hs.next (.drawn (B := w10.heap.size))
  have hh := hh.next (.drawn (B := w10.heap.size))
  refine ⟨Nx { w10 with drawn := w10.drawn + 1 }, Below.refl _ _, ?_⟩
  generalize ({ w10 with drawn := w10.drawn + 1 } : World) = W10 at hk hr hs hh ⊢
  repeat (any_goals ((with_reducible refine idOH ?_); (with_reducible refine oH_of ⟨_, rfl⟩ (fun W0 hW0 => by (refine oM_gen (fun Kv hK => ?_)); simp [go_sem, (hk.next hW0).cells, (hh.next hW0).are]; (first | exact hK _ _ ⟨rfl, rfl⟩ | exact ⟨by omega, hK _ _ ⟨rfl, rfl⟩⟩)) ?_)))
  have hlt : TktR (finishM s key c.attrs o c.b gr).1 := finish_R _ _ _ _ _ _
  have fin : ∀ (w14 : World) (g8 : Nat), Below W10.heap.size W10 w14 → W10.heap.size ≤ g8 → Holds w14 g8 43 (tktC (finishM s key c.attrs o c.b gr).1) → ∀ W9, Fr3 g1 g2 g3 { w14 with drawn := w14.drawn + 1 } W9 → K (.tuple #[stpV s (.slice sad s.bases.length sc), sesV ⟨[], o, n, gr⟩ (.slice aad c.attrs.length ac), tktV (finishM s key c.attrs o c.b gr).1, .bool (decide ((finishM s key c.attrs o c.b gr).2 = 0))]) W9 := fun w14 g8 h14 hg8 hh8 W9 hf3 => by
    have hb := (hk.next h14).below.on (.drawn (B := w14.heap.size))
    have hW := fr3_below hb hf3 (by omega) hlo.2.1 hlo.2.2
    have := k W9 (.slice sad s.bases.length sc) (.slice aad c.attrs.length ac) hW
    rw [ei] at this
    have hs := (hs.next h14).next (.drawn (B := w14.heap.size))
    exact this ⟨hs.grp, ints_fr3 hs.ints hf3 (fun i hi => by have := hf i hi; omega), hs.blind, hT.next hW⟩ ⟨hc'.attrs.next hW, hpo, hn, hgr⟩ hlt
  have endI := fun (w14 : World) (g8 : Nat) (h14 : Below W10.heap.size W10 w14) (hg8 : W10.heap.size ≤ g8) (hh8 : Holds w14 g8 43 (tktC (finishM s key c.attrs o c.b gr).1)) =>
    issued_end s sad s.bases.length sc ⟨[], o, n, gr⟩ aad c.attrs.length ac (finishM s key c.attrs o c.b gr).1 (finishM s key c.attrs o c.b gr).2 (hr.next h14) rfl rfl rfl
      (by
        obtain ⟨_, _, _, c1, c2, c3, c4, c5, _⟩ := (hk.next h14).cells
        exact ⟨c1, c2, c3, c4, c5, trivial⟩) (hh.next h14) hh8 (by omega) (by omega) (by have := hr.t.lt; omega) (fin w14 g8 h14 hg8 hh8)
  constructor
  · refine Public_ok s c.x hc'.x hs (fun w11 h11 => ⟨h11, ?_⟩)
    rw [hkq]
    constructor
    · refine Finish_ok s key gr o c.b hkey hgr hpo (hs.next h11) (hc'.attrs.next (hk.next h11).below) (hc'.b.next (hk.next h11).below) (hL.below (hk.next h11).below hL.size) (fun w12 h12 => ⟨h11.on h12, ?_⟩)
      have h12 := h11.on h12
      iterate 3 (any_goals (first
      | (with_reducible refine pureH_in ?_)
      | ((with_reducible refine idOH ?_); (with_reducible refine oH_of ⟨_, rfl⟩ (fun W0 hW0 => by (refine oM_gen (fun Kv hK => ?_)); simp [go_sem]; (first | exact hK _ _ ⟨rfl, rfl⟩ | exact ⟨by omega, hK _ _ ⟨rfl, rfl⟩⟩)) ?_))))
      refine arr_alloc al_tkt (fun g8 w13 h13 hg8 hh8 => ⟨h12.on h13, ?_⟩)
      have hg8 := Nat.le_trans h12.size hg8
      have h13 := h12.on h13
      refine arr_store sz_tkt rfl rfl (tkt_one _) hh8 rfl (fun w14 hg14 hh8 => ?_)
      have h14 := grown_below h13 hg14 hg8
      exact ⟨h14, h14, endI w14 g8 h14 hg8 hh8⟩
    · refine arr_alloc al_tkt (fun g8 w12 h12 hg8 hh8 => ⟨h11.on h12, ?_⟩)
      have hg8 := Nat.le_trans h11.size hg8
      have h12 := h11.on h12
      refine Finish_ok s key gr o c.b hkey hgr hpo (hs.next h12) (hc'.attrs.next (hk.next h12).below) (hc'.b.next (hk.next h12).below) (hL.below (hk.next h12).below hL.size) (fun w13 h13 => ⟨h12.on h13, ?_⟩)
      have hh8 := hh8.next h13
      have h13 := h12.on h13
      iterate 3 (any_goals (first
      | (with_reducible refine pureH_in ?_)
      | ((with_reducible refine idOH ?_); (with_reducible refine oH_of ⟨_, rfl⟩ (fun W0 hW0 => by (refine oM_gen (fun Kv hK => ?_)); simp [go_sem]; (first | exact hK _ _ ⟨rfl, rfl⟩ | exact ⟨by omega, hK _ _ ⟨rfl, rfl⟩⟩)) ?_))))
      refine arr_store sz_tkt rfl rfl (tkt_one _) hh8 rfl (fun w14 hg14 hh8 => ?_)
      have h14 := grown_below h13 hg14 hg8
      exact ⟨h14, h14, endI w14 g8 h14 hg8 hh8⟩
  · refine arr_alloc al_tkt (fun g8 w11 h11 hg8 hh8 => ⟨h11, ?_⟩)
    refine Public_ok s c.x hc'.x (hs.next h11) (fun w12 h12 => ⟨h11.on h12, ?_⟩)
    rw [hkq]
    have hh8 := hh8.next h12
    have h12 := h11.on h12
    refine Finish_ok s key gr o c.b hkey hgr hpo (hs.next h12) (hc'.attrs.next (hk.next h12).below) (hc'.b.next (hk.next h12).below) (hL.below (hk.next h12).below hL.size) (fun w13 h13 => ⟨h12.on h13, ?_⟩)
    have hh8 := hh8.next h13
    have h13 := h12.on h13
    iterate 3 (any_goals (first
    | (with_reducible refine pureH_in ?_)
    | ((with_reducible refine idOH ?_); (with_reducible refine oH_of ⟨_, rfl⟩ (fun W0 hW0 => by (refine oM_gen (fun Kv hK => ?_)); simp [go_sem]; (first | exact hK _ _ ⟨rfl, rfl⟩ | exact ⟨by omega, hK _ _ ⟨rfl, rfl⟩⟩)) ?_))))
    refine arr_store sz_tkt rfl rfl (tkt_one _) hh8 rfl (fun w14 hg14 hh8 => ?_)
    have h14 := grown_below h13 hg14 hg8
    exact ⟨h14, h14, endI w14 g8 h14 hg8 hh8⟩
end
end Go.Proofs
namespace Go.Proofs
open Go Go.Sh Go.RowKit FdSpec TkSpec CodeSpec
set_option linter.unusedSimpArgs false
set_option linter.unusedVariables false
set_option maxRecDepth 10000
section
variable {K : Value → World → Prop} {w w0 : World} {L : List (Addr × Value)}
@[go_sem] theorem oM_extract4_0 {P : Program} {K : Value → World → Prop} {w : World} (T : TypeId) (a b c d : Value) : oM P (.extract (.tmp 0) 0) T [.tuple #[a, b, c, d]] K w = K a w := oM_of_run rfl
@[go_sem] theorem oM_extract4_1 {P : Program} {K : Value → World → Prop} {w : World} (T : TypeId) (a b c d : Value) : oM P (.extract (.tmp 0) 1) T [.tuple #[a, b, c, d]] K w = K b w := oM_of_run rfl
@[go_sem] theorem oM_extract4_2 {P : Program} {K : Value → World → Prop} {w : World} (T : TypeId) (a b c d : Value) : oM P (.extract (.tmp 0) 2) T [.tuple #[a, b, c, d]] K w = K c w := oM_of_run rfl
@[go_sem] theorem oM_extract4_3 {P : Program} {K : Value → World → Prop} {w : World} (T : TypeId) (a b c d : Value) : oM P (.extract (.tmp 0) 3) T [.tuple #[a, b, c, d]] K w = K d w := oM_of_run rfl
theorem local_spdK {K : Value → World → Prop} {T' T2 : TypeId} (x : Spd) (ad : Option Addr) (m c : Nat) (hk : Kn w0 L w)
    (k : ∀ b W, Kn w0 (cellsOf L b 0 (spdC x (.slice ad m c))) W → Below w.heap.size w W → w.heap.size ≤ b → K (.pointer (some ⟨b, 0, none⟩)) W) :
    oM Tryz.prog (.alloc 47) T' [] (fun v w => oM Tryz.prog (.store 47 (.tmp 0) (.tmp 1)) T2 [v, spdV x (.slice ad m c)] (fun _ w => K v w) w) w :=
  local_kn al_spd rfl sz_spd rfl rfl (spd_one x ad m c) hk k
theorem local3 {K : Value → Value → Value → World → Prop} {T1 T2 T3 T4 T5 T6 : TypeId} (s : Stp) (ad : Option Addr) (n cc : Nat) (x : Ses) (ad2 : Option Addr) (n2 c2 : Nat) (t : Tkt) (hk : Kn w0 L w)
    (k : ∀ g1 g2 g3 W, Kn w0 (cellsOf (cellsOf (cellsOf L g1 0 (stpC s (.slice ad n cc))) g2 0 (sesC x (.slice ad2 n2 c2))) g3 0 (tktC t)) W → Below w.heap.size w W → K (ptr g1 0) (ptr g2 0) (ptr g3 0) W) :
    oM Tryz.prog (.alloc 35) T1 [] (fun v1 w => oM Tryz.prog (.alloc 41) T2 [] (fun v2 w => oM Tryz.prog (.alloc 43) T3 [] (fun v3 w =>
      oM Tryz.prog (.store 35 (.tmp 0) (.tmp 1)) T4 [v1, stpV s (.slice ad n cc)] (fun _ w => oM Tryz.prog (.store 41 (.tmp 0) (.tmp 1)) T5 [v2, sesV x (.slice ad2 n2 c2)] (fun _ w => oM Tryz.prog (.store 43 (.tmp 0) (.tmp 1)) T6 [v3, tktV t] (fun _ w => K v1 v2 v3 w) w) w) w) w) w) w := by
  refine arr_alloc al_stp fun g1 w1 h1 hg1 hh1 => ?_
  refine arr_alloc al_ses fun g2 w2 h2 hg2 hh2 => ?_
  refine arr_alloc al_tkt fun g3 w3 h3 hg3 hh3 => ?_
  have l1 := hh1.lt
  have l2 := hh2.lt
  have hb := (h1.on h2).on h3
  have hh1 := (hh1.next h2).next h3
  have hh2 := hh2.next h3
  have s1 := h1.size
  have s2 := h2.size
  have s3 := h3.size
  refine arr_store sz_stp rfl rfl (stp_one s ad n cc) hh1 rfl (fun W1 hq1 hh1 => ?_)
  have hb := grown_below hb hq1 hg1
  refine arr_store sz_ses rfl rfl (ses_one x ad2 n2 c2) (hh2.other hq1 (by omega)) rfl (fun W2 hq2 hh2 => ?_)
  have hb := grown_below hb hq2 (by omega)
  refine arr_store sz_tkt rfl rfl (tkt_one t) ((hh3.other hq1 (by omega)).other hq2 (by omega)) rfl (fun W3 hq3 hh3 => ?_)
  have hb := grown_below hb hq3 (by omega)
  have hh1 := (hh1.other hq2 (by omega)).other hq3 (by omega)
  have hh2 := hh2.other hq3 (by omega)
  have hk := hk.next hb
  refine k g1 g2 g3 W3 ⟨hk.below, ?_⟩ hb
  have A := fun {vs : List Value} {g : Nat} {T : TypeId} {L : List (Addr × Value)} (h : Holds W3 g T vs) (hL : cellsAre W3 L) => cellsOf_are (xs := vs) hL (fun i v hi => by
    obtain ⟨hl, rfl⟩ := List.getElem?_eq_some_iff.1 hi
    exact h.cell i hl) vs 0 rfl
  exact A hh3 (A hh2 (A hh1 hk.cells))
def muH (q : Int) : List Value → World → Nat
  | [_, _, _, _, _, .int _ i], _ => (q - i).toNat
  | _, _ => 0
theorem muH_eq (q : Int) (a b c d e : Value) (k : IntKind) (i : Int) (w : World) : muH q [a, b, c, d, e, .int k i] w = (q - i).toNat := rfl
def HiJ (w0 : World) (L : List (Addr × Value)) (q i0 : Int) (vs : List Value) (w' : World) : Prop := Kn w0 L w' ∧ ∃ (a b c d : Value) (i : Int), vs = [.int .i64 (if i0 < i then 1 else 0), a, b, c, d, .int .i64 i] ∧ 1 ≤ i ∧ i ≤ q
def HiM (w0 : World) (L : List (Addr × Value)) (i0 i : Int) (vs : List Value) (w' : World) : Prop := Kn w0 L w' ∧ ∃ (a b c d : Value), vs = [.int .i64 (if i0 < i + 1 then 1 else 0), a, b, c, d]
abbrev HiMk {w0 w' : World} {L : List (Addr × Value)} (_ : Kn w0 L w') (i0 i : Int) : List Value → World → Prop := HiM w0 L i0 i
theorem build_bld3 (T : TypeId) (ad : Option Addr) (n cc : Nat) (x y : Int) : oM Tryz.prog (Go.Op.build 28 #[(0, (.tmp 0)), (1, (.tmp 1)), (3, (.tmp 2))]) T [.int .i64 x, .int .i64 y, .slice ad n cc] = pureM (bldV ⟨x, y, 0, []⟩ (.slice ad n cc)) := by
  funext K w
  kernel_rfl
theorem hides_law (c : Cas) (dare : Int) {mv av yv lv : Value} {l : List Int} (hd : I64 dare) (hT : DbT w) (hL : Cd.Laid w) (hc : CasR w c mv av yv) (hl : Ints w lv l) (k : ∀ w', Below w.heap.size w w' → K (.bool true) w') :
    callM Tryz.prog 6 #[casV c mv av yv, .int .i64 dare, lv] K w := by
  apply sh_6_ok
  unfold sh_6
  have hc' := hc
  obtain ⟨mad, mc, rfl⟩ := hc.m.ints.isSlice
  obtain ⟨aad, ac, rfl⟩ := hc.attrs.isSlice
  obtain ⟨yad, yc, rfl⟩ := hc.b.ys.isSlice
  obtain ⟨lad, lc, rfl⟩ := hl.isSlice
  refine box_kn (cs := casC c (.slice mad c.m.bases.length mc) (.slice aad c.attrs.length ac) (.slice yad c.b.ys.length yc)) rfl (.start w) fun b1 W hk hb1 hbb => ?_
  clear hb1
  refine sane_ok (hT.next hk.below) (hL.below hk.below hL.size) (fun w1 h => ?_)
  have hk := hk.next h
  clear h
  by_cases hq : (200 : Int) < c.q
  · repeat (any_goals (first
    | (with_reducible first|((refine idGd ?_); refine zD ?_)|((refine idPick ?_); refine yB ?_)|((refine idCond ?_); refine yL ?_))
    | ((with_reducible refine idO ?_); (with_reducible refine oM_gen fun Kv hK=>?_); simp [go_sem, hk.cells, hq]; refine hK _ _ ?_; clear hK; clear Kv)))
    exact k _ hk.below
  by_cases hl9 : (9 : Int) < l.length
  · repeat (any_goals (first
    | (with_reducible first|refine pureM_in ?_|((refine idGd ?_); refine zC ?_)|((refine idPick ?_); refine yC ?_)|((refine idCond ?_); refine yL ?_))
    | ((with_reducible refine idO ?_); (with_reducible refine oM_gen fun Kv hK=>?_); simp [go_sem, hk.cells, hq, hl9]; refine hK _ _ ?_; clear hK; clear Kv)))
    exact k _ hk.below
  repeat (any_goals (first
  | (with_reducible first|refine pureM_in ?_|((refine idGd ?_); refine zC ?_)|((refine idPick ?_); refine yC ?_)|((refine idCond ?_); refine yM ?_))
  | ((with_reducible refine idO ?_); (with_reducible refine oM_gen fun Kv hK=>?_); simp [go_sem, hk.cells, hq, hl9]; refine hK _ _ ?_; clear hK; clear Kv)))
  refine issued_ok c (hT.next hk.below) (hL.below hk.below hL.size) (hc'.next hk.below) (fun w4 sv xv h4 hs hx ht => ?_)
  have hk := hk.next h4
  clear h4
  have hfac := issued_facts (c := c)
  generalize issuedM c = I at *
  obtain ⟨s, se, t, ok⟩ := I
  dsimp only at hs hx ht hfac ⊢
  obtain ⟨sad, sc, rfl⟩ := hs.ints.isSlice
  obtain ⟨xad, xc, rfl⟩ := hx.attrs.isSlice
  iterate 4 (any_goals ((with_reducible refine idO ?_); (with_reducible refine oM_gen fun Kv hK=>?_); simp [go_sem]; refine hK _ _ ?_; clear hK; clear Kv))
  refine local3 s sad s.bases.length sc se xad se.attrs.length xc t hk (fun g1 g2 g3 w5 hk h5 => ?_)
  have hs := hs.next h5
  clear h5 hx
  repeat (any_goals ((with_reducible refine idO ?_); (with_reducible refine oM_gen fun Kv hK=>?_); simp [go_sem, hk.cells]; refine hK _ _ ?_; clear hK; clear Kv))
  refine Use_ok s c.b dare hd (hs.next (Below.refl _ _)) (hc'.attrs.next hk.below) (hc'.b.next hk.below) (fun w6 uv h6 hu => ?_)
  have hk := hk.next h6
  have hs := hs.next h6
  clear h6
  have hUD : I64 (useM s c.attrs c.b dare).1.dare := by
    unfold useM
    split
    · exact hd
    · constructor <;> decide
  obtain ⟨uad, uc, rfl⟩ := hu.isSlice
  generalize hU : useM s c.attrs c.b dare = U at *
  obtain ⟨u, can⟩ := U
  dsimp only at hu hUD ⊢
  iterate 2 (any_goals ((with_reducible refine idO ?_); (with_reducible refine oM_gen fun Kv hK=>?_); simp [go_sem]; refine hK _ _ ?_; clear hK; clear Kv))
  refine local_spdK u uad u.answers.length uc hk (fun g4 w7 hk h7 hg4 => ?_)
  have hs := hs.next h7
  have hu := hu.next h7
  clear h7
  cases ok with
  | false =>
    repeat (any_goals (first
    | (with_reducible first|((refine idGd ?_); refine zD ?_)|((refine idPick ?_); refine yB ?_)|((refine idCond ?_); refine yL ?_))
    | ((with_reducible refine idO ?_); (with_reducible refine oM_gen fun Kv hK=>?_); simp [go_sem, hk.cells]; refine hK _ _ ?_; clear hK; clear Kv)))
    exact k _ hk.below
  | true =>
  cases can with
  | false =>
    repeat (any_goals (first
    | (with_reducible first|refine pureM_in ?_|((refine idGd ?_); refine zC ?_)|((refine idPick ?_); refine yC ?_)|((refine idCond ?_); refine yL ?_))
    | ((with_reducible refine idO ?_); (with_reducible refine oM_gen fun Kv hK=>?_); simp [go_sem, hk.cells]; refine hK _ _ ?_; clear hK; clear Kv)))
    exact k _ hk.below
  | true =>
  repeat (any_goals (first
  | (with_reducible first|refine pureM_in ?_|((refine idGd ?_); refine zC ?_)|((refine idPick ?_); refine yC ?_)|((refine idCond ?_); refine yM ?_))
  | ((with_reducible refine idO ?_); (with_reducible refine oM_gen fun Kv hK=>?_); simp [go_sem, hk.cells]; refine hK _ _ ?_; clear hK; clear Kv)))
  refine Usable_ok s hs (hl.next hk.below) (fun w8 h8 => ?_)
  have hk := hk.next h8
  have hs := hs.next h8
  have hu := hu.next h8
  clear h8
  cases hus : (usableM s l).2 with
  | false =>
    repeat (any_goals (first
    | (with_reducible ((refine idCond ?_); refine yL ?_))
    | ((with_reducible refine idO ?_); (with_reducible refine oM_gen fun Kv hK=>?_); simp [go_sem, hk.cells]; refine hK _ _ ?_; clear hK; clear Kv)))
    exact k _ hk.below
  | true =>
  repeat (any_goals (first
  | (with_reducible ((refine idCond ?_); refine yM ?_))
  | ((with_reducible refine idO ?_); (with_reducible refine oM_gen fun Kv hK=>?_); simp [go_sem, hk.cells]; refine hK _ _ ?_; clear hK; clear Kv)))
  obtain ⟨hsm, hmd, es, etm, etf⟩ := hfac rfl
  have hmf : ∃ n : Nat, n ∈ ordL ∧ c.q = n ∧ s.g = grp n ∧ s.bases = c.m.bases.map (E n) := by
    rw [es]
    unfold madeM at hmd ⊢
    split at hmd
    · rename_i h1
      rw [if_pos h1]
      exact made_facts h1 hmd (by omega)
    · cases hmd
  obtain ⟨n, hn, eq, eg, eb⟩ := hmf
  have e1 : (madeM c).1 = s := es.symm
  rw [e1] at etm etf
  obtain ⟨i0, i1, i2, i3, i4⟩ := hides_ex hn eg eb (by rw [hU]) hus
  have hsame := fun (j : Int) (j1 : 1 ≤ j) (j2 : j < n) (j3 : powerG s.g (markM s l).1 j = powerG s.g (usableM s c.attrs).1 c.b.s) => hides_same (dare := dare) (b := c.b) (l := c.attrs) hn eg eb (by rw [hU]) hus j1 j2 j3
  rw [hU] at hsame
  dsimp only at hsame
  rw [← etm] at i3 i4 hsame
  rw [← etf] at hsame
  rw [← eq] at i2 i4 hsame
  clear etm etf e1 es hmd hfac hsm eb eg hU
  have hb8 := hk.below
  have hk : Kn w8 _ w8 := ⟨Below.refl _ _, hk.cells⟩
  have hl := hl.next hb8
  have hc' := hc'.next hb8
  refine ⟨HiJ w8 (cellsOf (cellsOf (cellsOf (cellsOf (cellsOf [] b1 0 _) g1 0 _) g2 0 _) g3 0 _) g4 0 _) c.q i0, muH c.q, ⟨hk, _, _, _, _, 1, by rw [if_neg (by omega)], by omega, by omega⟩, ?_⟩
  rintro _ _ w9 ⟨hk, u1, u2, u3, u4, i, rfl, hi1, hi2⟩
  by_cases hin : i = c.q
  · have e1 : (if i0 < i then (1 : Int) else 0) = 1 := if_pos (by omega)
    rw [e1]
    have h1 : ¬ i < c.q := by omega
    repeat (any_goals (first
    | (with_reducible first|refine pureM_in ?_|((refine idGd ?_); refine zA ?_)|((refine idPick ?_); refine yB ?_)|((refine idCond ?_); refine yM ?_))
    | ((with_reducible refine idO ?_); (with_reducible refine oM_gen fun Kv hK=>?_); simp [go_sem, hk.cells, h1]; refine hK _ _ ?_; clear hK; clear Kv)))
    exact k _ (hb8.on hk.below)
  · have h1 : i < c.q := by omega
    repeat (any_goals (first
    | (with_reducible ((refine idCond ?_); refine yL ?_))
    | ((with_reducible refine idO ?_); (with_reducible refine oM_gen fun Kv hK=>?_); simp [go_sem, hk.cells, h1]; refine hK _ _ ?_; clear hK; clear Kv)))
    refine ⟨HiMk hk i0 i, ?_, ?_⟩
    rotate_left
    · rintro _ _ w10 ⟨hk, x1, x2, x3, x4, rfl⟩
      repeat (any_goals ((with_reducible refine idO ?_); (with_reducible refine oM_gen fun Kv hK=>?_); simp [go_sem]; (try simp (disch := omega) only [wrapI64, wrapU8, wrapU32, wrapU64]); refine hK _ _ ?_; clear hK; clear Kv))
      refine ⟨⟨hk, _, _, _, _, i + 1, rfl, by omega, by omega⟩, ?_⟩
      simp only [muH_eq]; omega
    have hk := hk.drew
    refine ⟨Nx { w9 with drawn := w9.drawn + 1 }, Below.refl _ _, rfl, ?_⟩
    generalize ({ w9 with drawn := w9.drawn + 1 } : World) = W9 at hk ⊢
    repeat (any_goals (first
    | (with_reducible refine pureH_in ?_)
    | ((with_reducible refine idOH ?_); (with_reducible refine oH_of ⟨_, rfl⟩ (fun W0 hW0 => by (refine oM_gen (fun Kv hK => ?_)); simp [go_sem, (hk.next hW0).cells]; (first | exact hK _ _ ⟨rfl, rfl⟩ | exact ⟨by omega, hK _ _ ⟨rfl, rfl⟩⟩)) ?_))))
    refine ⟨Nx, ?_⟩
    apply monoE
    · intro w1 h1
      exact Mark_ok s (hs.next (hk.next h1).below) (hl.next (hk.next h1).below) (fun w2 h2 => ⟨h1.on h2, h2, rfl⟩)
    apply monoE
    · rintro w1 h1 _ rfl
      exact Power_ok s.g _ i (fun w2 h2 => ⟨h1.on h2, h2, rfl⟩)
    (intro w9 h9; repeat (intro v9 e9; try (obtain rfl := e9)))
    have hk := hk.next h9
    clear h9
    by_cases hp : powerG s.g (markM s l).1 i = t.mark
    rotate_left
    · repeat (any_goals (first
      | (with_reducible ((refine idCond ?_); refine yL ?_))
      | ((with_reducible refine idO ?_); (with_reducible refine oM_gen fun Kv hK=>?_); simp [go_sem, hk.cells, hp]; refine hK _ _ ?_; clear hK; clear Kv)))
      have : i ≠ i0 := fun e => hp (e ▸ i3)
      have e2 : (if i0 < i then (1 : Int) else 0) = if i0 < i + 1 then 1 else 0 := by
        by_cases h : i0 < i
        · rw [if_pos h, if_pos (by omega)]
        · rw [if_neg h, if_neg (by omega)]
      exact ⟨hk, u1, u2, u3, u4, by rw [← e2]; rfl⟩
    · have ei : i = i0 := i4 i (by omega) (by omega) hp
      obtain ⟨su, sp⟩ := hsame i (by omega) (by omega) hp
      have e2 : (if i0 < i then (1 : Int) else 0) = 0 := if_neg (by omega)
      have e3 : (if i0 < i + 1 then (1 : Int) else 0) = 1 := if_pos (by omega)
      rw [e2]
      repeat (any_goals (first
      | (with_reducible ((refine idCond ?_); refine yM ?_))
      | ((with_reducible refine idO ?_); (with_reducible refine oM_gen fun Kv hK=>?_); simp [go_sem, hk.cells, hp]; (try simp (disch := omega) only [wrapI64, wrapU8, wrapU32, wrapU64]); refine hK _ _ ?_; clear hK; clear Kv)))
      refine answers_ok s i u (hs.next hk.below) (hl.next hk.below) ⟨hUD, hu.next hk.below⟩ (by omega) (fun w10 av10 h10 ha => ?_)
      have hk := hk.next h10
      clear h10
      have hiI : I64 i := by constructor <;> omega
      have h1I : I64 1 := by constructor <;> decide
      have h0I : I64 0 := by constructor <;> decide
      obtain ⟨yad2, yc2, rfl⟩ := ha.isSlice
      generalize answersM s l i u = ys at *
      iterate 1 (any_goals ((with_reducible refine idO ?_); (with_reducible refine oM_gen fun Kv hK=>?_); simp [go_sem, build_bld3]; refine hK _ _ ?_; clear hK; clear Kv))
      refine local_bld ⟨i, 1, 0, ys⟩ yad2 ys.length yc2 hk (fun g5 w11 hk h11 hg5 => ?_)
      have ha := ha.next h11
      clear h11
      repeat (any_goals ((with_reducible refine idO ?_); (with_reducible refine oM_gen fun Kv hK=>?_); simp [go_sem, hk.cells]; refine hK _ _ ?_; clear hK; clear Kv))
      refine Use_ok s ⟨i, 1, 0, ys⟩ dare hd (hs.next hk.below) (hl.next hk.below) ⟨hiI, h1I, h0I, ha⟩ (fun w12 uv2 h12 hu2 => ?_)
      have hk := hk.next h12
      have ha := ha.next h12
      clear h12
      rw [su] at hu2 ⊢
      obtain ⟨uad2, uc2, rfl⟩ := hu2.isSlice
      dsimp only at hu2 ⊢
      iterate 2 (any_goals ((with_reducible refine idO ?_); (with_reducible refine oM_gen fun Kv hK=>?_); simp [go_sem]; refine hK _ _ ?_; clear hK; clear Kv))
      refine local_spdK u uad2 u.answers.length uc2 hk (fun g6 w13 hk h13 hg6 => ?_)
      have hu2 := hu2.next h13
      have ha := ha.next h13
      clear h13
      repeat (any_goals ((with_reducible refine idO ?_); (with_reducible refine oM_gen fun Kv hK=>?_); simp [go_sem, hk.cells]; refine hK _ _ ?_; clear hK; clear Kv))
      refine Product_ok s.g (hs.ints.next hk.below) ha (fun w14 h14 => ?_)
      have hk := hk.next h14
      have hu2 := hu2.next h14
      clear h14
      rw [sp]
      repeat (any_goals (first
      | (with_reducible first|refine pureM_in ?_|((refine idGd ?_); refine zC ?_)|((refine idPick ?_); refine yC ?_))
      | ((with_reducible refine idO ?_); (with_reducible refine oM_gen fun Kv hK=>?_); simp [go_sem, hk.cells]; refine hK _ _ ?_; clear hK; clear Kv)))
      refine SameSpend_ok u u ⟨hUD, hu.next hk.below⟩ ⟨hUD, hu2⟩ (fun w15 h15 => ?_)
      have hk := hk.next h15
      have e5 : (decide (u.dare = u.dare) && decide (u.answers = u.answers)) = true := by simp
      rw [e5]
      repeat (any_goals (first
      | (with_reducible first|((refine idGd ?_); refine zC ?_)|((refine idPick ?_); refine yC ?_)|((refine idCond ?_); refine yM ?_))
      | ((with_reducible refine idO ?_); (with_reducible refine oM_gen fun Kv hK=>?_); simp [go_sem, hk.cells]; refine hK _ _ ?_; clear hK; clear Kv)))
      unfold HiMk HiM
      rw [e3]
      exact ⟨⟨hk.below, hk.cells.2.2.2.2.2.2⟩, _, _, _, _, rfl⟩
end
end Go.Proofs
