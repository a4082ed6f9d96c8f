/- ShOps: a part of the proof of the seat's statements: lemmas about the given translation and plain laws. No condition of its own. -/
import Derived.Test.YtefjibjojkjiiaaSh
import Derived.Laws.Panics
import Derived.Laws.DeepStrings4
set_option linter.all false
namespace Go.Sh
open Go

/-- an operation that only reads and yields one value, from what the model's run says -/
theorem oM_of_run {P : Program} {o : Op} {T : TypeId} {args : List Value} {K : Value → World → Prop} {w w' : World} {v : Value}
    (h : (xop o T args).run P w = .ok (.value v) w') : oM P o T args K w = K v w' := by
  unfold oM opM
  rw [h]

section
variable {P : Program} {K : Value → World → Prop} {w : World}

@[go_sem] theorem gdM_true (m : (Value → World → Prop) → World → Prop) : gdM true m K w = m K w := rfl
@[go_sem] theorem gdM_false (m : (Value → World → Prop) → World → Prop) : gdM false m K w = K undef w := rfl
@[go_sem] theorem gd_true (b : Bool) : gd (.bool b) true = b := by cases b <;> rfl
@[go_sem] theorem gd_false (b : Bool) : gd (.bool b) false = !b := by cases b <;> rfl
@[go_sem] theorem pureM_eq (v : Value) : pureM v K w = K v w := rfl
theorem condM_bool (b : Bool) (A B : Prop) : condM (.bool b) A B = ((b = true → A) ∧ (b = false → B)) := by
  unfold condM
  refine propext ⟨fun ⟨t, h, ha, hb⟩ => ?_, fun ⟨ha, hb⟩ => ⟨b, rfl, ha, hb⟩⟩
  cases h
  exact ⟨ha, hb⟩
theorem gdM_pure (b : Bool) (v : Value) : gdM b (pureM v) K w = K (bif b then v else undef) w := by cases b <;> rfl

theorem oM_pick (T : TypeId) (b : Bool) (x y : Value) : oM P (.pick (.tmp 0) (.tmp 1) (.tmp 2)) T [.bool b, x, y] K w = K (bif b then x else y) w := by
  simp [oM, opM, xop, execOp, evalL, evE, asBool]
  cases b <;> rfl
theorem oM_len_string (t T : TypeId) (s : ByteArray) (h : P.underlying t = some .string) : oM P (.call { callee := .builtin .len, args := #[.tmp 0], argTypes := #[t] }) T [.string s] K w = K (.int .i64 s.size) w :=
  by
  have hr := run_len_string (P := P) (w := w) t T s h
  refine oM_of_run (w' := w) ?_
  simp [xop, evalL, evE, go_sem]
  rw [hr]
  rfl
theorem oM_lss (t t' T : TypeId) (k : IntKind) (a b : Int) : oM P (.binOp .lss t (.tmp 0) (.tmp 1) t') T [.int k a, .int k b] K w = K (.bool (decide (a < b))) w := by
  simp [oM, opM, xop, evalL, evE, go_sem]
theorem oM_leq (t t' T : TypeId) (k : IntKind) (a b : Int) : oM P (.binOp .leq t (.tmp 0) (.tmp 1) t') T [.int k a, .int k b] K w = K (.bool (decide (a ≤ b))) w := by
  simp [oM, opM, xop, evalL, evE, go_sem]
theorem oM_gtr (t t' T : TypeId) (k : IntKind) (a b : Int) : oM P (.binOp .gtr t (.tmp 0) (.tmp 1) t') T [.int k a, .int k b] K w = K (.bool (decide (b < a))) w := by
  simp [oM, opM, xop, evalL, evE, go_sem]
theorem oM_geq (t t' T : TypeId) (k : IntKind) (a b : Int) : oM P (.binOp .geq t (.tmp 0) (.tmp 1) t') T [.int k a, .int k b] K w = K (.bool (decide (b ≤ a))) w := by
  simp [oM, opM, xop, evalL, evE, go_sem]
theorem oM_add (t t' T : TypeId) (k : IntKind) (a b : Int) : oM P (.binOp .add t (.tmp 0) (.tmp 1) t') T [.int k a, .int k b] K w = K (.int k (k.wrap (a + b))) w := by
  simp [oM, opM, xop, evalL, evE, go_sem]
theorem oM_sub (t t' T : TypeId) (k : IntKind) (a b : Int) : oM P (.binOp .sub t (.tmp 0) (.tmp 1) t') T [.int k a, .int k b] K w = K (.int k (k.wrap (a - b))) w := by
  simp [oM, opM, xop, evalL, evE, go_sem]
theorem oM_mul (t t' T : TypeId) (k : IntKind) (a b : Int) : oM P (.binOp .mul t (.tmp 0) (.tmp 1) t') T [.int k a, .int k b] K w = K (.int k (k.wrap (a * b))) w := by
  simp [oM, opM, xop, evalL, evE, go_sem]
theorem oM_eq_tc (t t' T : TypeId) (k : IntKind) (a b : Int) : oM P (.binOp .eql t (.tmp 0) (.const (.int k b)) t') T [.int k a] K w = K (.bool (decide (a = b))) w := by
  simp [oM, opM, xop, evalL, evE, go_sem]
  rfl
theorem oM_ne_tc (t t' T : TypeId) (k : IntKind) (a b : Int) : oM P (.binOp .neq t (.tmp 0) (.const (.int k b)) t') T [.int k a] K w = K (.bool (!decide (a = b))) w := by
  simp [oM, opM, xop, evalL, evE, go_sem]
  rfl
theorem oM_eq_tt (t t' T : TypeId) (k : IntKind) (a b : Int) : oM P (.binOp .eql t (.tmp 0) (.tmp 1) t') T [.int k a, .int k b] K w = K (.bool (decide (a = b))) w := by
  simp [oM, opM, xop, evalL, evE, go_sem]
  rfl
theorem oM_ne_tt (t t' T : TypeId) (k : IntKind) (a b : Int) : oM P (.binOp .neq t (.tmp 0) (.tmp 1) t') T [.int k a, .int k b] K w = K (.bool (!decide (a = b))) w := by
  simp [oM, opM, xop, evalL, evE, go_sem]
  rfl
theorem bytes_beq (a b : ByteArray) : (a.toList == b.toList) = decide (a = b) := by
  rw [ByteArray.toList_eq, ByteArray.toList_eq, Bool.eq_iff_iff]
  simp only [beq_iff_eq, decide_eq_true_eq]
  refine ⟨fun h => ?_, fun h => by rw [h]⟩
  obtain ⟨a⟩ := a
  obtain ⟨b⟩ := b
  congr 1
  exact Array.ext' h
theorem halts (α : Type) (P : Program) (k : IntKind) (i : Int) (n : Nat) (c : BoundsCode) (w : World) : ∃ h w', (boundsPanic k i n c : Sem α).run P w = .halt h w' := by
  obtain ⟨s, w', h⟩ := run_boundsPanic (α := α) (P := P) (w := w) k i n c
  exact ⟨_, _, h⟩
theorem oM_value {S : Sem Value} {o : Op} {T : TypeId} {args : List Value} (hx : xop o T args = (do let v ← S; pure (.value v))) : oM P o T args K w = ∃ v w', S.run P w = .ok v w' ∧ K v w' := by
  unfold oM
  rw [hx]
  exact propext opM_value
theorem ok_iff {v : Value} {w' : World} : (∃ v' w'', (Result.ok v w' : Result Value) = .ok v' w'' ∧ K v' w'') = K v w' :=
  propext ⟨fun ⟨_, _, h, hk⟩ => by cases h; exact hk, fun h => ⟨_, _, rfl, h⟩⟩
theorem halt_iff {h : Halt} {w' : World} : (∃ v' w'', (Result.halt h w' : Result Value) = .ok v' w'' ∧ K v' w'') = False :=
  propext ⟨fun ⟨_, _, h, _⟩ => (by cases h), fun h => h.elim⟩
theorem oM_eqs_tc (t t' T : TypeId) (a b : ByteArray) : oM P (.binOp .eql t (.tmp 0) (.const (.string b)) t') T [.string a] K w = K (.bool (decide (a = b))) w := by
  simp [oM, opM, xop, evalL, evE, go_sem, bytes_beq]
theorem oM_nes_tc (t t' T : TypeId) (a b : ByteArray) : oM P (.binOp .neq t (.tmp 0) (.const (.string b)) t') T [.string a] K w = K (.bool (!decide (a = b))) w := by
  simp [oM, opM, xop, evalL, evE, go_sem, bytes_beq]
theorem oM_eqs_tt (t t' T : TypeId) (a b : ByteArray) : oM P (.binOp .eql t (.tmp 0) (.tmp 1) t') T [.string a, .string b] K w = K (.bool (decide (a = b))) w := by
  simp [oM, opM, xop, evalL, evE, go_sem, bytes_beq]
theorem oM_nes_tt (t t' T : TypeId) (a b : ByteArray) : oM P (.binOp .neq t (.tmp 0) (.tmp 1) t') T [.string a, .string b] K w = K (.bool (!decide (a = b))) w := by
  simp [oM, opM, xop, evalL, evE, go_sem, bytes_beq]
theorem oM_not (t T : TypeId) (b : Bool) : oM P (.unOp .not t (.tmp 0)) T [.bool b] K w = K (.bool (!b)) w := by
  simp [oM, opM, xop, evalL, evE, go_sem]
theorem oM_index_string (t T : TypeId) (s : ByteArray) (i : Int) (h : P.underlying t = some .string) : oM P (.index t (.tmp 0) (.tmp 1)) T [.string s, .int .i64 i] K w = ∃ h : 0 ≤ i ∧ i.toNat < s.size, K (.int .u8 (s[i.toNat]'h.2).toNat) w := by
  rw [oM_value (S := Instr.index t (.string s) (.int .i64 i)) rfl, run_index_string (P := P) (w := w) t s .i64 i h]
  by_cases hi : 0 ≤ i ∧ i < s.size
  · rw [dif_pos hi, ok_iff]
    exact propext ⟨fun hk => ⟨⟨hi.1, by omega⟩, hk⟩, fun ⟨_, hk⟩ => hk⟩
  · rw [dif_neg hi]
    obtain ⟨e, w', he⟩ := halts Value P .i64 i s.size .index w
    rw [he, halt_iff]
    exact propext ⟨fun h => h.elim, fun ⟨h, _⟩ => hi ⟨h.1, by omega⟩⟩
theorem oM_slice_from (t T : TypeId) (s : ByteArray) (i : Int) (h : P.underlying t = some .string) : oM P (.slice t (.tmp 0) (some (.tmp 1)) none none) T [.string s, .int .i64 i] K w = ((0 ≤ i ∧ i ≤ s.size) ∧ K (.string (s.extract i.toNat s.size)) w) := by
  have e : xop (.slice t (.tmp 0) (some (.tmp 1)) none none) T [.string s, .int .i64 i] = (do let v ← Instr.sliceAt t (.string s) (some (.int .i64 i)) none none; pure (.value v)) := rfl
  have e2 : (Instr.sliceAt t (.string s) (some (.int .i64 i)) none none).run P w = (Instr.slice t (.string s) (some (.int .i64 i)) none none).run P w := by
    unfold Instr.sliceAt
    rw [Sem.run_bind, run_underlying h]
    rfl
  rw [oM_value e, e2, run_slice_string_from_if (P := P) (w := w) t s .i64 i h]
  by_cases hi : 0 ≤ i ∧ i ≤ (s.size : Int)
  · rw [if_pos hi, ok_iff]
    exact propext ⟨fun hk => ⟨hi, hk⟩, fun ⟨_, hk⟩ => hk⟩
  · rw [if_neg hi]
    obtain ⟨e, w', he⟩ := halts Nat P .i64 i s.size .sliceB w
    rw [he, Result.andThen_halt, halt_iff]
    exact propext ⟨fun h => h.elim, fun ⟨h, _⟩ => hi h⟩
theorem oM_slice_to (t T : TypeId) (s : ByteArray) (i : Int) (h : P.underlying t = some .string) : oM P (.slice t (.tmp 0) none (some (.tmp 1)) none) T [.string s, .int .i64 i] K w = ((0 ≤ i ∧ i ≤ s.size) ∧ K (.string (s.extract 0 i.toNat)) w) := by
  have e : xop (.slice t (.tmp 0) none (some (.tmp 1)) none) T [.string s, .int .i64 i] = (do let v ← Instr.sliceAt t (.string s) none (some (.int .i64 i)) none; pure (.value v)) := rfl
  have e2 : (Instr.sliceAt t (.string s) none (some (.int .i64 i)) none).run P w = (Instr.slice t (.string s) none (some (.int .i64 i)) none).run P w := by
    unfold Instr.sliceAt
    rw [Sem.run_bind, run_underlying h]
    rfl
  rw [oM_value e, e2, run_slice_string_to_if (P := P) (w := w) t s .i64 i h]
  by_cases hi : 0 ≤ i ∧ i ≤ (s.size : Int)
  · rw [if_pos hi, ok_iff]
    exact propext ⟨fun hk => ⟨hi, hk⟩, fun ⟨_, hk⟩ => hk⟩
  · rw [if_neg hi]
    obtain ⟨e, w', he⟩ := halts Nat P .i64 i s.size .sliceAlen w
    rw [he, Result.andThen_halt, halt_iff]
    exact propext ⟨fun h => h.elim, fun ⟨h, _⟩ => hi h⟩
theorem oM_slice_both (t T : TypeId) (s : ByteArray) (i j : Int) (h : P.underlying t = some .string) : oM P (.slice t (.tmp 0) (some (.tmp 1)) (some (.tmp 2)) none) T [.string s, .int .i64 i, .int .i64 j] K w = ((0 ≤ i ∧ i ≤ j ∧ j ≤ s.size) ∧ K (.string (s.extract i.toNat j.toNat)) w) := by
  have e : xop (.slice t (.tmp 0) (some (.tmp 1)) (some (.tmp 2)) none) T [.string s, .int .i64 i, .int .i64 j] = (do let v ← Instr.sliceAt t (.string s) (some (.int .i64 i)) (some (.int .i64 j)) none; pure (.value v)) := rfl
  have e2 : (Instr.sliceAt t (.string s) (some (.int .i64 i)) (some (.int .i64 j)) none).run P w = (Instr.slice t (.string s) (some (.int .i64 i)) (some (.int .i64 j)) none).run P w := by
    unfold Instr.sliceAt
    rw [Sem.run_bind, run_underlying h]
    rfl
  rw [oM_value e, e2, run_slice_string_if (P := P) (w := w) t s .i64 .i64 i j h]
  by_cases hj : 0 ≤ j ∧ j ≤ (s.size : Int)
  · rw [if_pos hj]
    by_cases hi : 0 ≤ i ∧ i ≤ j
    · rw [if_pos hi, ok_iff]
      exact propext ⟨fun hk => ⟨⟨hi.1, hi.2, hj.2⟩, hk⟩, fun ⟨_, hk⟩ => hk⟩
    · rw [if_neg hi]
      obtain ⟨e, w', he⟩ := halts Nat P .i64 i j.toNat .sliceB w
      rw [he, Result.andThen_halt, halt_iff]
      exact propext ⟨fun h => h.elim, fun ⟨h, _⟩ => hi ⟨h.1, h.2.1⟩⟩
  · rw [if_neg hj]
    obtain ⟨e, w', he⟩ := halts Nat P .i64 j s.size .sliceAlen w
    rw [he, Result.andThen_halt, halt_iff]
    exact propext ⟨fun h => h.elim, fun ⟨h, _⟩ => hj ⟨by omega, h.2.2⟩⟩
theorem oM_extract2_0 (T : TypeId) (a b : Value) : oM P (.extract (.tmp 0) 0) T [.tuple #[a, b]] K w = K a w := oM_of_run rfl
theorem oM_extract2_1 (T : TypeId) (a b : Value) : oM P (.extract (.tmp 0) 1) T [.tuple #[a, b]] K w = K b w := oM_of_run rfl
theorem oM_extract3_0 (T : TypeId) (a b c : Value) : oM P (.extract (.tmp 0) 0) T [.tuple #[a, b, c]] K w = K a w := oM_of_run rfl
theorem oM_extract3_1 (T : TypeId) (a b c : Value) : oM P (.extract (.tmp 0) 1) T [.tuple #[a, b, c]] K w = K b w := oM_of_run rfl
theorem oM_extract3_2 (T : TypeId) (a b c : Value) : oM P (.extract (.tmp 0) 2) T [.tuple #[a, b, c]] K w = K c w := oM_of_run rfl
@[go_sem] theorem oM_pick' (T : TypeId) (b : Bool) (x y : Value) : oM P (.pick (.tmp 0) (.tmp 1) (.tmp 2)) T [.bool b, x, y] = pureM (bif b then x else y) := by
  funext K w
  exact oM_pick T b x y

@[go_sem] theorem oM_lss' (t t' T : TypeId) (k : IntKind) (a b : Int) : oM P (.binOp .lss t (.tmp 0) (.tmp 1) t') T [.int k a, .int k b] = pureM (.bool (decide (a < b))) := by
  funext K w
  exact oM_lss t t' T k a b

@[go_sem] theorem oM_leq' (t t' T : TypeId) (k : IntKind) (a b : Int) : oM P (.binOp .leq t (.tmp 0) (.tmp 1) t') T [.int k a, .int k b] = pureM (.bool (decide (a ≤ b))) := by
  funext K w
  exact oM_leq t t' T k a b

@[go_sem] theorem oM_gtr' (t t' T : TypeId) (k : IntKind) (a b : Int) : oM P (.binOp .gtr t (.tmp 0) (.tmp 1) t') T [.int k a, .int k b] = pureM (.bool (decide (b < a))) := by
  funext K w
  exact oM_gtr t t' T k a b

@[go_sem] theorem oM_geq' (t t' T : TypeId) (k : IntKind) (a b : Int) : oM P (.binOp .geq t (.tmp 0) (.tmp 1) t') T [.int k a, .int k b] = pureM (.bool (decide (b ≤ a))) := by
  funext K w
  exact oM_geq t t' T k a b

@[go_sem] theorem oM_add' (t t' T : TypeId) (k : IntKind) (a b : Int) : oM P (.binOp .add t (.tmp 0) (.tmp 1) t') T [.int k a, .int k b] = pureM (.int k (k.wrap (a + b))) := by
  funext K w
  exact oM_add t t' T k a b

@[go_sem] theorem oM_sub' (t t' T : TypeId) (k : IntKind) (a b : Int) : oM P (.binOp .sub t (.tmp 0) (.tmp 1) t') T [.int k a, .int k b] = pureM (.int k (k.wrap (a - b))) := by
  funext K w
  exact oM_sub t t' T k a b

@[go_sem] theorem oM_mul' (t t' T : TypeId) (k : IntKind) (a b : Int) : oM P (.binOp .mul t (.tmp 0) (.tmp 1) t') T [.int k a, .int k b] = pureM (.int k (k.wrap (a * b))) := by
  funext K w
  exact oM_mul t t' T k a b

@[go_sem] theorem oM_eq_tc' (t t' T : TypeId) (k : IntKind) (a b : Int) : oM P (.binOp .eql t (.tmp 0) (.const (.int k b)) t') T [.int k a] = pureM (.bool (decide (a = b))) := by
  funext K w
  exact oM_eq_tc t t' T k a b

@[go_sem] theorem oM_ne_tc' (t t' T : TypeId) (k : IntKind) (a b : Int) : oM P (.binOp .neq t (.tmp 0) (.const (.int k b)) t') T [.int k a] = pureM (.bool (!decide (a = b))) := by
  funext K w
  exact oM_ne_tc t t' T k a b

@[go_sem] theorem oM_eq_tt' (t t' T : TypeId) (k : IntKind) (a b : Int) : oM P (.binOp .eql t (.tmp 0) (.tmp 1) t') T [.int k a, .int k b] = pureM (.bool (decide (a = b))) := by
  funext K w
  exact oM_eq_tt t t' T k a b

@[go_sem] theorem oM_ne_tt' (t t' T : TypeId) (k : IntKind) (a b : Int) : oM P (.binOp .neq t (.tmp 0) (.tmp 1) t') T [.int k a, .int k b] = pureM (.bool (!decide (a = b))) := by
  funext K w
  exact oM_ne_tt t t' T k a b

@[go_sem] theorem oM_eqs_tc' (t t' T : TypeId) (a b : ByteArray) : oM P (.binOp .eql t (.tmp 0) (.const (.string b)) t') T [.string a] = pureM (.bool (decide (a = b))) := by
  funext K w
  exact oM_eqs_tc t t' T a b

@[go_sem] theorem oM_nes_tc' (t t' T : TypeId) (a b : ByteArray) : oM P (.binOp .neq t (.tmp 0) (.const (.string b)) t') T [.string a] = pureM (.bool (!decide (a = b))) := by
  funext K w
  exact oM_nes_tc t t' T a b

@[go_sem] theorem oM_eqs_tt' (t t' T : TypeId) (a b : ByteArray) : oM P (.binOp .eql t (.tmp 0) (.tmp 1) t') T [.string a, .string b] = pureM (.bool (decide (a = b))) := by
  funext K w
  exact oM_eqs_tt t t' T a b

@[go_sem] theorem oM_nes_tt' (t t' T : TypeId) (a b : ByteArray) : oM P (.binOp .neq t (.tmp 0) (.tmp 1) t') T [.string a, .string b] = pureM (.bool (!decide (a = b))) := by
  funext K w
  exact oM_nes_tt t t' T a b

@[go_sem] theorem oM_not' (t T : TypeId) (b : Bool) : oM P (.unOp .not t (.tmp 0)) T [.bool b] = pureM (.bool (!b)) := by
  funext K w
  exact oM_not t T b

@[go_sem] theorem oM_extract2_0' (T : TypeId) (a b : Value) : oM P (.extract (.tmp 0) 0) T [.tuple #[a, b]] = pureM a := by
  funext K w
  exact oM_extract2_0 T a b

@[go_sem] theorem oM_extract2_1' (T : TypeId) (a b : Value) : oM P (.extract (.tmp 0) 1) T [.tuple #[a, b]] = pureM b := by
  funext K w
  exact oM_extract2_1 T a b

@[go_sem] theorem oM_extract3_0' (T : TypeId) (a b c : Value) : oM P (.extract (.tmp 0) 0) T [.tuple #[a, b, c]] = pureM a := by
  funext K w
  exact oM_extract3_0 T a b c

@[go_sem] theorem oM_extract3_1' (T : TypeId) (a b c : Value) : oM P (.extract (.tmp 0) 1) T [.tuple #[a, b, c]] = pureM b := by
  funext K w
  exact oM_extract3_1 T a b c

@[go_sem] theorem oM_extract3_2' (T : TypeId) (a b c : Value) : oM P (.extract (.tmp 0) 2) T [.tuple #[a, b, c]] = pureM c := by
  funext K w
  exact oM_extract3_2 T a b c

@[go_sem] theorem oM_len_string' (t T : TypeId) (s : ByteArray) (h : P.underlying t = some .string) : oM P (.call { callee := .builtin .len, args := #[.tmp 0], argTypes := #[t] }) T [.string s] = pureM (.int .i64 s.size) := by
  funext K w
  exact oM_len_string t T s h
/-- the byte of a string at a place -/
def byteAt (s : ByteArray) (n : Nat) : UInt8 := s.data.toList.getD n 0
theorem byteAt_get (s : ByteArray) (n : Nat) (h : n < s.size) : byteAt s n = s[n] := by
  unfold byteAt
  have h' : n < s.data.toList.length := by simpa using h
  rw [List.getD_eq_getElem?_getD, List.getElem?_eq_getElem h']
  rfl
/-- a value under a condition -/
def onM (p : Prop) (v : Value) (K : Value → World → Prop) (w : World) : Prop := p ∧ K v w
@[go_sem] theorem onM_eq (p : Prop) (v : Value) : onM p v K w = (p ∧ K v w) := rfl
@[go_sem] theorem oM_index_string' (t T : TypeId) (s : ByteArray) (i : Int) (h : P.underlying t = some .string) : oM P (.index t (.tmp 0) (.tmp 1)) T [.string s, .int .i64 i] = onM (0 ≤ i ∧ i.toNat < s.size) (.int .u8 (byteAt s i.toNat).toNat) := by
  funext K w
  rw [oM_index_string t T s i h]
  exact propext ⟨fun ⟨h, hk⟩ => ⟨h, by rw [byteAt_get _ _ h.2]; exact hk⟩, fun ⟨h, hk⟩ => ⟨h, by rw [byteAt_get _ _ h.2] at hk; exact hk⟩⟩
@[go_sem] theorem oM_slice_from' (t T : TypeId) (s : ByteArray) (i : Int) (h : P.underlying t = some .string) : oM P (.slice t (.tmp 0) (some (.tmp 1)) none none) T [.string s, .int .i64 i] = onM (0 ≤ i ∧ i ≤ s.size) (.string (s.extract i.toNat s.size)) := by
  funext K w
  exact oM_slice_from t T s i h
@[go_sem] theorem oM_slice_to' (t T : TypeId) (s : ByteArray) (i : Int) (h : P.underlying t = some .string) : oM P (.slice t (.tmp 0) none (some (.tmp 1)) none) T [.string s, .int .i64 i] = onM (0 ≤ i ∧ i ≤ s.size) (.string (s.extract 0 i.toNat)) := by
  funext K w
  exact oM_slice_to t T s i h
@[go_sem] theorem oM_slice_both' (t T : TypeId) (s : ByteArray) (i j : Int) (h : P.underlying t = some .string) : oM P (.slice t (.tmp 0) (some (.tmp 1)) (some (.tmp 2)) none) T [.string s, .int .i64 i, .int .i64 j] = onM (0 ≤ i ∧ i ≤ j ∧ j ≤ s.size) (.string (s.extract i.toNat j.toNat)) := by
  funext K w
  exact oM_slice_both t T s i j h
theorem gdM_dec {p : Prop} [Decidable p] {m : (Value → World → Prop) → World → Prop} (h1 : p → m K w) (h2 : ¬p → K undef w) : gdM (decide p) m K w := by
  by_cases h : p
  · rw [decide_eq_true h]; exact h1 h
  · rw [decide_eq_false h]; exact h2 h
theorem gdM_ndec {p : Prop} [Decidable p] {m : (Value → World → Prop) → World → Prop} (h1 : p → K undef w) (h2 : ¬p → m K w) : gdM (!decide p) m K w := by
  by_cases h : p
  · rw [decide_eq_true h]; exact h1 h
  · rw [decide_eq_false h]; exact h2 h
theorem gdM_bool {b : Bool} {m : (Value → World → Prop) → World → Prop} (h1 : b = true → m K w) (h2 : b = false → K undef w) : gdM b m K w := by
  cases b
  · exact h2 rfl
  · exact h1 rfl
theorem gdM_nbool {b : Bool} {m : (Value → World → Prop) → World → Prop} (h1 : b = true → K undef w) (h2 : b = false → m K w) : gdM (!b) m K w := by
  cases b
  · exact h2 rfl
  · exact h1 rfl
theorem condM_dec {p : Prop} [Decidable p] {A B : Prop} (h1 : p → A) (h2 : ¬p → B) : condM (.bool (decide p)) A B := ⟨decide p, rfl, fun h => h1 (of_decide_eq_true h), fun h => h2 (of_decide_eq_false h)⟩
theorem condM_ndec {p : Prop} [Decidable p] {A B : Prop} (h1 : p → B) (h2 : ¬p → A) : condM (.bool (!decide p)) A B := ⟨!decide p, rfl, fun h => h2 (by simpa using h), fun h => h1 (by simpa using h)⟩
theorem condM_b {b : Bool} {A B : Prop} (h1 : b = true → A) (h2 : b = false → B) : condM (.bool b) A B := ⟨b, rfl, h1, h2⟩
@[go_sem] theorem condM_true (A B : Prop) : condM (.bool true) A B = A := propext ⟨fun ⟨_, h, ha, _⟩ => by cases h; exact ha rfl, fun h => ⟨true, rfl, fun _ => h, fun e => (by cases e)⟩⟩
@[go_sem] theorem condM_false (A B : Prop) : condM (.bool false) A B = B := propext ⟨fun ⟨_, h, _, hb⟩ => by cases h; exact hb rfl, fun h => ⟨false, rfl, fun e => (by cases e), fun _ => h⟩⟩
attribute [go_sem] cond_true cond_false decide_true decide_false Bool.not_true Bool.not_false
@[go_sem] theorem gd_undef (b : Bool) : gd undef b = false := by cases b <;> rfl
theorem wrapI64 (x : Int) (h1 : -9223372036854775808 ≤ x) (h2 : x ≤ 9223372036854775807) : IntKind.i64.wrap x = x := by
  unfold IntKind.wrap
  simp only [IntKind.bits, IntKind.signed]
  simp
  omega
theorem wrapU8 (x : Int) (h1 : 0 ≤ x) (h2 : x ≤ 255) : IntKind.u8.wrap x = x := by
  unfold IntKind.wrap
  simp only [IntKind.bits, IntKind.signed]
  simp
  omega
theorem wrapU32 (x : Int) (h1 : 0 ≤ x) (h2 : x ≤ 4294967295) : IntKind.u32.wrap x = x := by
  unfold IntKind.wrap
  simp only [IntKind.bits, IntKind.signed]
  simp
  omega
theorem wrapU64 (x : Int) (h1 : 0 ≤ x) (h2 : x ≤ 18446744073709551615) : IntKind.u64.wrap x = x := by
  unfold IntKind.wrap
  simp only [IntKind.bits, IntKind.signed]
  simp
  omega
attribute [go_sem] Int.toNat_natCast

def rM (r : Result Value) (K : Value → World → Prop) : Prop := match r with
  | .ok v w' => K v w'
  | .halt _ _ => False
def uM (r : Result Unit) (K : Value → World → Prop) : Prop := match r with
  | .ok _ w' => K undef w'
  | .halt _ _ => False
@[go_sem] theorem rM_ok (v : Value) (w' : World) : rM (.ok v w') K = K v w' := rfl
@[go_sem] theorem uM_ok (w' : World) : uM (.ok () w') K = K undef w' := rfl
theorem oM_unit {S : Sem Unit} {o : Op} {T : TypeId} {args : List Value} (hx : xop o T args = (do S; pure .skip)) : oM P o T args K w = uM (S.run P w) K := by
  unfold oM opM uM
  rw [hx, Sem.run_bind]
  generalize S.run P w = r
  cases r with
  | ok v w' => rfl
  | halt h w' => rfl
@[go_sem] theorem oM_alloc (T : TypeId) (t : TypeId) : oM P (.alloc t) T [] K w = rM ((Instr.alloc t true (.tuple #[])).run P w) K := by
  rw [oM_value (S := Instr.alloc t true (.tuple #[])) rfl]
  unfold rM
  generalize (Instr.alloc t true (.tuple #[])).run P w = r
  cases r with
  | ok v w' => exact ok_iff
  | halt h w' => exact halt_iff
@[go_sem] theorem oM_box (T : TypeId) (t : TypeId) (x : Value) : oM P (.box t (.tmp 0)) T [x] K w = rM ((Instr.box t x).run P w) K := by
  rw [oM_value (S := Instr.box t x) rfl]
  unfold rM
  generalize (Instr.box t x).run P w = r
  cases r with
  | ok v w' => exact ok_iff
  | halt h w' => exact halt_iff
@[go_sem] theorem oM_load (T : TypeId) (t : TypeId) (x : Value) : oM P (.load t (.tmp 0)) T [x] K w = rM ((Instr.loadAt t x).run P w) K := by
  rw [oM_value (S := Instr.loadAt t x) rfl]
  unfold rM
  generalize (Instr.loadAt t x).run P w = r
  cases r with
  | ok v w' => exact ok_iff
  | halt h w' => exact halt_iff
@[go_sem] theorem oM_store (T : TypeId) (t : TypeId) (x y : Value) : oM P (.store t (.tmp 0) (.tmp 1)) T [x, y] K w = uM ((Instr.storeAt t x y).run P w) K := by
  rw [oM_unit (S := Instr.storeAt t x y) rfl]
@[go_sem] theorem oM_fieldAddr (T : TypeId) (t : TypeId) (x : Value) (f : Nat) : oM P (.fieldAddr t (.tmp 0) f) T [x] K w = rM ((Instr.fieldAt t x f).run P w) K := by
  rw [oM_value (S := Instr.fieldAt t x f) rfl]
  unfold rM
  generalize (Instr.fieldAt t x f).run P w = r
  cases r with
  | ok v w' => exact ok_iff
  | halt h w' => exact halt_iff
@[go_sem] theorem oM_field (T : TypeId) (t : TypeId) (x : Value) (f : Nat) : oM P (.field t (.tmp 0) f) T [x] K w = rM ((Instr.field t x f).run P w) K := by
  rw [oM_value (S := Instr.field t x f) rfl]
  unfold rM
  generalize (Instr.field t x f).run P w = r
  cases r with
  | ok v w' => exact ok_iff
  | halt h w' => exact halt_iff
@[go_sem] theorem oM_indexAddr (T : TypeId) (t : TypeId) (x i : Value) : oM P (.indexAddr t (.tmp 0) (.tmp 1)) T [x, i] K w = rM ((Instr.indexAt t x i).run P w) K := by
  rw [oM_value (S := Instr.indexAt t x i) rfl]
  unfold rM
  generalize (Instr.indexAt t x i).run P w = r
  cases r with
  | ok v w' => exact ok_iff
  | halt h w' => exact halt_iff
@[go_sem] theorem oM_index_agg (T : TypeId) (t : TypeId) (cs : Array Value) (i : Value) : oM P (.index t (.tmp 0) (.tmp 1)) T [.agg cs, i] K w = rM ((Instr.index t (.agg cs) i).run P w) K := by
  rw [oM_value (S := Instr.index t (.agg cs) i) rfl]
  unfold rM
  generalize (Instr.index t (.agg cs) i).run P w = r
  cases r with
  | ok v w' => exact ok_iff
  | halt h w' => exact halt_iff
@[go_sem] theorem oM_convert (T : TypeId) (s d : TypeId) (x : Value) : oM P (.convert s d (.tmp 0)) T [x] K w = rM ((convert s d x).run P w) K := by
  rw [oM_value (S := convert s d x) rfl]
  unfold rM
  generalize (convert s d x).run P w = r
  cases r with
  | ok v w' => exact ok_iff
  | halt h w' => exact halt_iff
@[go_sem] theorem oM_build0 (T : TypeId) (t : TypeId) : oM P (.build t #[]) T [] K w = rM ((Instr.build t #[]).run P w) K := by
  rw [oM_value (S := Instr.build t #[]) (by simp [xop, execOp, evalL, evE])]
  unfold rM
  generalize (Instr.build t #[]).run P w = r
  cases r with
  | ok v w' => exact ok_iff
  | halt h w' => exact halt_iff
@[go_sem] theorem oM_build1 (T : TypeId) (t : TypeId) (i0 : Nat) (v0 : Value) : oM P (.build t #[(i0, .tmp 0)]) T [v0] K w = rM ((Instr.build t #[(i0, v0)]).run P w) K := by
  rw [oM_value (S := Instr.build t #[(i0, v0)]) (by simp [xop, execOp, evalL, evE])]
  unfold rM
  generalize (Instr.build t #[(i0, v0)]).run P w = r
  cases r with
  | ok v w' => exact ok_iff
  | halt h w' => exact halt_iff
@[go_sem] theorem oM_build2 (T : TypeId) (t : TypeId) (i0 i1 : Nat) (v0 v1 : Value) : oM P (.build t #[(i0, .tmp 0), (i1, .tmp 1)]) T [v0, v1] K w = rM ((Instr.build t #[(i0, v0), (i1, v1)]).run P w) K := by
  rw [oM_value (S := Instr.build t #[(i0, v0), (i1, v1)]) (by simp [xop, execOp, evalL, evE])]
  unfold rM
  generalize (Instr.build t #[(i0, v0), (i1, v1)]).run P w = r
  cases r with
  | ok v w' => exact ok_iff
  | halt h w' => exact halt_iff
@[go_sem] theorem oM_build3 (T : TypeId) (t : TypeId) (i0 i1 i2 : Nat) (v0 v1 v2 : Value) : oM P (.build t #[(i0, .tmp 0), (i1, .tmp 1), (i2, .tmp 2)]) T [v0, v1, v2] K w = rM ((Instr.build t #[(i0, v0), (i1, v1), (i2, v2)]).run P w) K := by
  rw [oM_value (S := Instr.build t #[(i0, v0), (i1, v1), (i2, v2)]) (by simp [xop, execOp, evalL, evE])]
  unfold rM
  generalize (Instr.build t #[(i0, v0), (i1, v1), (i2, v2)]).run P w = r
  cases r with
  | ok v w' => exact ok_iff
  | halt h w' => exact halt_iff
@[go_sem] theorem oM_build4 (T : TypeId) (t : TypeId) (i0 i1 i2 i3 : Nat) (v0 v1 v2 v3 : Value) : oM P (.build t #[(i0, .tmp 0), (i1, .tmp 1), (i2, .tmp 2), (i3, .tmp 3)]) T [v0, v1, v2, v3] K w = rM ((Instr.build t #[(i0, v0), (i1, v1), (i2, v2), (i3, v3)]).run P w) K := by
  rw [oM_value (S := Instr.build t #[(i0, v0), (i1, v1), (i2, v2), (i3, v3)]) (by simp [xop, execOp, evalL, evE])]
  unfold rM
  generalize (Instr.build t #[(i0, v0), (i1, v1), (i2, v2), (i3, v3)]).run P w = r
  cases r with
  | ok v w' => exact ok_iff
  | halt h w' => exact halt_iff
@[go_sem] theorem oM_build5 (T : TypeId) (t : TypeId) (i0 i1 i2 i3 i4 : Nat) (v0 v1 v2 v3 v4 : Value) : oM P (.build t #[(i0, .tmp 0), (i1, .tmp 1), (i2, .tmp 2), (i3, .tmp 3), (i4, .tmp 4)]) T [v0, v1, v2, v3, v4] K w = rM ((Instr.build t #[(i0, v0), (i1, v1), (i2, v2), (i3, v3), (i4, v4)]).run P w) K := by
  rw [oM_value (S := Instr.build t #[(i0, v0), (i1, v1), (i2, v2), (i3, v3), (i4, v4)]) (by simp [xop, execOp, evalL, evE])]
  unfold rM
  generalize (Instr.build t #[(i0, v0), (i1, v1), (i2, v2), (i3, v3), (i4, v4)]).run P w = r
  cases r with
  | ok v w' => exact ok_iff
  | halt h w' => exact halt_iff
@[go_sem] theorem oM_build6 (T : TypeId) (t : TypeId) (i0 i1 i2 i3 i4 i5 : Nat) (v0 v1 v2 v3 v4 v5 : Value) : oM P (.build t #[(i0, .tmp 0), (i1, .tmp 1), (i2, .tmp 2), (i3, .tmp 3), (i4, .tmp 4), (i5, .tmp 5)]) T [v0, v1, v2, v3, v4, v5] K w = rM ((Instr.build t #[(i0, v0), (i1, v1), (i2, v2), (i3, v3), (i4, v4), (i5, v5)]).run P w) K := by
  rw [oM_value (S := Instr.build t #[(i0, v0), (i1, v1), (i2, v2), (i3, v3), (i4, v4), (i5, v5)]) (by simp [xop, execOp, evalL, evE])]
  unfold rM
  generalize (Instr.build t #[(i0, v0), (i1, v1), (i2, v2), (i3, v3), (i4, v4), (i5, v5)]).run P w = r
  cases r with
  | ok v w' => exact ok_iff
  | halt h w' => exact halt_iff
theorem oM_gen {o : Op} {T : TypeId} {args : List Value} (h : ∀ K' : Value → World → Prop, (∀ v w, K v w → K' v w) → oM P o T args K' w) : oM P o T args K w := h K (fun _ _ h => h)
theorem pureM_in {v : Value} (h : K v w) : pureM v K w := h
section
variable {m : (Value → World → Prop) → World → Prop} {p : Prop} [Decidable p] {b : Bool} {A B : Prop} {x y : Value} {T : TypeId}
theorem gdt_pos (h : p) (k : m K w) : gdM (gd (.bool (decide p)) true) m K w := by rw [gd_true, decide_eq_true h]; exact k
theorem gdt_neg (h : ¬p) (k : K undef w) : gdM (gd (.bool (decide p)) true) m K w := by rw [gd_true, decide_eq_false h]; exact k
theorem gdt_split (h1 : p → m K w) (h2 : ¬p → K undef w) : gdM (gd (.bool (decide p)) true) m K w := by rw [gd_true]; exact gdM_dec h1 h2
theorem gdf_pos (h : ¬p) (k : m K w) : gdM (gd (.bool (decide p)) false) m K w := by rw [gd_false, decide_eq_false h]; exact k
theorem gdf_neg (h : p) (k : K undef w) : gdM (gd (.bool (decide p)) false) m K w := by rw [gd_false, decide_eq_true h]; exact k
theorem gdf_split (h1 : p → K undef w) (h2 : ¬p → m K w) : gdM (gd (.bool (decide p)) false) m K w := by rw [gd_false]; exact gdM_ndec h1 h2
theorem gdtn_pos (h : ¬p) (k : m K w) : gdM (gd (.bool (!decide p)) true) m K w := by rw [gd_true, decide_eq_false h]; exact k
theorem gdtn_neg (h : p) (k : K undef w) : gdM (gd (.bool (!decide p)) true) m K w := by rw [gd_true, decide_eq_true h]; exact k
theorem gdtn_split (h1 : p → K undef w) (h2 : ¬p → m K w) : gdM (gd (.bool (!decide p)) true) m K w := by rw [gd_true]; exact gdM_ndec h1 h2
theorem gdfn_pos (h : p) (k : m K w) : gdM (gd (.bool (!decide p)) false) m K w := by rw [gd_false, decide_eq_true h]; exact k
theorem gdfn_neg (h : ¬p) (k : K undef w) : gdM (gd (.bool (!decide p)) false) m K w := by rw [gd_false, decide_eq_false h]; exact k
theorem gdfn_split (h1 : p → m K w) (h2 : ¬p → K undef w) : gdM (gd (.bool (!decide p)) false) m K w := by rw [gd_false, Bool.not_not]; exact gdM_dec h1 h2
theorem gdtb_pos (h : b = true) (k : m K w) : gdM (gd (.bool b) true) m K w := by rw [gd_true, h]; exact k
theorem gdtb_neg (h : b = false) (k : K undef w) : gdM (gd (.bool b) true) m K w := by rw [gd_true, h]; exact k
theorem gdtb_split (h1 : b = true → m K w) (h2 : b = false → K undef w) : gdM (gd (.bool b) true) m K w := by rw [gd_true]; exact gdM_bool h1 h2
theorem gdfb_pos (h : b = false) (k : m K w) : gdM (gd (.bool b) false) m K w := by rw [gd_false, h]; exact k
theorem gdfb_neg (h : b = true) (k : K undef w) : gdM (gd (.bool b) false) m K w := by rw [gd_false, h]; exact k
theorem gdfb_split (h1 : b = true → K undef w) (h2 : b = false → m K w) : gdM (gd (.bool b) false) m K w := by rw [gd_false]; exact gdM_nbool h1 h2
theorem gdtbn_pos (h : b = false) (k : m K w) : gdM (gd (.bool (!b)) true) m K w := by rw [gd_true, h]; exact k
theorem gdtbn_neg (h : b = true) (k : K undef w) : gdM (gd (.bool (!b)) true) m K w := by rw [gd_true, h]; exact k
theorem gdfbn_pos (h : b = true) (k : m K w) : gdM (gd (.bool (!b)) false) m K w := by rw [gd_false, h]; exact k
theorem gdfbn_neg (h : b = false) (k : K undef w) : gdM (gd (.bool (!b)) false) m K w := by rw [gd_false, h]; exact k
theorem gdu (k : K undef w) (c : Bool) : gdM (gd undef c) m K w := by rw [gd_undef]; exact k
theorem gdtT (k : m K w) : gdM (gd (.bool true) true) m K w := k
theorem gdtF (k : K undef w) : gdM (gd (.bool false) true) m K w := k
theorem gdfF (k : m K w) : gdM (gd (.bool false) false) m K w := k
theorem gdfT (k : K undef w) : gdM (gd (.bool true) false) m K w := k
theorem pick_pos (h : p) (k : K x w) : oM P (.pick (.tmp 0) (.tmp 1) (.tmp 2)) T [.bool (decide p), x, y] K w := by rw [oM_pick, decide_eq_true h]; exact k
theorem pick_neg (h : ¬p) (k : K y w) : oM P (.pick (.tmp 0) (.tmp 1) (.tmp 2)) T [.bool (decide p), x, y] K w := by rw [oM_pick, decide_eq_false h]; exact k
theorem pickn_pos (h : ¬p) (k : K x w) : oM P (.pick (.tmp 0) (.tmp 1) (.tmp 2)) T [.bool (!decide p), x, y] K w := by rw [oM_pick, decide_eq_false h]; exact k
theorem pickn_neg (h : p) (k : K y w) : oM P (.pick (.tmp 0) (.tmp 1) (.tmp 2)) T [.bool (!decide p), x, y] K w := by rw [oM_pick, decide_eq_true h]; exact k
theorem pickb_pos (h : b = true) (k : K x w) : oM P (.pick (.tmp 0) (.tmp 1) (.tmp 2)) T [.bool b, x, y] K w := by rw [oM_pick, h]; exact k
theorem pickb_neg (h : b = false) (k : K y w) : oM P (.pick (.tmp 0) (.tmp 1) (.tmp 2)) T [.bool b, x, y] K w := by rw [oM_pick, h]; exact k
theorem pickbn_pos (h : b = false) (k : K x w) : oM P (.pick (.tmp 0) (.tmp 1) (.tmp 2)) T [.bool (!b), x, y] K w := by rw [oM_pick, h]; exact k
theorem pickbn_neg (h : b = true) (k : K y w) : oM P (.pick (.tmp 0) (.tmp 1) (.tmp 2)) T [.bool (!b), x, y] K w := by rw [oM_pick, h]; exact k
theorem pickT (k : K x w) : oM P (.pick (.tmp 0) (.tmp 1) (.tmp 2)) T [.bool true, x, y] K w := by rw [oM_pick]; exact k
theorem pickF (k : K y w) : oM P (.pick (.tmp 0) (.tmp 1) (.tmp 2)) T [.bool false, x, y] K w := by rw [oM_pick]; exact k
theorem cond_pos (h : p) (k : A) : condM (.bool (decide p)) A B := condM_dec (fun _ => k) (fun h' => absurd h h')
theorem cond_neg (h : ¬p) (k : B) : condM (.bool (decide p)) A B := condM_dec (fun h' => absurd h' h) (fun _ => k)
theorem condn_pos (h : ¬p) (k : A) : condM (.bool (!decide p)) A B := condM_ndec (fun h' => absurd h' h) (fun _ => k)
theorem condn_neg (h : p) (k : B) : condM (.bool (!decide p)) A B := condM_ndec (fun _ => k) (fun h' => absurd h h')
theorem condb_pos (h : b = true) (k : A) : condM (.bool b) A B := condM_b (fun _ => k) (fun h' => absurd (h.symm.trans h') (by simp))
theorem condb_neg (h : b = false) (k : B) : condM (.bool b) A B := condM_b (fun h' => absurd (h.symm.trans h') (by simp)) (fun _ => k)
theorem condbn_pos (h : b = false) (k : A) : condM (.bool (!b)) A B := condb_pos (by rw [h]; rfl) k
theorem condbn_neg (h : b = true) (k : B) : condM (.bool (!b)) A B := condb_neg (by rw [h]; rfl) k
theorem condbn_split (h1 : b = true → B) (h2 : b = false → A) : condM (.bool (!b)) A B := by
  cases b
  · exact condb_pos rfl (h2 rfl)
  · exact condb_neg rfl (h1 rfl)
theorem condT (k : A) : condM (.bool true) A B := condb_pos rfl k
theorem condF (k : B) : condM (.bool false) A B := condb_neg rfl k
end
theorem oM_callv {f : FuncId} {o : Op} {T : TypeId} {args : List Value} (xs : Array Value) (hb : isBody P f = true) (hx : xop o T args = callFunc f xs) (h : callM P f xs K w) : oM P o T args K w := by
  unfold oM opM
  rw [hx, isBody_run hb]
  exact h
theorem oM_callv1 {f : FuncId} {fs cs : Array Value} {T : TypeId} {ts : Array TypeId} {x : Value} (hb : isBody P f = true) (h : callM P f (fs ++ #[x] ++ cs) K w) : oM P (.call { callee := .value (.tmp 0), args := #[.tmp 1], argTypes := ts }) T [.func (.func f) fs cs, x] K w :=
  oM_callv _ hb (by simp [xop, execOp, evalL, evE, resolve, Deferred.ofValue, invoke]) h
@[go_sem] theorem oM_nilCheck (T : TypeId) (a : Addr) : oM P (.nilCheck (.tmp 0)) T [.pointer (some a)] K w = K (.pointer (some a)) w := oM_of_run rfl
theorem rM_of {S : Sem Value} {o : Op} {T : TypeId} {args : List Value} (hx : xop o T args = (do let v ← S; pure (.value v))) : oM P o T args K w = rM (S.run P w) K := by
  rw [oM_value hx]
  unfold rM
  generalize S.run P w = r
  cases r with
  | ok v w' => exact ok_iff
  | halt h w' => exact halt_iff
theorem oM_eqc (t t' T : TypeId) (x c : Value) : oM P (.binOp .eql t (.tmp 0) (.const c) t') T [x] K w = rM ((do eqGuard .eql t (.tmp 0) (.const c) x c; binOp .eql t x c : Sem Value).run P w) K := rM_of rfl
theorem oM_nec (t t' T : TypeId) (x c : Value) : oM P (.binOp .neq t (.tmp 0) (.const c) t') T [x] K w = rM ((do eqGuard .neq t (.tmp 0) (.const c) x c; binOp .neq t x c : Sem Value).run P w) K := rM_of rfl
theorem oM_eqt (t t' T : TypeId) (x y : Value) : oM P (.binOp .eql t (.tmp 0) (.tmp 1) t') T [x, y] K w = rM ((do eqGuard .eql t (.tmp 0) (.tmp 1) x y; binOp .eql t x y : Sem Value).run P w) K := rM_of rfl
theorem oM_net (t t' T : TypeId) (x y : Value) : oM P (.binOp .neq t (.tmp 0) (.tmp 1) t') T [x, y] K w = rM ((do eqGuard .neq t (.tmp 0) (.tmp 1) x y; binOp .neq t x y : Sem Value).run P w) K := rM_of rfl
theorem extM_gen {f : FuncId} {args : Array Value} (h : ∀ K' : Value → World → Prop, (∀ v w, K v w → K' v w) → extM P f args K' w) : extM P f args K w := h K (fun _ _ h => h)
@[go_sem] theorem oM_buildSlice1 (T t i0 : Nat) (x : Value) (n : Nat) : oM P (.buildSlice t n #[(i0, .tmp 0)]) T [x] K w = rM ((Instr.buildSlice t n #[(i0, x)]).run P w) K := rM_of (by simp [xop, execOp, evalL, evE])
end
end Go.Sh
