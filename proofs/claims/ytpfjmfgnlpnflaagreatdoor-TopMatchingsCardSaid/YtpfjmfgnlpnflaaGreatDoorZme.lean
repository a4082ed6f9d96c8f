/- Parts of the proof of the seat's statements (LawKit, OpenKit, OpenKit2, LZ, RgB, RgC, HRe, FpA, FpB, TkQ, FpC, FpD, TzN, HTh, ClA, ClB, ClC, ClD, ClE, ClF, HLTicketBlind, TzB, TmA, HLTopMatchings, TmC, TmB, LZm): lemmas about the given translation and plain laws. No condition of their own. -/
import Derived.Test.YtpfjmfgnlpnflaaGreatDoorZmd
import Derived.ProofKit
import Derived.LaidMore
import Derived.OpenShut
import Derived.Carry
import Derived.SizedLaws
import Derived.Stop.Joined
import Derived.Deep.Slices
import Derived.Deep.Fields
import Derived.LaidSub
import Derived.Test.YtpfjmfgnlpnflaaGreatDoorRows
import Derived.Test.YtpfjmfgnlpnflaaGreatDoorCards
import Derived.Test.YtpfjmfgnlpnflaaGreatDoorTie
import Derived.SevenTiedAt
import Derived.Test.YtpfjmfgnlpnflaaGreatDoorProg
set_option linter.all false
set_option maxRecDepth 100000
namespace Go.Sh
open Go Go.ChangeShapes Go.WideShapes Go.ChangeAt Go.RowKit
section
variable {H : Type} {enc : TypeId × Value → H} {P : Program}
theorem trodAll_below (hl : laidOutB P = true) {W W' : World} (hb : Below W.heap.size W W') :
    ∀ (ts : List TypeId) (vs : List Value) (ds : List (DataW H)) (ps : List MemPlace), (ts.all fun t => P.readableRec t && decide (t < P.types.size)) = true →
    DataW.TrodAll enc P W 0 (fun _ => true) true ts vs ds ps → (∀ x ∈ ps, x.block < W.heap.size) → DataW.TrodAll enc P W' 0 (fun b => decide (b < W.heap.size)) true ts vs ds ps
  | [], [], [], _, _, h, _ => h
  | t :: ts, v :: vs, d :: ds, ps, ht, h, hlt => by
    obtain ⟨p, q, h1, h2, rfl⟩ := h
    simp only [List.all_cons, Bool.and_eq_true, decide_eq_true_eq] at ht
    exact ⟨p, q, Below.trod hl ht.1.1 ht.1.2 h1 hb (fun x hx => hlt x (by simp [hx])), trodAll_below hl hb ts vs ds q ht.2 h2 (fun x hx => hlt x (by simp [hx])), rfl⟩
  | [], _ :: _, _, _, _, h, _ => h.elim
  | [], [], _ :: _, _, _, h, _ => h.elim
  | _ :: _, [], _, _, _, h, _ => h.elim
  | _ :: _, _ :: _, [], _, _, h, _ => h.elim
theorem trodAll_length {W : World} {b : Nat} {sp : Nat → Bool} {hd : Bool} : ∀ (ts : List TypeId) (vs : List Value) (ds : List (DataW H)) (ps : List MemPlace), DataW.TrodAll enc P W b sp hd ts vs ds ps → ds.length = ts.length ∧ vs.length = ts.length
  | [], [], [], _, _ => ⟨rfl, rfl⟩
  | t :: ts, v :: vs, d :: ds, ps, h => by
    obtain ⟨p, q, h1, h2, rfl⟩ := h
    have := trodAll_length ts vs ds q h2
    simp [this]
  | [], _ :: _, _, _, h => h.elim
  | [], [], _ :: _, _, h => h.elim
  | _ :: _, [], _, _, h => h.elim
  | _ :: _, _ :: _, [], _, h => h.elim
theorem trodL_cons {W : World} {b : Nat} {sp : Nat → Bool} {hd : Bool} {t : TypeId} {ts : List TypeId} {vs : List Value} {ds : List (DataW H)} {ps : List MemPlace} (h : DataW.TrodAll enc P W b sp hd (t :: ts) vs ds ps) :
    ∃ v d vs' ds' p q, vs = v :: vs' ∧ ds = d :: ds' ∧ DataW.Trod enc P W b sp hd t v d p ∧ DataW.TrodAll enc P W b sp hd ts vs' ds' q ∧ ps = p ++ q := by
  match vs, ds, h with
  | v :: vs, d :: ds, h =>
    obtain ⟨p, q, h1, h2, rfl⟩ := h
    exact ⟨v, d, vs, ds, p, q, rfl, rfl, h1, h2, rfl⟩
  | [], _, h => exact h.elim
  | _ :: _, [], h => exact h.elim
theorem trodL0 {W : World} {b : Nat} {sp : Nat → Bool} {hd : Bool} {vs : List Value} {ds : List (DataW H)} {ps : List MemPlace} (h : DataW.TrodAll enc P W b sp hd [] vs ds ps) : vs = [] ∧ ds = [] ∧ ps = [] := by
  match vs, ds, h with
  | [], [], h => exact ⟨rfl, rfl, h⟩
theorem law_post {fn : Func} {s : ChangeSpec} {tb : TypeId} {apart : Bool} {W W' : World} {args : Array Value} {ds gs : List (DataW H)} {before : List MemPlace} (hl : laidOutB P = true)
    (hrt : fn.resultTypes = #[tb]) (hub : P.underlying tb = some .bool) (hpar : (fn.params.toList.all fun t => P.readableRec t && decide (t < P.types.size)) = true) (hvars : s.vars = [])
    (hspec : ∀ ds : List (DataW H), ds.length = fn.params.toList.length → s.fn H ds = { results := [.lit (.bool true)], args := ds })
    (hW : DataW.Whole enc P fn.params.toList s.vars apart W args.toList ds gs before) (hb : Below W.heap.size W W') : s.post enc P fn apart true false false W args (.bool true) W' := by
  have hW0 := hW
  have hlt := hW.lt
  obtain ⟨p, q, hA, hV, rfl, _, _⟩ := hW
  rw [hvars] at hV
  obtain ⟨rfl, rfl⟩ := trodVars_none hV
  have hlen := (trodAll_length _ _ _ _ hA).1
  have hs := hspec ds hlen
  rw [List.append_nil] at hlt hW0
  refine ⟨ds, [], p, [], p, [], hW0, ?_, ?_, ?_, hb.frame _, fun h => by cases h⟩
  · rw [List.append_nil, hs, hrt]
    exact trodAll_mk1 (shut_bool hub true)
  · rw [List.append_nil, hs]
    exact trodAll_below hl hb _ _ _ _ hpar hA hlt
  · rw [hvars, List.append_nil, hs]
    rfl
theorem law_lifted_laid {C : Checked} {os : Os} {f : FuncId} {fn : Func} {s : ChangeSpec} {tb : TypeId} {L : List (String × DataW Unit)} (own : ownKnob C.prog.godebug = none) (started : os.Started) (noInit : C.prog.inits.idxOf? f = none) (hfn : C.prog.funcs[f]? = some fn)
    (hl : laidOutB C.prog = true) (hrt : fn.resultTypes = #[tb]) (hub : C.prog.underlying tb = some .bool) (hpar : (fn.params.toList.all fun t => C.prog.readableRec t && decide (t < C.prog.types.size)) = true) (hvars : s.vars = [])
    (hspec : ∀ ds : List (DataW H), ds.length = fn.params.toList.length → s.fn H ds = { results := [.lit (.bool true)], args := ds })
    (witness : ∃ (w : World) (tape : Tape) (i : Input), w.os = os ∧ (w.forCall tape i).Shaped C.prog ∧ i.vars = [] ∧ Input.okWide C.prog (w.forCall tape i) .any w.heap.size f i ∧
      ((s.pre enc C.prog fn [] false (w.forCall tape i).memory i.args ∧ laidMetH C.prog L (w.forCall tape i).memory) ∧ sizedMet enc C.prog fn (OpenSpec.ofChange s) false (w.forCall tape i).memory i.args) ∧ ({} : Assume).holds C.prog (lone (Frame.enter C.prog f i.args .normal) [] (w.forCall tape i)))
    (contract : ∀ (W : World) (base : Nat) (args : List Value) (ds : List (DataW H)) (p : List MemPlace), (∀ (j : Nat) t v, fn.params.toList[j]? = some t → args[j]? = some v → Value.okWide C.prog W .any base t v) →
      DataW.TrodAll enc C.prog W 0 (fun _ => true) true fn.params.toList args ds p → (DataW.weightsEach C.prog fn.params.toList ds).all (· ≤ reachBytes) = true → (∀ x ∈ p, x.block < W.heap.size) →
      laidMetH C.prog L W →
      callM C.prog f args.toArray (fun v W' => v = .bool true ∧ Below W.heap.size W W') W) :
    ReturnsInHanded {} C os f .any (fun w args => (s.pre enc C.prog fn [] false w args ∧ laidMetH C.prog L w) ∧ sizedMet enc C.prog fn (OpenSpec.ofChange s) false w args)
      (s.post enc C.prog fn false true false false) := by
  refine returnsInHanded_of_change_and (X := fun w _ => laidMetH C.prog L w) (fun _ _ _ hh h => h.of_heap hh) own started noInit hfn witness ?_
  intro W base args ds gs before hval hW _ hsz hX _
  have hW0 := hW
  have hlt := hW.lt
  obtain ⟨p, q, hA, hV, rfl, _, _⟩ := hW
  rw [hvars] at hV
  obtain ⟨rfl, rfl⟩ := trodVars_none hV
  have hsz' : (DataW.weightsEach C.prog fn.params.toList ds).all (· ≤ reachBytes) = true := by
    simpa [hvars, ChangeSpec.plain, DataSpec.varTypes] using hsz
  have hc := contract W base args.toList ds p (fun j t v h1 h2 => hval j t v (by simpa using h1) (by simpa using h2)) hA hsz' (fun x hx => hlt x (by simp [hx])) hX
  refine hc.mono fun e W' h => ?_
  obtain ⟨v, rfl, rfl, hb⟩ := h
  exact ⟨_, rfl, law_post hl hrt hub hpar hvars hspec hW0 hb⟩
end
end Go.Sh
namespace Go.Sh
open Go Go.ChangeShapes Go.WideShapes Go.ChangeAt Go.RowKit Go.Deep
section
variable {H : Type} {enc : TypeId × Value → H} {P : Program} {w : World} {sp : Nat → Bool} {hd : Bool}
theorem addr_add' (b o k : Nat) : (⟨b, o, none⟩ : Addr).add k = ⟨b, o + k, none⟩ := by
  unfold Addr.add
  split
  · rename_i h; rw [h]; rfl
  · rfl
theorem cell_lt {a : Addr} {v : Value} (h : w.cell? a = some v) : a.block < w.heap.size ∧ a.spot = none := by
  unfold World.cell? at h
  split at h
  · rename_i c t f hh
    refine ⟨(Array.getElem?_eq_some_iff.1 hh).1, ?_⟩
    split at h
    · cases h
    · rename_i hs
      cases hsp : a.spot with
      | none => rfl
      | some x => rw [hsp] at hs; exact absurd rfl hs
  · cases h
theorem open_fields {e : TypeId} {fs : Array Field} {n : Nat} {cs : List Value} {D : DataW H × List MemPlace} (he : P.underlying e = some (.struct fs)) (hone : oneCellFields P fs = true) (hC : P.cellsOf e = fs.size)
    (h : DataW.trod enc P w 0 sp hd n e cs = some D) :
    cs.length = fs.size ∧ ∀ (j : Nat) (f : Field), fs[j]? = some f → ∃ (v : Value) (y : DataW H × List MemPlace) (m : Nat), cs[j]? = some v ∧ DataW.trod enc P w 0 sp hd m f.type [v] = some y := by
  obtain ⟨xs, m, _, _, hcl, hxl, hf⟩ := DataW.trod_struct he h
  rw [hC] at hcl
  refine ⟨hcl, fun j f hj => ?_⟩
  obtain ⟨ho, hk⟩ := hone_of hone j f hj
  have hjl : j < fs.size := (Array.getElem?_eq_some_iff.1 hj).1
  have h1 := hf j f hj
  rw [ho, hk, List.drop_eq_getElem_cons (by omega), List.getElem?_eq_getElem (by omega : j < xs.length)] at h1
  exact ⟨_, _, m, List.getElem?_eq_getElem (by omega), h1⟩
end
end Go.Sh
namespace Go.Sh
open Go Go.ChangeShapes Go.WideShapes Go.ChangeAt Go.RowKit Go.Deep
section
variable {H : Type} {enc : TypeId × Value → H} {P : Program} {w : World} {sp : Nat → Bool} {hd : Bool}
theorem rowOpen {α : Type} (mk : α → Value) (Q : α → Prop) {t e : TypeId} {v : Value} {n : Nat} {D : DataW H × List MemPlace} (ht : P.underlying t = some (.slice e)) (hC : P.cellsOf e = 1)
    (hrd : ∀ (V : Value) (n : Nat) (D : DataW H × List MemPlace), DataW.trod enc P w 0 sp hd n e [V] = some D → ∃ x, V = mk x ∧ Q x) (h : DataW.trod enc P w 0 sp hd n t [v] = some D) :
    ∃ l : List α, (∃ ad c, v = .slice ad l.length c ∧ (l = [] ∨ ∃ b o, ad = some ⟨b, o, none⟩ ∧ b < w.heap.size ∧ ∀ (i : Nat) (h : i < l.length), w.cell? ⟨b, o + i, none⟩ = some (mk l[i]))) ∧ l.length ≤ maxLen ∧ ∀ x ∈ l, Q x := by
  rcases open_slice1 ht hC h with ⟨hcs, _⟩ | ⟨a', len, cap, m, n', V, D', Pl, hcs, _, hl, hm, hmm, _, hi⟩
  · simp only [List.cons.injEq, and_true] at hcs
    subst hcs
    exact ⟨[], ⟨none, 0, rfl, .inl rfl⟩, by simp, by simp⟩
  · simp only [List.cons.injEq, and_true] at hcs
    subst hcs
    have hml : len ≤ m := by rw [hmm]; split <;> omega
    have key : ∀ i : Fin len, ∃ x, V i = mk x ∧ Q x := fun i => hrd _ _ _ (hi i (by have := i.2; omega)).2
    refine ⟨List.ofFn (fun i => (key i).choose), ⟨some a', cap, by rw [List.length_ofFn], ?_⟩, by rw [List.length_ofFn]; omega, ?_⟩
    · by_cases h0 : len = 0
      · left; subst h0; rfl
      · right
        have h00 := (hi 0 (by omega)).1
        have e0 : a'.add 0 = a' := by simp [Addr.add]
        rw [e0] at h00
        obtain ⟨hb, hs⟩ := cell_lt h00
        obtain ⟨b, o, s⟩ := a'
        simp only at hs hb
        subst hs
        refine ⟨b, o, rfl, hb, fun i hil => ?_⟩
        rw [List.length_ofFn] at hil
        have h1 := (hi i (by omega)).1
        rw [addr_add'] at h1
        rw [h1, List.getElem_ofFn]
        have := (key ⟨i, hil⟩).choose_spec.1
        exact congrArg some this
    · intro x hx
      rw [List.mem_ofFn] at hx
      obtain ⟨i, rfl⟩ := hx
      exact (key i).choose_spec.2
end
end Go.Sh
namespace Go.Proofs
open Go Go.Sh Go.RowKit Go.Lib CodeSpec TkSpec FdSpec Go.ChangeShapes Go.WideShapes Go.ChangeAt Go.Deep
set_option linter.unusedSimpArgs false
set_option maxRecDepth 100000
abbrev laidList : List (String × DataW Unit) := YtpfjmfgnlpnflaaGreatDoor.Rows.ticketHonestRow.laid
abbrev lname (i : Nat) : String := (laidList.map (·.1)).getD i default
theorem var_of_laid {W : World} {nm : String} {d : DataW Unit} (hf : (laidList.filter fun x => x.1 == nm) = [(nm, d)]) (h : laidMetH Tryz.prog laidList W) : laidMet Tryz.prog [(nm, d)] W := by
  rw [MakeChecks.laidMetH_plain _ _ _ (by kernel_rfl)] at h
  have := h.filter (fun x => x.1 == nm)
  rwa [hf] at this
theorem tab_laid {W : World} (h : laidMetH Tryz.prog laidList W) : TabIs Tryz.prog W tabName .u64 pow10Tab :=
  tabIs_of_head (rest := []) (t := 245) (e := 139) (n := 20) Cd.gTab (by kernel_rfl) Tryz.underlying245 Tryz.underlying139 (by kernel_rfl) (by kernel_rfl)
    (var_of_laid (d := tabData .u64 pow10Tab) (by kernel_rfl) h)
theorem gDb : Tryz.prog.globalNamed (lname 1) = some 2 := by kernel_rfl
theorem db_laid {W : World} (h : laidMetH Tryz.prog laidList W) : TabIs Tryz.prog W (lname 1) .u8 (Lib.deBruijn64tab.map (fun n : Nat => (n : Int))) :=
  tabIs_of_head (rest := []) (t := 243) (e := 5) (n := 64) gDb (by kernel_rfl) Tryz.underlying243 Tryz.underlying5 (by kernel_rfl) (by kernel_rfl)
    (var_of_laid (d := tabData .u8 (Lib.deBruijn64tab.map (fun n : Nat => (n : Int)))) (by kernel_rfl) h)
theorem db_of {W : World} (h : laidMetH Tryz.prog laidList W) : DbT W := by
  have ht := db_laid h
  have hl : (Lib.deBruijn64tab.map (fun n : Nat => (n : Int))).length = 64 := by decide +kernel
  have hc : ∀ j, j < 64 → W.cell? ⟨2, j, none⟩ = some (.int .u8 (Lib.deBruijn64tab.getD j 0 : Nat)) := fun j hj => by
    rw [ht.cell gDb j (by omega)]
    have : (Lib.deBruijn64tab.map (fun n : Nat => (n : Int))).getD j 0 = ((Lib.deBruijn64tab.getD j 0 : Nat) : Int) := by
      rw [List.getD_eq_getElem?_getD, List.getD_eq_getElem?_getD, List.getElem?_map]
      cases Lib.deBruijn64tab[j]? <;> rfl
    rw [this]
  refine ⟨?_, hc⟩
  have h0 := hc 0 (by omega)
  by_cases hlt : 2 < W.heap.size
  · exact hlt
  · unfold World.cell? at h0
    rw [Array.getElem?_eq_none (by show W.heap.size ≤ 2; omega)] at h0
    simp at h0
theorem heap8 {W : World} (h : laidMetH Tryz.prog laidList W) : 8 ≤ W.heap.size := by
  obtain ⟨ps, ⟨g0, t0, cs0, f0, p0, q0, hg0, ht0, hv0, hd0, _, _⟩, _, _⟩ := var_of_laid (nm := lname 0) (d := YtpfjmfgnlpnflaaGreatDoor.Rows.laid_math_bits_deBruijn32tab) (by kernel_rfl) h
  have hg : Tryz.prog.globalNamed (lname 0) = some 7 := by kernel_rfl
  unfold World.var? at hv0
  rw [hg] at hv0
  simp only [Option.bind_some] at hv0
  split at hv0
  · rename_i cs t f hh
    have := (Array.getElem?_eq_some_iff.1 hh).1
    omega
  · cases hv0
theorem laid_of {W : World} (h : laidMetH Tryz.prog laidList W) : Cd.Laid W := ⟨tab_laid h, heap8 h⟩
theorem own : ownKnob Tryz.prog.godebug = none := by kernel_rfl
theorem laidOut : laidOutB Tryz.prog = true := by kernel_rfl
theorem door_met (os : Os) (args : Array Value) : laidMetH Tryz.prog laidList ((World.doorLaid Tryz.prog 400 os).forCall (fun _ _ => 0) ⟨#[], args, []⟩).memory :=
  laidMetH_of_parts3 (fuel := 8) (laidMet_of_run' 8 (by kernel_rfl) (by kernel_rfl)) (by kernel_rfl) (by kernel_rfl)
theorem intR {n : Int} (h : (Lit.int .i64 n).wf = true) : I64 n := by
  simp only [Lit.wf, Bool.and_eq_true, decide_eq_true_eq] at h
  exact (InR_iff n).1 h
section
variable {H : Type} {enc : TypeId × Value → H} {w : World} {sp : Nat → Bool} {hd : Bool}
theorem ints_of_row {v : Value} {l : List Int} (h : ∃ ad c, v = .slice ad l.length c ∧ (l = [] ∨ ∃ b o, ad = some ⟨b, o, none⟩ ∧ b < w.heap.size ∧ ∀ (i : Nat) (h : i < l.length), w.cell? ⟨b, o + i, none⟩ = some (Value.int .i64 l[i]))) (h0 : ∀ c, v = .slice none l.length c → l.length = 0 ∧ c = 0) (hl : l.length ≤ maxLen) (hr : ∀ x ∈ l, I64 x) : Ints w v l := by
  obtain ⟨ad, c, rfl, h⟩ := h
  refine ⟨⟨ad, c, rfl, fun e => ?_, ?_⟩, hr, hl⟩
  · subst e
    exact h0 c rfl
  · rcases h with h | ⟨b, o, rfl, hlt, hc⟩
    · exact .inl h
    · refine .inr ⟨b, o, rfl, hlt, fun k x hk => ?_⟩
      rw [flat_int] at hk
      obtain ⟨hk1, hk2⟩ := List.getElem?_eq_some_iff.1 hk
      have hk1 : k < l.length := by rw [List.length_map] at hk1; exact hk1
      rw [hc k hk1, ← hk2, List.getElem_map]
theorem nil_len {t : TypeId} {n m : Nat} {c : Nat} {D : DataW H × List MemPlace} (ht : Tryz.prog.underlying t = some (.slice 3)) (h : DataW.trod enc Tryz.prog w 0 sp hd n t [.slice none m c] = some D) : m = 0 ∧ c = 0 := by
  rcases open_slice1 ht (by kernel_rfl) h with ⟨hcs, _⟩ | ⟨a', len, cap, m, n', V, D', Pl, hcs, _⟩
  · simp only [List.cons.injEq, and_true, Value.slice.injEq] at hcs
    exact hcs.2
  · simp only [List.cons.injEq, and_true, Value.slice.injEq] at hcs
    exact absurd hcs.1 (by simp)
theorem open_ints {v : Value} {n : Nat} {D : DataW H × List MemPlace} (h : DataW.trod enc Tryz.prog w 0 sp hd n 22 [v] = some D) : ∃ l, Ints w v l := by
  have h' := h
  obtain ⟨l, h1, h2, h3⟩ := rowOpen (Value.int .i64) I64 Tryz.underlying22 (by kernel_rfl) (fun V n D h => by
    obtain ⟨k, e, _, hw⟩ := DataW.trod_int Tryz.underlying3 h
    simp only [List.cons.injEq, and_true] at e
    exact ⟨k, e, intR hw⟩) h
  exact ⟨l, ints_of_row h1 (fun c e => by subst e; exact nil_len Tryz.underlying22 h') h2 h3⟩
theorem cells_ints : Tryz.prog.cellsOf 22 = 1 := by kernel_rfl
theorem cells_int : Tryz.prog.cellsOf 3 = 1 := by kernel_rfl
theorem open_mir {n : Nat} {cs : List Value} {D : DataW H × List MemPlace} (h : DataW.trod enc Tryz.prog w 0 sp hd n 24 cs = some D) : ∃ m v, cs = [v, .int .i64 m.blind] ∧ MirR w m v := by
  obtain ⟨hcl, hf⟩ := open_fields Tryz.underlying24 (by kernel_rfl) (by kernel_rfl) h
  obtain ⟨v0, y0, m0, c0, f0⟩ := hf 0 _ rfl
  obtain ⟨v1, y1, m1, c1, f1⟩ := hf 1 _ rfl
  obtain ⟨l0, h0⟩ := open_ints f0
  obtain ⟨k1, e1, _, w1⟩ := DataW.trod_int Tryz.underlying3 f1
  simp only [List.cons.injEq, and_true] at e1
  have h6 : cs.length = 2 := hcl
  refine ⟨⟨l0, k1⟩, v0, ?_, ⟨h0, intR w1⟩⟩
  match cs, h6 with
  | [x0, x1], _ =>
    simp only [List.getElem?_cons_zero, List.getElem?_cons_succ, Option.some.injEq] at c0 c1
    rw [c0, c1, e1]
theorem open_bldC {n : Nat} {cs : List Value} {D : DataW H × List MemPlace} (h : DataW.trod enc Tryz.prog w 0 sp hd n 45 cs = some D) : ∃ b x, cs = [.int .i64 b.s, .int .i64 b.u, .int .i64 b.v, x] ∧ BldR w b x := by
  obtain ⟨hcl, hf⟩ := open_fields Tryz.underlying45 (by kernel_rfl) (by kernel_rfl) h
  obtain ⟨v0, y0, m0, c0, f0⟩ := hf 0 _ rfl
  obtain ⟨v1, y1, m1, c1, f1⟩ := hf 1 _ rfl
  obtain ⟨v2, y2, m2, c2, f2⟩ := hf 2 _ rfl
  obtain ⟨v3, y3, m3, c3, f3⟩ := hf 3 _ rfl
  obtain ⟨k0, e0, _, w0⟩ := DataW.trod_int Tryz.underlying3 f0
  obtain ⟨k1, e1, _, w1⟩ := DataW.trod_int Tryz.underlying3 f1
  obtain ⟨k2, e2, _, w2⟩ := DataW.trod_int Tryz.underlying3 f2
  obtain ⟨l3, h3⟩ := open_ints f3
  simp only [List.cons.injEq, and_true] at e0 e1 e2
  refine ⟨⟨k0, k1, k2, l3⟩, v3, ?_, ⟨intR w0, intR w1, intR w2, h3⟩⟩
  have h6 : cs.length = 4 := hcl
  match cs, h6 with
  | [x0, x1, x2, x3], _ =>
    simp only [List.getElem?_cons_zero, List.getElem?_cons_succ, Option.some.injEq] at c0 c1 c2 c3
    rw [c0, c1, c2, c3, e0, e1, e2]
theorem cells_mir : Tryz.prog.cellsOf 24 = 2 := by kernel_rfl
theorem cells_bld : Tryz.prog.cellsOf 45 = 4 := by kernel_rfl
end
end Go.Proofs
namespace Go.Proofs
open Go Go.Sh Go.RowKit FdSpec TkSpec CodeSpec
set_option linter.unusedSimpArgs false
set_option linter.unusedVariables false
set_option maxRecDepth 10000
section
variable {K : Value → World → Prop} {w w0 : World} {L : List (Addr × Value)}
end
end Go.Proofs
namespace Go.Proofs
open Go Go.Sh Go.RowKit FdSpec TkSpec CodeSpec
set_option linter.unusedSimpArgs false
set_option linter.unusedVariables false
set_option maxRecDepth 10000
section
variable {K : Value → World → Prop} {w w0 : World} {L : List (Addr × Value)}
end
end Go.Proofs
set_option linter.unusedVariables false
set_option maxRecDepth 100000
namespace Go.Proofs
open Go.Sh
def sh_20 (a0 : Value) (a1 : Value) (K : Value → World → Prop) (w : World) : Prop :=
 oM Tryz.prog (.box 45 (.tmp 0)) 0 [a0] (fun v2_1 w =>
 oM Tryz.prog (.box 45 (.tmp 0)) 0 [a1] (fun v3_2 w =>
 oM Tryz.prog (.fieldAddr 45 (.tmp 0) 0) 0 [v2_1] (fun v5_3 w =>
 oM Tryz.prog (.load 3 (.tmp 0)) 3 [v5_3] (fun v6_4 w =>
 oM Tryz.prog (.fieldAddr 45 (.tmp 0) 0) 0 [v3_2] (fun v7_5 w =>
 oM Tryz.prog (.load 3 (.tmp 0)) 3 [v7_5] (fun v8_6 w =>
 oM Tryz.prog (.binOp .eql 3 (.tmp 0) (.tmp 1) 3) 4 [v6_4, v8_6] (fun v9_7 w =>
 gdM (gd v9_7 true) (oM Tryz.prog (.fieldAddr 45 (.tmp 0) 1) 0 [v2_1]) (fun v11_8 w =>
 gdM (gd v9_7 true) (oM Tryz.prog (.load 3 (.tmp 0)) 3 [v11_8]) (fun v12_9 w =>
 gdM (gd v9_7 true) (oM Tryz.prog (.fieldAddr 45 (.tmp 0) 1) 0 [v3_2]) (fun v13_10 w =>
 gdM (gd v9_7 true) (oM Tryz.prog (.load 3 (.tmp 0)) 3 [v13_10]) (fun v14_11 w =>
 gdM (gd v9_7 true) (oM Tryz.prog (.binOp .eql 3 (.tmp 0) (.tmp 1) 3) 4 [v12_9, v14_11]) (fun v15_12 w =>
 oM Tryz.prog (.pick (.tmp 0) (.tmp 1) (.tmp 2)) 4 [v9_7, v15_12, (.bool false)] (fun v16_13 w =>
 gdM (gd v16_13 true) (oM Tryz.prog (.fieldAddr 45 (.tmp 0) 2) 0 [v2_1]) (fun v18_14 w =>
 gdM (gd v16_13 true) (oM Tryz.prog (.load 3 (.tmp 0)) 3 [v18_14]) (fun v19_15 w =>
 gdM (gd v16_13 true) (oM Tryz.prog (.fieldAddr 45 (.tmp 0) 2) 0 [v3_2]) (fun v20_16 w =>
 gdM (gd v16_13 true) (oM Tryz.prog (.load 3 (.tmp 0)) 3 [v20_16]) (fun v21_17 w =>
 gdM (gd v16_13 true) (oM Tryz.prog (.binOp .eql 3 (.tmp 0) (.tmp 1) 3) 4 [v19_15, v21_17]) (fun v22_18 w =>
 oM Tryz.prog (.pick (.tmp 0) (.tmp 1) (.tmp 2)) 4 [v16_13, v22_18, (.bool false)] (fun v23_19 w =>
 gdM (gd v23_19 true) (oM Tryz.prog (.fieldAddr 45 (.tmp 0) 3) 0 [v2_1]) (fun v25_20 w =>
 gdM (gd v23_19 true) (oM Tryz.prog (.load 22 (.tmp 0)) 22 [v25_20]) (fun v26_21 w =>
 gdM (gd v23_19 true) (oM Tryz.prog (.fieldAddr 45 (.tmp 0) 3) 0 [v3_2]) (fun v27_22 w =>
 gdM (gd v23_19 true) (oM Tryz.prog (.load 22 (.tmp 0)) 22 [v27_22]) (fun v28_23 w =>
 gdM (gd v23_19 true) (callM Tryz.prog 33 #[v26_21, v28_23]) (fun v29_24 w =>
 oM Tryz.prog (.pick (.tmp 0) (.tmp 1) (.tmp 2)) 4 [v23_19, v29_24, (.bool false)] (fun v30_25 w =>
 K v30_25 w) w) w) w) w) w) w) w) w) w) w) w) w) w) w) w) w) w) w) w) w) w) w) w) w) w
theorem sh_20_eq (a0 : Value) (a1 : Value) (K : Value → World → Prop) (w : World) : sh_20 a0 a1 K w = code Tryz.prog (fun _ => 0) 31 (Tryz.f20.body.getD .skip) (slotsAt [a0, a1]) (retK Tryz.prog [.tmp 4] K) w := by kernel_rfl
theorem sh_20_ok {a0 a1 : Value} {K : Value → World → Prop} {w : World} (h : sh_20 a0 a1 K w) : callM Tryz.prog 20 #[a0, a1] K w :=
  calls_of_code (fun _ => 0) (fn := Tryz.f20) (rs := [.tmp 4]) Tryz.func20 rfl rfl (by kernel_rfl) (Nat.le_of_ble_eq_true rfl) ((sh_20_eq a0 a1 K w).mp h)
end Go.Proofs
namespace Go.Proofs
open Go Go.Sh Go.RowKit FdSpec TkSpec CodeSpec
set_option linter.unusedSimpArgs false
set_option linter.unusedVariables false
set_option maxRecDepth 10000
section
variable {K : Value → World → Prop} {w w0 : World} {L : List (Addr × Value)}
end
end Go.Proofs
namespace Go.Proofs
open Go Go.Sh Go.RowKit FdSpec TkSpec CodeSpec
set_option linter.unusedSimpArgs false
set_option linter.unusedVariables false
set_option maxRecDepth 10000
section
variable {K : Value → World → Prop} {w w0 : World} {L : List (Addr × Value)}
end
end Go.Proofs
namespace Go.Proofs
open Go Go.Sh Go.RowKit FdSpec TkSpec CodeSpec
set_option linter.unusedSimpArgs false
set_option linter.unusedVariables false
set_option maxRecDepth 10000
section
variable {K : Value → World → Prop} {w w0 w1 : World} {L : List (Addr × Value)}
end
end Go.Proofs
namespace Go.Proofs
open Go Go.Sh Go.RowKit FdSpec TkSpec CodeSpec
set_option linter.unusedSimpArgs false
set_option linter.unusedVariables false
set_option maxRecDepth 10000
section
variable {K : Value → World → Prop} {w w0 : World} {L : List (Addr × Value)}
end
end Go.Proofs
namespace Go.Proofs
open Go Go.Sh Go.RowKit FdSpec TkSpec CodeSpec
set_option linter.unusedSimpArgs false
set_option linter.unusedVariables false
set_option maxRecDepth 10000
section
variable {K : Value → World → Prop} {w w0 : World} {L : List (Addr × Value)}
theorem makeM_g {g : Grp} {m : Mir} (h : (makeM g m).2 = true) : (makeM g m).1.g = g := by
  unfold makeM at h ⊢
  split at h
  · rename_i hc
    rw [if_pos hc]
  · cases h
end
end Go.Proofs
namespace Go.Proofs
open FdSpec TkSpec
theorem obtains_eq {s : Stp} {key : Int} {x : Ses} {b : Bld} {t : Tkt} {p : Spd} : obtainsM s key x b t p = true ↔ obtainedM s key x b = (t, true) ∧ (useM s x.attrs b p.dare).2 = true ∧ (useM s x.attrs b p.dare).1.dare = p.dare ∧ (useM s x.attrs b p.dare).1.answers = p.answers := by
  unfold obtainsM obtainedM
  have e : (askM s key x.attrs x.offer b).2 = askErr s key x.attrs x.offer b := rfl
  rw [e]
  by_cases h1 : askErr s key x.attrs x.offer b = 0
  · by_cases h2 : (askM s key x.attrs x.offer b).1 = x.c
    · simp [h1, h2, Prod.ext_iff, and_assoc, and_comm, and_left_comm]
    · simp [h1, h2]
  · simp [h1]
section
open TpA
variable {g : Grp} {m : Mir} {s : Stp} {attrs attrs' : List Int} {b : Bld} {x w w' n : Int}
theorem own_obtained (h : Hon g m s attrs b x w) (hi : innerQ s (askTkt s attrs (proposeM s x attrs w).1 b) ≠ 0) : obtainedM s (publicM s x) (hSes s attrs b x w) b = (hT s attrs b x w, true) := by
  have e0 : askErr s (publicM s x) (hSes s attrs b x w).attrs (hSes s attrs b x w).offer b = 0 := by
    show askErr s (publicM s x) attrs (proposeM s x attrs w).1 b = 0
    rw [h.err, if_neg hi]
  have e1 : (askM s (publicM s x) (hSes s attrs b x w).attrs (hSes s attrs b x w).offer b).1 = (hSes s attrs b x w).c := by
    unfold askM
    rw [e0]; rfl
  unfold obtainedM
  rw [e0, e1]
  have hf := h.finish hi (grantM s x w (askC s attrs (proposeM s x attrs w).1 b))
  rw [if_pos (h.grant h.chal.2).2, if_pos rfl] at hf
  show (if decide ((0 : Int) = 0) && decide ((hSes s attrs b x w).c = (hSes s attrs b x w).c) then ((finishM s (publicM s x) attrs (proposeM s x attrs w).1 b (grantM s x w (askC s attrs (proposeM s x attrs w).1 b))).1, decide ((finishM s (publicM s x) attrs (proposeM s x attrs w).1 b (grantM s x w (askC s attrs (proposeM s x attrs w).1 b))).2 = 0)) else (zT, false)) = _
  rw [hf]
  simp [hT]
theorem make_mirrors {g : Grp} {m : Mir} (h : (makeM g m).2 = true) : mirrorsM (makeM g m).1 m = true := by
  unfold mirrorsM
  rw [makeM_g h, h]
  simp
theorem expl_yes (h : Hon g m s attrs b x w) (o : Oth g m s attrs' w' n) (hm : mirrorsM s m = true) (hi : innerQ s (askTkt s attrs (proposeM s x attrs w).1 b) ≠ 0)
    (hir : 0 ≤ innerQ s (askTkt s attrs (proposeM s x attrs w).1 b) ∧ innerQ s (askTkt s attrs (proposeM s x attrs w).1 b) < s.g.Q) {d : Int} (hd : 1 ≤ d ∧ d < s.g.Q) :
    explainM s m (publicM s x) (hSes s attrs b x w) b (oSes s attrs' x w' n) d = (eB s m attrs attrs' b x w w' n d, true) := by
  have ho := own_obtained h hi
  have hu : (useM s attrs b d).2 = true := by rw [h.use_ok hd]
  have hg : 0 ≤ grantM s x w' n ∧ grantM s x w' n < s.g.Q := ((⟨h.md, h.us, h.bl, h.hx, o.hw⟩ : Hon g m s attrs b x w').grant (c := n) ⟨by have := o.hn; omega, o.hn.2⟩).2
  have hf : explFine s m (publicM s x) (hSes s attrs b x w) b (oSes s attrs' x w' n) d = true := by
    unfold explFine
    rw [ho, hm]
    show (((((true && (useM s attrs b d).2) && (usableM s attrs').2) && true) && numsM s 1 [n]) && numsM s 0 [grantM s x w' n]) = true
    rw [hu, o.us, nums_one.mpr o.hn, nums_one.mpr hg]
    rfl
  have hB : explB' s m (publicM s x) (hSes s attrs b x w) b (oSes s attrs' x w' n) d = eB s m attrs attrs' b x w w' n d := by
    unfold explB' eB
    rw [ho]
    rfl
  unfold explainM
  rw [if_pos hf, hB, ho, eB_obtains h o hi hir hd]
  simp
theorem blind_all (h : Hon g m s attrs b x w) (o : Oth g m s attrs' w' n) (hi : innerQ s (askTkt s attrs (proposeM s x attrs w).1 b) ≠ 0)
    (hir : 0 ≤ innerQ s (askTkt s attrs (proposeM s x attrs w).1 b) ∧ innerQ s (askTkt s attrs (proposeM s x attrs w).1 b) < s.g.Q) {d : Int} (hd : 1 ≤ d ∧ d < s.g.Q) :
    obtainsM s (publicM s x) (oSes s attrs' x w' n) (eB s m attrs attrs' b x w w' n d) (hT s attrs b x w) (useM s attrs b d).1 = true ∧
    ∀ c : Bld, obtainsM s (publicM s x) (oSes s attrs' x w' n) c (hT s attrs b x w) (useM s attrs b d).1 = true → c = eB s m attrs attrs' b x w w' n d := by
  have hbl := eB_blinds h o hi hir hd
  have ed : (useM s attrs b d).1.dare = d := by rw [h.use_ok hd]
  refine ⟨obtains_eq.mpr ⟨eB_obtains h o hi hir hd, ?_⟩, fun c hc => ?_⟩
  · rw [ed]
    show (useM s attrs' _ d).2 = true ∧ (useM s attrs' _ d).1.dare = d ∧ (useM s attrs' _ d).1.answers = _
    have hB := eB_hon h o hbl
    refine ⟨by rw [hB.use_ok hd], by rw [hB.use_ok hd], by rw [eB_spend h o hd hbl]⟩
  · obtain ⟨h1, h2, _, h4⟩ := obtains_eq.mp hc
    rw [ed] at h2 h4
    have hc2 : blindsM s c = true := by
      have h2 : (useM s attrs' c d).2 = true := h2
      unfold useM at h2
      split at h2
      · rename_i hh
        simp only [Bool.and_eq_true] at hh
        exact hh.1.2
      · cases h2
    exact eB_only h o hi hd hbl hc2 h1 h4
end
end Go.Proofs
set_option linter.unusedVariables false
set_option maxRecDepth 100000
namespace Go.Proofs
open Go.Sh
def sh_11 (K : Value → World → Prop) (w : World) : Prop :=
 oM Tryz.prog (.build 30 #[(0, (.tmp 0)), (1, (.tmp 1)), (2, (.tmp 2))]) 30 [(.int .i64 23), (.int .i64 11), (.int .i64 4)] (fun v4_1 w =>
 oM Tryz.prog (.buildSlice 22 3 #[(0, (.tmp 0)), (1, (.tmp 1)), (2, (.tmp 2))]) 22 [(.int .i64 4), (.int .i64 16), (.int .i64 18)] (fun v5_2 w =>
 oM Tryz.prog (.build 32 #[(0, (.tmp 0)), (1, (.tmp 1)), (2, (.tmp 2))]) 32 [v4_1, v5_2, (.int .i64 3)] (fun v6_3 w =>
 oM Tryz.prog (.alloc 32) 0 [] (fun v1_4 w =>
 oM Tryz.prog (.store 32 (.tmp 0) (.tmp 1)) 0 [v1_4, v6_3] (fun _ w =>
 oM Tryz.prog (.load 32 (.tmp 0)) 32 [v1_4] (fun v7_5 w =>
 callM Tryz.prog 59 #[v7_5, (.int .i64 8)] (fun v8_6 w =>
 oM Tryz.prog (.alloc 108) 0 [] (fun v2_7 w =>
 oM Tryz.prog (.store 108 (.tmp 0) (.tmp 1)) 0 [v2_7, v8_6] (fun _ w =>
 oM Tryz.prog (.load 32 (.tmp 0)) 32 [v1_4] (fun v9_8 w =>
 oM Tryz.prog (.buildSlice 22 2 #[(0, (.tmp 0)), (1, (.tmp 1))]) 22 [(.int .i64 5), (.int .i64 7)] (fun v10_9 w =>
 callM Tryz.prog 60 #[v9_8, v10_9, (.int .i64 4)] (fun v11_10 w =>
 oM Tryz.prog (.buildSlice 22 3 #[(0, (.tmp 0)), (1, (.tmp 1)), (2, (.tmp 2))]) 22 [(.int .i64 3), (.int .i64 6), (.int .i64 4)] (fun v13_11 w =>
 callM Tryz.prog 33 #[v11_10, v13_11] (fun v14_12 w =>
 gdM (gd v14_12 true) (oM Tryz.prog (.load 32 (.tmp 0)) 32 [v1_4]) (fun v16_13 w =>
 gdM (gd v14_12 true) (oM Tryz.prog (.load 108 (.tmp 0)) 108 [v2_7]) (fun v17_14 w =>
 gdM (gd v14_12 true) (pureM v11_10) (fun v18_15 w =>
 gdM (gd v14_12 true) (callM Tryz.prog 61 #[v16_13, v17_14, v18_15]) (fun v19_16 w =>
 oM Tryz.prog (.pick (.tmp 0) (.tmp 1) (.tmp 2)) 4 [v14_12, v19_16, (.bool false)] (fun v20_17 w =>
 gdM (gd v20_17 true) (oM Tryz.prog (.load 32 (.tmp 0)) 32 [v1_4]) (fun v22_18 w =>
 gdM (gd v20_17 true) (oM Tryz.prog (.load 108 (.tmp 0)) 108 [v2_7]) (fun v23_19 w =>
 gdM (gd v20_17 true) (oM Tryz.prog (.buildSlice 22 3 #[(0, (.tmp 0)), (1, (.tmp 1)), (2, (.tmp 2))]) 22 [(.int .i64 3), (.int .i64 6), (.int .i64 5)]) (fun v24_20 w =>
 gdM (gd v20_17 true) (callM Tryz.prog 61 #[v22_18, v23_19, v24_20]) (fun v25_21 w =>
 gdM (gd v20_17 true) (oM Tryz.prog (.unOp .not 4 (.tmp 0)) 4 [v25_21]) (fun v26_22 w =>
 oM Tryz.prog (.pick (.tmp 0) (.tmp 1) (.tmp 2)) 4 [v20_17, v26_22, (.bool false)] (fun v27_23 w =>
 K v27_23 w) w) w) w) w) w) w) w) w) w) w) w) w) w) w) w) w) w) w) w) w) w) w) w) w) w
theorem sh_11_eq (K : Value → World → Prop) (w : World) : sh_11 K w = code Tryz.prog (fun _ => 0) 28 (Tryz.f11.body.getD .skip) (slotsAt []) (retK Tryz.prog [.tmp 0] K) w := by kernel_rfl
theorem sh_11_ok {K : Value → World → Prop} {w : World} (h : sh_11 K w) : callM Tryz.prog 11 #[] K w :=
  calls_of_code (fun _ => 0) (fn := Tryz.f11) (rs := [.tmp 0]) Tryz.func11 rfl rfl (by kernel_rfl) (Nat.le_of_ble_eq_true rfl) ((sh_11_eq K w).mp h)
def sh_12 (a0 : Value) (K : Value → World → Prop) (w : World) : Prop :=
 oM Tryz.prog (.box 26 (.tmp 0)) 0 [a0] (fun v1_1 w =>
 oM Tryz.prog (.alloc 32) 0 [] (fun v2_2 w =>
 oM Tryz.prog (.fieldAddr 26 (.tmp 0) 0) 0 [v1_1] (fun v9_3 w =>
 oM Tryz.prog (.load 3 (.tmp 0)) 3 [v9_3] (fun v10_4 w =>
 callM Tryz.prog 62 #[v10_4] (fun v11_5 w =>
 oM Tryz.prog (.extract (.tmp 0) 0) 30 [v11_5] (fun v12_6 w =>
 oM Tryz.prog (.extract (.tmp 0) 1) 4 [v11_5] (fun v13_7 w =>
 oM Tryz.prog (.alloc 30) 0 [] (fun v4_8 w =>
 oM Tryz.prog (.store 30 (.tmp 0) (.tmp 1)) 0 [v4_8, v12_6] (fun _ w =>
 oM Tryz.prog (.unOp .not 4 (.tmp 0)) 4 [v13_7] (fun v15_9 w =>
 gdM (gd v15_9 false) (oM Tryz.prog (.fieldAddr 26 (.tmp 0) 1) 0 [v1_1]) (fun v17_10 w =>
 gdM (gd v15_9 false) (oM Tryz.prog (.fieldAddr 24 (.tmp 0) 0) 0 [v17_10]) (fun v18_11 w =>
 gdM (gd v15_9 false) (oM Tryz.prog (.load 22 (.tmp 0)) 22 [v18_11]) (fun v19_12 w =>
 gdM (gd v15_9 false) (oM Tryz.prog (.call (Go.Call.mk (.builtin .len) #[(.tmp 0)] #[22])) 3 [v19_12]) (fun v20_13 w =>
 gdM (gd v15_9 false) (oM Tryz.prog (.binOp .gtr 3 (.tmp 0) (.tmp 1) 3) 4 [v20_13, (.int .i64 9)]) (fun v21_14 w =>
 oM Tryz.prog (.pick (.tmp 0) (.tmp 1) (.tmp 2)) 4 [v15_9, (.bool true), v21_14] (fun v22_15 w =>
 condM v22_15
 (oM Tryz.prog (.build 32 #[]) 32 [] (fun v23_16 w =>
 oM Tryz.prog (.store 32 (.tmp 0) (.tmp 1)) 0 [v2_2, v23_16] (fun _ w =>
 ∃ r_17, (do loadVar 32 (← asAddr v2_2) : Sem Value).run Tryz.prog w = .ok r_17 w ∧ K (.tuple #[r_17, (.bool false)]) w) w) w)
 (oM Tryz.prog (.load 30 (.tmp 0)) 30 [v4_8] (fun v25_18 w =>
 oM Tryz.prog (.fieldAddr 26 (.tmp 0) 1) 0 [v1_1] (fun v26_19 w =>
 oM Tryz.prog (.load 24 (.tmp 0)) 24 [v26_19] (fun v27_20 w =>
 callM Tryz.prog 63 #[v25_18, v27_20] (fun v28_21 w =>
 oM Tryz.prog (.extract (.tmp 0) 0) 32 [v28_21] (fun v29_22 w =>
 oM Tryz.prog (.extract (.tmp 0) 1) 4 [v28_21] (fun v30_23 w =>
 oM Tryz.prog (.alloc 32) 0 [] (fun v6_24 w =>
 oM Tryz.prog (.store 32 (.tmp 0) (.tmp 1)) 0 [v6_24, v29_22] (fun _ w =>
 oM Tryz.prog (.load 32 (.tmp 0)) 32 [v6_24] (fun v31_25 w =>
 oM Tryz.prog (.store 32 (.tmp 0) (.tmp 1)) 0 [v2_2, v31_25] (fun _ w =>
 ∃ r_26, (do loadVar 32 (← asAddr v2_2) : Sem Value).run Tryz.prog w = .ok r_26 w ∧ K (.tuple #[r_26, v30_23]) w) w) w) w) w) w) w) w) w) w) w)) w) w) w) w) w) w) w) w) w) w) w) w) w) w) w) w
theorem sh_12_eq (a0 : Value) (K : Value → World → Prop) (w : World) : sh_12 a0 K w = code Tryz.prog (fun _ => 0) 33 (Tryz.f12.body.getD .skip) (slotsAt [a0]) (retK Tryz.prog [.cell 2 32, .tmp 3] K) w := by kernel_rfl
theorem sh_12_ok {a0 : Value} {K : Value → World → Prop} {w : World} (h : sh_12 a0 K w) : callM Tryz.prog 12 #[a0] K w :=
  calls_of_code (fun _ => 0) (fn := Tryz.f12) (rs := [.cell 2 32, .tmp 3]) Tryz.func12 rfl rfl (by kernel_rfl) (Nat.le_of_ble_eq_true rfl) ((sh_12_eq a0 K w).mp h)
def sh_14 (a0 : Value) (a1 : Value) (a2 : Value) (K : Value → World → Prop) (w : World) : Prop :=
 oM Tryz.prog (.box 32 (.tmp 0)) 0 [a0] (fun v3_1 w =>
 oM Tryz.prog (.box 47 (.tmp 0)) 0 [a2] (fun v5_2 w =>
 oM Tryz.prog (.alloc 39) 0 [] (fun v6_3 w =>
 oM Tryz.prog (.alloc 41) 0 [] (fun v7_4 w =>
 oM Tryz.prog (.fieldAddr 47 (.tmp 0) 1) 0 [v5_2] (fun v17_5 w =>
 oM Tryz.prog (.load 22 (.tmp 0)) 22 [v17_5] (fun v18_6 w =>
 oM Tryz.prog (.call (Go.Call.mk (.builtin .len) #[(.tmp 0)] #[22])) 3 [v18_6] (fun v19_7 w =>
 oM Tryz.prog (.binOp .gtr 3 (.tmp 0) (.tmp 1) 3) 4 [v19_7, (.int .i64 9)] (fun v20_8 w =>
 gdM (gd v20_8 false) (oM Tryz.prog (.fieldAddr 47 (.tmp 0) 2) 0 [v5_2]) (fun v22_9 w =>
 gdM (gd v20_8 false) (oM Tryz.prog (.fieldAddr 45 (.tmp 0) 3) 0 [v22_9]) (fun v23_10 w =>
 gdM (gd v20_8 false) (oM Tryz.prog (.load 22 (.tmp 0)) 22 [v23_10]) (fun v24_11 w =>
 gdM (gd v20_8 false) (oM Tryz.prog (.call (Go.Call.mk (.builtin .len) #[(.tmp 0)] #[22])) 3 [v24_11]) (fun v25_12 w =>
 gdM (gd v20_8 false) (oM Tryz.prog (.binOp .gtr 3 (.tmp 0) (.tmp 1) 3) 4 [v25_12, (.int .i64 9)]) (fun v26_13 w =>
 oM Tryz.prog (.pick (.tmp 0) (.tmp 1) (.tmp 2)) 4 [v20_8, (.bool true), v26_13] (fun v27_14 w =>
 condM v27_14
 (oM Tryz.prog (.build 39 #[]) 39 [] (fun v28_15 w =>
 oM Tryz.prog (.build 41 #[]) 41 [] (fun v29_16 w =>
 oM Tryz.prog (.store 39 (.tmp 0) (.tmp 1)) 0 [v6_3, v28_15] (fun _ w =>
 oM Tryz.prog (.store 41 (.tmp 0) (.tmp 1)) 0 [v7_4, v29_16] (fun _ w =>
 ∃ r_17, (do loadVar 39 (← asAddr v6_3) : Sem Value).run Tryz.prog w = .ok r_17 w ∧ ∃ r_18, (do loadVar 41 (← asAddr v7_4) : Sem Value).run Tryz.prog w = .ok r_18 w ∧ K (.tuple #[r_17, r_18, (.bool false)]) w) w) w) w) w)
 (oM Tryz.prog (.load 32 (.tmp 0)) 32 [v3_1] (fun v30_19 w =>
 callM Tryz.prog 13 #[v30_19, a1] (fun v32_20 w =>
 oM Tryz.prog (.load 32 (.tmp 0)) 32 [v3_1] (fun v34_21 w =>
 oM Tryz.prog (.fieldAddr 47 (.tmp 0) 1) 0 [v5_2] (fun v36_22 w =>
 oM Tryz.prog (.load 22 (.tmp 0)) 22 [v36_22] (fun v37_23 w =>
 oM Tryz.prog (.fieldAddr 47 (.tmp 0) 0) 0 [v5_2] (fun v38_24 w =>
 oM Tryz.prog (.load 3 (.tmp 0)) 3 [v38_24] (fun v39_25 w =>
 callM Tryz.prog 34 #[v34_21, a1, v37_23, v39_25] (fun v40_26 w =>
 oM Tryz.prog (.extract (.tmp 0) 0) 37 [v40_26] (fun v41_27 w =>
 oM Tryz.prog (.extract (.tmp 0) 1) 54 [v40_26] (fun v42_28 w =>
 oM Tryz.prog (.alloc 37) 0 [] (fun v10_29 w =>
 oM Tryz.prog (.store 37 (.tmp 0) (.tmp 1)) 0 [v10_29, v41_27] (fun _ w =>
 oM Tryz.prog (.load 32 (.tmp 0)) 32 [v3_1] (fun v44_30 w =>
 oM Tryz.prog (.fieldAddr 47 (.tmp 0) 1) 0 [v5_2] (fun v46_31 w =>
 oM Tryz.prog (.load 22 (.tmp 0)) 22 [v46_31] (fun v47_32 w =>
 oM Tryz.prog (.load 37 (.tmp 0)) 37 [v10_29] (fun v48_33 w =>
 oM Tryz.prog (.fieldAddr 47 (.tmp 0) 2) 0 [v5_2] (fun v49_34 w =>
 oM Tryz.prog (.load 45 (.tmp 0)) 45 [v49_34] (fun v50_35 w =>
 callM Tryz.prog 17 #[v44_30, v32_20, v47_32, v48_33, v50_35] (fun v51_36 w =>
 oM Tryz.prog (.extract (.tmp 0) 0) 3 [v51_36] (fun v52_37 w =>
 oM Tryz.prog (.extract (.tmp 0) 1) 54 [v51_36] (fun v53_38 w =>
 oM Tryz.prog (.binOp .neq 54 (.tmp 0) (.const (.int .i64 0)) 54) 4 [v42_28] (fun v55_39 w =>
 gdM (gd v55_39 false) (pureM v53_38) (fun v57_40 w =>
 gdM (gd v55_39 false) (oM Tryz.prog (.binOp .neq 54 (.tmp 0) (.const (.int .i64 0)) 54) 4 [v57_40]) (fun v58_41 w =>
 oM Tryz.prog (.pick (.tmp 0) (.tmp 1) (.tmp 2)) 4 [v55_39, (.bool true), v58_41] (fun v59_42 w =>
 condM v59_42
 (oM Tryz.prog (.build 39 #[]) 39 [] (fun v60_43 w =>
 oM Tryz.prog (.build 41 #[]) 41 [] (fun v61_44 w =>
 oM Tryz.prog (.store 39 (.tmp 0) (.tmp 1)) 0 [v6_3, v60_43] (fun _ w =>
 oM Tryz.prog (.store 41 (.tmp 0) (.tmp 1)) 0 [v7_4, v61_44] (fun _ w =>
 ∃ r_45, (do loadVar 39 (← asAddr v6_3) : Sem Value).run Tryz.prog w = .ok r_45 w ∧ ∃ r_46, (do loadVar 41 (← asAddr v7_4) : Sem Value).run Tryz.prog w = .ok r_46 w ∧ K (.tuple #[r_45, r_46, (.bool false)]) w) w) w) w) w)
 (oM Tryz.prog (.load 32 (.tmp 0)) 32 [v3_1] (fun v62_47 w =>
 oM Tryz.prog (.fieldAddr 47 (.tmp 0) 0) 0 [v5_2] (fun v64_48 w =>
 oM Tryz.prog (.load 3 (.tmp 0)) 3 [v64_48] (fun v65_49 w =>
 callM Tryz.prog 35 #[v62_47, a1, v65_49, v52_37] (fun v67_50 w =>
 oM Tryz.prog (.load 32 (.tmp 0)) 32 [v3_1] (fun v69_51 w =>
 oM Tryz.prog (.fieldAddr 47 (.tmp 0) 1) 0 [v5_2] (fun v71_52 w =>
 oM Tryz.prog (.load 22 (.tmp 0)) 22 [v71_52] (fun v72_53 w =>
 oM Tryz.prog (.load 37 (.tmp 0)) 37 [v10_29] (fun v73_54 w =>
 oM Tryz.prog (.fieldAddr 47 (.tmp 0) 2) 0 [v5_2] (fun v74_55 w =>
 oM Tryz.prog (.load 45 (.tmp 0)) 45 [v74_55] (fun v75_56 w =>
 callM Tryz.prog 18 #[v69_51, v32_20, v72_53, v73_54, v75_56, v67_50] (fun v77_57 w =>
 oM Tryz.prog (.extract (.tmp 0) 0) 41 [v77_57] (fun v78_58 w =>
 oM Tryz.prog (.extract (.tmp 0) 1) 54 [v77_57] (fun v79_59 w =>
 oM Tryz.prog (.alloc 41) 0 [] (fun v15_60 w =>
 oM Tryz.prog (.store 41 (.tmp 0) (.tmp 1)) 0 [v15_60, v78_58] (fun _ w =>
 heldM w (fun C_61 w => (oH Tryz.prog (.fieldAddr 47 (.tmp 0) 1) 0 [v5_2] C_61 (fun v80_62 =>
 oH Tryz.prog (.load 22 (.tmp 0)) 22 [v80_62] C_61 (fun v81_63 =>
 oH Tryz.prog (.load 37 (.tmp 0)) 37 [v10_29] C_61 (fun v82_64 =>
 pureH v52_37 C_61 (fun v83_65 =>
 pureH v67_50 C_61 (fun v84_66 =>
 oH Tryz.prog (.load 41 (.tmp 0)) 41 [v15_60] C_61 (fun v86_67 =>
 pureH v79_59 C_61 (fun v87_68 =>
 oH Tryz.prog (.binOp .eql 54 (.tmp 0) (.const (.int .i64 0)) 54) 4 [v87_68] C_61 (fun v88_69 =>
 oM Tryz.prog (.build 39 #[(0, (.tmp 0)), (1, (.tmp 1)), (2, (.tmp 2)), (3, (.tmp 3))]) 39 [v81_63, v82_64, v83_65, v84_66] (fun v85_70 w => C_61 w ∧ (
 oM Tryz.prog (.store 39 (.tmp 0) (.tmp 1)) 0 [v6_3, v85_70] (fun _ w => C_61 w ∧ (
 oM Tryz.prog (.store 41 (.tmp 0) (.tmp 1)) 0 [v7_4, v86_67] (fun _ w => C_61 w ∧ (
 C_61 w ∧ (∃ r_72, (do loadVar 39 (← asAddr v6_3) : Sem Value).run Tryz.prog w = .ok r_72 w ∧ ∃ r_73, (do loadVar 41 (← asAddr v7_4) : Sem Value).run Tryz.prog w = .ok r_73 w ∧ K (.tuple #[r_72, r_73, v88_69]) w))) w)) w)) w))))))))))) w) w) w) w) w) w) w) w) w) w) w) w) w) w) w)) w) w) w) w) w) w) w) w) w) w) w) w) w) w) w) w) w) w) w) w) w) w) w) w) w)) w) w) w) w) w) w) w) w) w) w) w) w) w) w
theorem sh_14_eq (a0 : Value) (a1 : Value) (a2 : Value) (K : Value → World → Prop) (w : World) : sh_14 a0 a1 a2 K w = code Tryz.prog (fun i => bif Nat.beq i 10 then 2 else 0) 89 (Tryz.f14.body.getD .skip) (slotsAt [a0, a1, a2]) (retK Tryz.prog [.cell 6 39, .cell 7 41, .tmp 8] K) w := by kernel_rfl
theorem sh_14_ok {a0 a1 a2 : Value} {K : Value → World → Prop} {w : World} (h : sh_14 a0 a1 a2 K w) : callM Tryz.prog 14 #[a0, a1, a2] K w :=
  calls_of_code (fun i => bif Nat.beq i 10 then 2 else 0) (fn := Tryz.f14) (rs := [.cell 6 39, .cell 7 41, .tmp 8]) Tryz.func14 rfl rfl (by kernel_rfl) (Nat.le_of_ble_eq_true rfl) ((sh_14_eq a0 a1 a2 K w).mp h)
def sh_59 (a0 : Value) (a1 : Value) (K : Value → World → Prop) (w : World) : Prop :=
 oM Tryz.prog (.box 32 (.tmp 0)) 0 [a0] (fun v2_1 w =>
 oM Tryz.prog (.alloc 108) 0 [] (fun v4_2 w =>
 oM Tryz.prog (.fieldAddr 32 (.tmp 0) 1) 0 [v2_1] (fun v8_3 w =>
 oM Tryz.prog (.load 22 (.tmp 0)) 22 [v8_3] (fun v9_4 w =>
 oM Tryz.prog (.call (Go.Call.mk (.builtin .len) #[(.tmp 0)] #[22])) 3 [v9_4] (fun v10_5 w =>
 oM Tryz.prog (.build 108 #[(0, (.tmp 0))]) 108 [v10_5] (fun v11_6 w =>
 oM Tryz.prog (.alloc 108) 0 [] (fun v5_7 w =>
 oM Tryz.prog (.store 108 (.tmp 0) (.tmp 1)) 0 [v5_7, v11_6] (fun _ w =>
 oM Tryz.prog (.fieldAddr 32 (.tmp 0) 1) 0 [v2_1] (fun v12_8 w =>
 oM Tryz.prog (.load 22 (.tmp 0)) 22 [v12_8] (fun v13_9 w =>
 oM Tryz.prog (.indexAddr 22 (.tmp 0) (.tmp 1)) 0 [v13_9, (.int .i64 0)] (fun v14_10 w =>
 oM Tryz.prog (.load 3 (.tmp 0)) 3 [v14_10] (fun v15_11 w =>
 oM Tryz.prog (.build 166 #[(0, (.tmp 0)), (1, (.tmp 1))]) 166 [(.int .i64 0), a1] (fun v17_12 w =>
 oM Tryz.prog (.buildSlice 167 1 #[(0, (.tmp 0))]) 167 [v17_12] (fun v18_13 w =>
 oM Tryz.prog (.build 169 #[(0, (.tmp 0)), (1, (.tmp 1))]) 169 [v15_11, v18_13] (fun v19_14 w =>
 oM Tryz.prog (.alloc 169) 0 [] (fun v6_15 w =>
 oM Tryz.prog (.store 169 (.tmp 0) (.tmp 1)) 0 [v6_15, v19_14] (fun _ w =>
 loopM [(.int .i64 1)] w (fun J_16 m_17 l_18 u_l_18 w0_l_18 => (fun w => (
 oM Tryz.prog (.fieldAddr 32 (.tmp 0) 1) 0 [v2_1] (fun v21_19 w =>
 oM Tryz.prog (.load 22 (.tmp 0)) 22 [v21_19] (fun v22_20 w =>
 oM Tryz.prog (.call (Go.Call.mk (.builtin .len) #[(.tmp 0)] #[22])) 3 [v22_20] (fun v23_21 w =>
 oM Tryz.prog (.binOp .lss 3 (.tmp 0) (.tmp 1) 3) 4 [(l_18.getD 0 undef), v23_21] (fun v24_22 w =>
 condM v24_22
 (heldM w (fun C_23 w => (((true : Bool) = true) ∧ (oH Tryz.prog (.fieldAddr 169 (.tmp 0) 1) 0 [v6_15] C_23 (fun v27_24 =>
 oH Tryz.prog (.load 167 (.tmp 0)) 167 [v27_24] C_23 (fun v28_25 =>
 pureH (l_18.getD 0 undef) C_23 (fun v29_26 =>
 oH Tryz.prog (.fieldAddr 32 (.tmp 0) 1) 0 [v2_1] C_23 (fun v30_27 =>
 oH Tryz.prog (.load 22 (.tmp 0)) 22 [v30_27] C_23 (fun v31_28 =>
 pureH (l_18.getD 0 undef) C_23 (fun v32_29 =>
 oH Tryz.prog (.indexAddr 22 (.tmp 0) (.tmp 1)) 0 [v31_28, v32_29] C_23 (fun v33_30 =>
 oH Tryz.prog (.load 3 (.tmp 0)) 3 [v33_30] C_23 (fun v34_31 =>
 ∃ S_32 : World → World → Prop, ∃ R_33 : Value → World → Prop, (∀ v w w_1, S_32 w w_1 → R_33 v w → R_33 v w_1) ∧
 (∀ w, C_23 w → (oM Tryz.prog (.build 166 #[(0, (.tmp 0)), (1, (.tmp 1))]) 166 [v29_26, v34_31] (fun v w_1 => C_23 w_1 ∧ S_32 w w_1 ∧ R_33 v w_1) w)) ∧
 (∃ R_34 : Value → World → Prop, (∀ v w w_1, S_32 w w_1 → R_34 v w → R_34 v w_1) ∧
 (∀ w, C_23 w → ∀ v35_35, R_33 v35_35 w → (oM Tryz.prog (.buildSlice 167 1 #[(0, (.tmp 0))]) 167 [v35_35] (fun v w_1 => C_23 w_1 ∧ S_32 w w_1 ∧ R_34 v w_1) w)) ∧
 (∀ w, C_23 w → ∀ v35_36, R_33 v35_36 w → ∀ v36_37, R_34 v36_37 w → (
 oM Tryz.prog (.call (Go.Call.mk (.builtin .append) #[(.tmp 0), (.tmp 1)] #[167, 167])) 167 [v28_25, v36_37] (fun v37_38 w =>
 oM Tryz.prog (.fieldAddr 169 (.tmp 0) 1) 0 [v6_15] (fun v38_39 w =>
 oM Tryz.prog (.store 167 (.tmp 0) (.tmp 1)) 0 [v38_39, v37_38] (fun _ w =>
 oM Tryz.prog (.binOp .add 3 (.tmp 0) (.tmp 1) 3) 3 [(l_18.getD 0 undef), (.int .i64 1)] (fun v26_40 w =>
 J_16 [v26_40] w ∧ m_17 [v26_40] w < m_17 l_18 w0_l_18) w) w) w) w)))))))))))))))
 (oM Tryz.prog (.load 169 (.tmp 0)) 169 [v6_15] (fun v39_41 w =>
 oM Tryz.prog (.buildSlice 106 1 #[(0, (.tmp 0))]) 106 [v39_41] (fun v40_42 w =>
 oM Tryz.prog (.fieldAddr 108 (.tmp 0) 1) 0 [v5_7] (fun v41_43 w =>
 oM Tryz.prog (.store 106 (.tmp 0) (.tmp 1)) 0 [v41_43, v40_42] (fun _ w =>
 oM Tryz.prog (.load 108 (.tmp 0)) 108 [v5_7] (fun v42_44 w =>
 oM Tryz.prog (.store 108 (.tmp 0) (.tmp 1)) 0 [v4_2, v42_44] (fun _ w =>
 ∃ r_45, (do loadVar 108 (← asAddr v4_2) : Sem Value).run Tryz.prog w = .ok r_45 w ∧ K r_45 w) w) w) w) w) w) w)) w) w) w) w)) w0_l_18)) w) w) w) w) w) w) w) w) w) w) w) w) w) w) w) w) w
theorem sh_59_eq (a0 : Value) (a1 : Value) (K : Value → World → Prop) (w : World) : sh_59 a0 a1 K w = code Tryz.prog (fun _ => .free [0, 1, 2, 3, 4, 5, 6, 7] [8, 9] [10, 11, 12]) 43 (Tryz.f59.body.getD .skip) (slotsAt [a0, a1]) (retK Tryz.prog [.cell 4 108] K) w := by kernel_rfl
theorem sh_59_ok {a0 a1 : Value} {K : Value → World → Prop} {w : World} (h : sh_59 a0 a1 K w) : callM Tryz.prog 59 #[a0, a1] K w :=
  calls_of_code (fun _ => .free [0, 1, 2, 3, 4, 5, 6, 7] [8, 9] [10, 11, 12]) (fn := Tryz.f59) (rs := [.cell 4 108]) Tryz.func59 rfl rfl (by kernel_rfl) (Nat.le_of_ble_eq_true rfl) ((sh_59_eq a0 a1 K w).mp h)
def sh_60 (a0 : Value) (a1 : Value) (a2 : Value) (K : Value → World → Prop) (w : World) : Prop :=
 oM Tryz.prog (.box 32 (.tmp 0)) 0 [a0] (fun v3_1 w =>
 oM Tryz.prog (.fieldAddr 32 (.tmp 0) 0) 0 [v3_1] (fun v9_2 w =>
 oM Tryz.prog (.fieldAddr 30 (.tmp 0) 1) 0 [v9_2] (fun v10_3 w =>
 oM Tryz.prog (.load 3 (.tmp 0)) 3 [v10_3] (fun v11_4 w =>
 callM Tryz.prog 127 #[v11_4, a2, (.int .i64 (-1))] (fun v13_5 w =>
 oM Tryz.prog (.buildSlice 22 1 #[(0, (.tmp 0))]) 22 [v13_5] (fun v14_6 w =>
 loopM [v14_6, (.int .i64 0)] w (fun J_7 m_8 l_9 u_l_9 w0_l_9 => (fun w => (
 oM Tryz.prog (.call (Go.Call.mk (.builtin .len) #[(.tmp 0)] #[22])) 3 [a1] (fun v17_10 w =>
 oM Tryz.prog (.binOp .lss 3 (.tmp 0) (.tmp 1) 3) 4 [(l_9.getD 1 undef), v17_10] (fun v18_11 w =>
 condM v18_11
 (heldM w (fun C_12 w => (((true : Bool) = true) ∧ (pureH (l_9.getD 0 undef) C_12 (fun v21_13 =>
 oH Tryz.prog (.fieldAddr 32 (.tmp 0) 0) 0 [v3_1] C_12 (fun v22_14 =>
 oH Tryz.prog (.fieldAddr 30 (.tmp 0) 1) 0 [v22_14] C_12 (fun v23_15 =>
 oH Tryz.prog (.load 3 (.tmp 0)) 3 [v23_15] C_12 (fun v24_16 =>
 pureH a1 C_12 (fun v25_17 =>
 pureH (l_9.getD 1 undef) C_12 (fun v26_18 =>
 oH Tryz.prog (.indexAddr 22 (.tmp 0) (.tmp 1)) 0 [v25_17, v26_18] C_12 (fun v27_19 =>
 oH Tryz.prog (.load 3 (.tmp 0)) 3 [v27_19] C_12 (fun v28_20 =>
 ∃ S_21 : World → World → Prop, ∃ R_22 : Value → World → Prop, (∀ v w w_1, S_21 w w_1 → R_22 v w → R_22 v w_1) ∧
 (∀ w, C_12 w → (callM Tryz.prog 28 #[v24_16, (.int .i64 0), v28_20] (fun v w_1 => C_12 w_1 ∧ S_21 w w_1 ∧ R_22 v w_1) w)) ∧
 (∃ R_23 : Value → World → Prop, (∀ v w w_1, S_21 w w_1 → R_23 v w → R_23 v w_1) ∧
 (∀ w, C_12 w → ∀ v29_24, R_22 v29_24 w → (oM Tryz.prog (.buildSlice 22 1 #[(0, (.tmp 0))]) 22 [v29_24] (fun v w_1 => C_12 w_1 ∧ S_21 w w_1 ∧ R_23 v w_1) w)) ∧
 (∀ w, C_12 w → ∀ v29_25, R_22 v29_25 w → ∀ v30_26, R_23 v30_26 w → (
 oM Tryz.prog (.call (Go.Call.mk (.builtin .append) #[(.tmp 0), (.tmp 1)] #[22, 22])) 22 [v21_13, v30_26] (fun v31_27 w =>
 oM Tryz.prog (.binOp .add 3 (.tmp 0) (.tmp 1) 3) 3 [(l_9.getD 1 undef), (.int .i64 1)] (fun v20_28 w =>
 J_7 [v31_27, v20_28] w ∧ m_8 [v31_27, v20_28] w < m_8 l_9 w0_l_9) w) w)))))))))))))))
 (K (l_9.getD 0 undef) w)) w) w)) w0_l_9)) w) w) w) w) w) w
theorem sh_60_eq (a0 : Value) (a1 : Value) (a2 : Value) (K : Value → World → Prop) (w : World) : sh_60 a0 a1 a2 K w = code Tryz.prog (fun _ => .free [0, 1, 2, 3, 4, 5, 6, 7] [8, 9] [10, 11]) 33 (Tryz.f60.body.getD .skip) (slotsAt [a0, a1, a2]) (retK Tryz.prog [.tmp 6] K) w := by kernel_rfl
theorem sh_60_ok {a0 a1 a2 : Value} {K : Value → World → Prop} {w : World} (h : sh_60 a0 a1 a2 K w) : callM Tryz.prog 60 #[a0, a1, a2] K w :=
  calls_of_code (fun _ => .free [0, 1, 2, 3, 4, 5, 6, 7] [8, 9] [10, 11]) (fn := Tryz.f60) (rs := [.tmp 6]) Tryz.func60 rfl rfl (by kernel_rfl) (Nat.le_of_ble_eq_true rfl) ((sh_60_eq a0 a1 a2 K w).mp h)
def sh_61 (a0 : Value) (a1 : Value) (a2 : Value) (K : Value → World → Prop) (w : World) : Prop :=
 oM Tryz.prog (.box 32 (.tmp 0)) 0 [a0] (fun v3_1 w =>
 oM Tryz.prog (.box 108 (.tmp 0)) 0 [a1] (fun v4_2 w =>
 oM Tryz.prog (.load 32 (.tmp 0)) 32 [v3_1] (fun v7_3 w =>
 callM Tryz.prog 128 #[v7_3] (fun v8_4 w =>
 gdM (gd v8_4 true) (oM Tryz.prog (.load 32 (.tmp 0)) 32 [v3_1]) (fun v10_5 w =>
 gdM (gd v8_4 true) (oM Tryz.prog (.load 108 (.tmp 0)) 108 [v4_2]) (fun v11_6 w =>
 gdM (gd v8_4 true) (callM Tryz.prog 129 #[v10_5, v11_6]) (fun v12_7 w =>
 oM Tryz.prog (.pick (.tmp 0) (.tmp 1) (.tmp 2)) 4 [v8_4, v12_7, (.bool false)] (fun v13_8 w =>
 gdM (gd v13_8 true) (oM Tryz.prog (.load 32 (.tmp 0)) 32 [v3_1]) (fun v15_9 w =>
 gdM (gd v13_8 true) (oM Tryz.prog (.load 108 (.tmp 0)) 108 [v4_2]) (fun v16_10 w =>
 gdM (gd v13_8 true) (pureM a2) (fun v17_11 w =>
 gdM (gd v13_8 true) (callM Tryz.prog 130 #[v15_9, v16_10, v17_11]) (fun v18_12 w =>
 oM Tryz.prog (.pick (.tmp 0) (.tmp 1) (.tmp 2)) 4 [v13_8, v18_12, (.bool false)] (fun v19_13 w =>
 K v19_13 w) w) w) w) w) w) w) w) w) w) w) w) w) w
theorem sh_61_eq (a0 : Value) (a1 : Value) (a2 : Value) (K : Value → World → Prop) (w : World) : sh_61 a0 a1 a2 K w = code Tryz.prog (fun _ => 0) 20 (Tryz.f61.body.getD .skip) (slotsAt [a0, a1, a2]) (retK Tryz.prog [.tmp 6] K) w := by kernel_rfl
theorem sh_61_ok {a0 a1 a2 : Value} {K : Value → World → Prop} {w : World} (h : sh_61 a0 a1 a2 K w) : callM Tryz.prog 61 #[a0, a1, a2] K w :=
  calls_of_code (fun _ => 0) (fn := Tryz.f61) (rs := [.tmp 6]) Tryz.func61 rfl rfl (by kernel_rfl) (Nat.le_of_ble_eq_true rfl) ((sh_61_eq a0 a1 a2 K w).mp h)
def sh_129 (a0 : Value) (a1 : Value) (K : Value → World → Prop) (w : World) : Prop :=
 oM Tryz.prog (.box 32 (.tmp 0)) 0 [a0] (fun v2_1 w =>
 oM Tryz.prog (.box 108 (.tmp 0)) 0 [a1] (fun v3_2 w =>
 oM Tryz.prog (.fieldAddr 108 (.tmp 0) 0) 0 [v3_2] (fun v9_3 w =>
 oM Tryz.prog (.load 3 (.tmp 0)) 3 [v9_3] (fun v10_4 w =>
 oM Tryz.prog (.binOp .lss 3 (.tmp 0) (.tmp 1) 3) 4 [v10_4, (.int .i64 0)] (fun v11_5 w =>
 gdM (gd v11_5 false) (oM Tryz.prog (.fieldAddr 108 (.tmp 0) 0) 0 [v3_2]) (fun v13_6 w =>
 gdM (gd v11_5 false) (oM Tryz.prog (.load 3 (.tmp 0)) 3 [v13_6]) (fun v14_7 w =>
 gdM (gd v11_5 false) (oM Tryz.prog (.binOp .gtr 3 (.tmp 0) (.tmp 1) 3) 4 [v14_7, (.int .i64 120)]) (fun v15_8 w =>
 oM Tryz.prog (.pick (.tmp 0) (.tmp 1) (.tmp 2)) 4 [v11_5, (.bool true), v15_8] (fun v16_9 w =>
 gdM (gd v16_9 false) (oM Tryz.prog (.fieldAddr 108 (.tmp 0) 1) 0 [v3_2]) (fun v18_10 w =>
 gdM (gd v16_9 false) (oM Tryz.prog (.load 106 (.tmp 0)) 106 [v18_10]) (fun v19_11 w =>
 gdM (gd v16_9 false) (oM Tryz.prog (.call (Go.Call.mk (.builtin .len) #[(.tmp 0)] #[106])) 3 [v19_11]) (fun v20_12 w =>
 gdM (gd v16_9 false) (oM Tryz.prog (.binOp .lss 3 (.tmp 0) (.tmp 1) 3) 4 [v20_12, (.int .i64 1)]) (fun v21_13 w =>
 oM Tryz.prog (.pick (.tmp 0) (.tmp 1) (.tmp 2)) 4 [v16_9, (.bool true), v21_13] (fun v22_14 w =>
 gdM (gd v22_14 false) (oM Tryz.prog (.fieldAddr 108 (.tmp 0) 1) 0 [v3_2]) (fun v24_15 w =>
 gdM (gd v22_14 false) (oM Tryz.prog (.load 106 (.tmp 0)) 106 [v24_15]) (fun v25_16 w =>
 gdM (gd v22_14 false) (oM Tryz.prog (.call (Go.Call.mk (.builtin .len) #[(.tmp 0)] #[106])) 3 [v25_16]) (fun v26_17 w =>
 gdM (gd v22_14 false) (oM Tryz.prog (.binOp .gtr 3 (.tmp 0) (.tmp 1) 3) 4 [v26_17, (.int .i64 60)]) (fun v27_18 w =>
 oM Tryz.prog (.pick (.tmp 0) (.tmp 1) (.tmp 2)) 4 [v22_14, (.bool true), v27_18] (fun v28_19 w =>
 condM v28_19
 (K (.bool false) w)
 (oM Tryz.prog (.fieldAddr 108 (.tmp 0) 1) 0 [v3_2] (fun v29_20 w =>
 oM Tryz.prog (.load 106 (.tmp 0)) 106 [v29_20] (fun v30_21 w =>
 oM Tryz.prog (.call (Go.Call.mk (.builtin .len) #[(.tmp 0)] #[106])) 3 [v30_21] (fun v31_22 w =>
 loopM [(.bool false), (.int .i64 0)] w (fun J_23 m_24 l_25 u_l_25 w0_l_25 => (fun w => (
 oM Tryz.prog (.binOp .lss 3 (.tmp 0) (.tmp 1) 3) 0 [(l_25.getD 1 undef), v31_22] (fun v33_26 w =>
 condM v33_26
 (oM Tryz.prog (.indexAddr 106 (.tmp 0) (.tmp 1)) 0 [v30_21, (l_25.getD 1 undef)] (fun v34_27 w =>
 oM Tryz.prog (.load 169 (.tmp 0)) 169 [v34_27] (fun v35_28 w =>
 oM Tryz.prog (.alloc 169) 0 [] (fun v6_29 w =>
 oM Tryz.prog (.store 169 (.tmp 0) (.tmp 1)) 0 [v6_29, v35_28] (fun _ w =>
 oM Tryz.prog (.fieldAddr 32 (.tmp 0) 0) 0 [v2_1] (fun v36_30 w =>
 oM Tryz.prog (.load 30 (.tmp 0)) 30 [v36_30] (fun v37_31 w =>
 oM Tryz.prog (.fieldAddr 169 (.tmp 0) 0) 0 [v6_29] (fun v38_32 w =>
 oM Tryz.prog (.load 3 (.tmp 0)) 3 [v38_32] (fun v39_33 w =>
 callM Tryz.prog 174 #[v37_31, v39_33] (fun v40_34 w =>
 oM Tryz.prog (.unOp .not 4 (.tmp 0)) 4 [v40_34] (fun v41_35 w =>
 gdM (gd v41_35 false) (oM Tryz.prog (.fieldAddr 169 (.tmp 0) 1) 0 [v6_29]) (fun v43_36 w =>
 gdM (gd v41_35 false) (oM Tryz.prog (.load 167 (.tmp 0)) 167 [v43_36]) (fun v44_37 w =>
 gdM (gd v41_35 false) (oM Tryz.prog (.call (Go.Call.mk (.builtin .len) #[(.tmp 0)] #[167])) 3 [v44_37]) (fun v45_38 w =>
 gdM (gd v41_35 false) (oM Tryz.prog (.binOp .gtr 3 (.tmp 0) (.tmp 1) 3) 4 [v45_38, (.int .i64 80)]) (fun v46_39 w =>
 oM Tryz.prog (.pick (.tmp 0) (.tmp 1) (.tmp 2)) 4 [v41_35, (.bool true), v46_39] (fun v47_40 w =>
 condM v47_40
 (K (.bool false) w)
 (oM Tryz.prog (.fieldAddr 169 (.tmp 0) 1) 0 [v6_29] (fun v48_41 w =>
 oM Tryz.prog (.load 167 (.tmp 0)) 167 [v48_41] (fun v49_42 w =>
 oM Tryz.prog (.call (Go.Call.mk (.builtin .len) #[(.tmp 0)] #[167])) 3 [v49_42] (fun v50_43 w =>
 loopM [(l_25.getD 0 undef), (.int .i64 0)] w (fun J_44 m_45 l_46 u_l_46 w0_l_46 => (fun w => (
 oM Tryz.prog (.binOp .lss 3 (.tmp 0) (.tmp 1) 3) 0 [(l_46.getD 1 undef), v50_43] (fun v52_47 w =>
 condM v52_47
 (oM Tryz.prog (.indexAddr 167 (.tmp 0) (.tmp 1)) 0 [v49_42, (l_46.getD 1 undef)] (fun v53_48 w =>
 oM Tryz.prog (.load 166 (.tmp 0)) 166 [v53_48] (fun v54_49 w =>
 oM Tryz.prog (.alloc 166) 0 [] (fun v8_50 w =>
 oM Tryz.prog (.store 166 (.tmp 0) (.tmp 1)) 0 [v8_50, v54_49] (fun _ w =>
 oM Tryz.prog (.fieldAddr 166 (.tmp 0) 0) 0 [v8_50] (fun v55_51 w =>
 oM Tryz.prog (.load 3 (.tmp 0)) 3 [v55_51] (fun v56_52 w =>
 oM Tryz.prog (.binOp .lss 3 (.tmp 0) (.tmp 1) 3) 4 [v56_52, (.int .i64 0)] (fun v57_53 w =>
 gdM (gd v57_53 false) (oM Tryz.prog (.fieldAddr 166 (.tmp 0) 0) 0 [v8_50]) (fun v59_54 w =>
 gdM (gd v57_53 false) (oM Tryz.prog (.load 3 (.tmp 0)) 3 [v59_54]) (fun v60_55 w =>
 gdM (gd v57_53 false) (oM Tryz.prog (.fieldAddr 108 (.tmp 0) 0) 0 [v3_2]) (fun v61_56 w =>
 gdM (gd v57_53 false) (oM Tryz.prog (.load 3 (.tmp 0)) 3 [v61_56]) (fun v62_57 w =>
 gdM (gd v57_53 false) (oM Tryz.prog (.binOp .geq 3 (.tmp 0) (.tmp 1) 3) 4 [v60_55, v62_57]) (fun v63_58 w =>
 oM Tryz.prog (.pick (.tmp 0) (.tmp 1) (.tmp 2)) 4 [v57_53, (.bool true), v63_58] (fun v64_59 w =>
 gdM (gd v64_59 false) (oM Tryz.prog (.fieldAddr 32 (.tmp 0) 0) 0 [v2_1]) (fun v66_60 w =>
 gdM (gd v64_59 false) (oM Tryz.prog (.load 30 (.tmp 0)) 30 [v66_60]) (fun v67_61 w =>
 gdM (gd v64_59 false) (oM Tryz.prog (.fieldAddr 166 (.tmp 0) 1) 0 [v8_50]) (fun v68_62 w =>
 gdM (gd v64_59 false) (oM Tryz.prog (.load 3 (.tmp 0)) 3 [v68_62]) (fun v69_63 w =>
 gdM (gd v64_59 false) (callM Tryz.prog 174 #[v67_61, v69_63]) (fun v70_64 w =>
 gdM (gd v64_59 false) (oM Tryz.prog (.unOp .not 4 (.tmp 0)) 4 [v70_64]) (fun v71_65 w =>
 oM Tryz.prog (.pick (.tmp 0) (.tmp 1) (.tmp 2)) 4 [v64_59, (.bool true), v71_65] (fun v72_66 w =>
 condM v72_66
 (K (.bool false) w)
 (oM Tryz.prog (.binOp .add 3 (.tmp 0) (.tmp 1) 3) 3 [(l_46.getD 1 undef), (.int .i64 1)] (fun v73_67 w =>
 J_44 [(l_46.getD 0 undef), v73_67] w ∧ m_45 [(l_46.getD 0 undef), v73_67] w < m_45 l_46 w0_l_46) w)) w) w) w) w) w) w) w) w) w) w) w) w) w) w) w) w) w) w) w) w)
 (oM Tryz.prog (.binOp .add 3 (.tmp 0) (.tmp 1) 3) 3 [(l_25.getD 1 undef), (.int .i64 1)] (fun v74_68 w =>
 J_23 [(l_46.getD 0 undef), v74_68] w ∧ m_24 [(l_46.getD 0 undef), v74_68] w < m_24 l_25 w0_l_25) w)) w)) w0_l_46)) w) w) w)) w) w) w) w) w) w) w) w) w) w) w) w) w) w) w)
 (K (.bool true) w)) w)) w0_l_25)) w) w) w)) w) w) w) w) w) w) w) w) w) w) w) w) w) w) w) w) w) w) w
theorem sh_129_eq (a0 : Value) (a1 : Value) (K : Value → World → Prop) (w : World) : sh_129 a0 a1 K w = code Tryz.prog (fun _ => 0) 75 (Tryz.f129.body.getD .skip) (slotsAt [a0, a1]) (retK Tryz.prog [.tmp 4] K) w := by kernel_rfl
theorem sh_129_ok {a0 a1 : Value} {K : Value → World → Prop} {w : World} (h : sh_129 a0 a1 K w) : callM Tryz.prog 129 #[a0, a1] K w :=
  calls_of_code (fun _ => 0) (fn := Tryz.f129) (rs := [.tmp 4]) Tryz.func129 rfl rfl (by kernel_rfl) (Nat.le_of_ble_eq_true rfl) ((sh_129_eq a0 a1 K w).mp h)
def sh_130 (a0 : Value) (a1 : Value) (a2 : Value) (K : Value → World → Prop) (w : World) : Prop :=
 oM Tryz.prog (.box 32 (.tmp 0)) 0 [a0] (fun v3_1 w =>
 oM Tryz.prog (.box 108 (.tmp 0)) 0 [a1] (fun v4_2 w =>
 oM Tryz.prog (.box 22 (.tmp 0)) 0 [a2] (fun v5_3 w =>
 oM Tryz.prog (.load 32 (.tmp 0)) 32 [v3_1] (fun v7_4 w =>
 oM Tryz.prog (.load 22 (.tmp 0)) 22 [v5_3] (fun v8_5 w =>
 oM Tryz.prog (.fieldAddr 108 (.tmp 0) 0) 0 [v4_2] (fun v9_6 w =>
 oM Tryz.prog (.load 3 (.tmp 0)) 3 [v9_6] (fun v10_7 w =>
 callM Tryz.prog 175 #[v7_4, v8_5, v10_7] (fun v11_8 w =>
 oM Tryz.prog (.unOp .not 4 (.tmp 0)) 4 [v11_8] (fun v12_9 w =>
 condM v12_9
 (K (.bool false) w)
 (oM Tryz.prog (.fieldAddr 108 (.tmp 0) 1) 0 [v4_2] (fun v13_10 w =>
 oM Tryz.prog (.load 106 (.tmp 0)) 106 [v13_10] (fun v14_11 w =>
 oM Tryz.prog (.makeFunc (Go.Fn.func 177) #[] #[(.tmp 0), (.tmp 1)]) 197 [v3_1, v5_3] (fun v15_12 w =>
 callM Tryz.prog 176 #[v14_11, v15_12] (fun v16_13 w =>
 oM Tryz.prog (.unOp .not 4 (.tmp 0)) 4 [v16_13] (fun v17_14 w =>
 K v17_14 w) w) w) w) w) w)) w) w) w) w) w) w) w) w) w
theorem sh_130_eq (a0 : Value) (a1 : Value) (a2 : Value) (K : Value → World → Prop) (w : World) : sh_130 a0 a1 a2 K w = code Tryz.prog (fun _ => 0) 18 (Tryz.f130.body.getD .skip) (slotsAt [a0, a1, a2]) (retK Tryz.prog [.tmp 6] K) w := by kernel_rfl
theorem sh_130_ok {a0 a1 a2 : Value} {K : Value → World → Prop} {w : World} (h : sh_130 a0 a1 a2 K w) : callM Tryz.prog 130 #[a0, a1, a2] K w :=
  calls_of_code (fun _ => 0) (fn := Tryz.f130) (rs := [.tmp 6]) Tryz.func130 rfl rfl (by kernel_rfl) (Nat.le_of_ble_eq_true rfl) ((sh_130_eq a0 a1 a2 K w).mp h)
def sh_175 (a0 : Value) (a1 : Value) (a2 : Value) (K : Value → World → Prop) (w : World) : Prop :=
 oM Tryz.prog (.box 32 (.tmp 0)) 0 [a0] (fun v3_1 w =>
 oM Tryz.prog (.call (Go.Call.mk (.builtin .len) #[(.tmp 0)] #[22])) 3 [a1] (fun v8_2 w =>
 oM Tryz.prog (.binOp .eql 3 (.tmp 0) (.tmp 1) 3) 4 [v8_2, a2] (fun v10_3 w =>
 gdM (gd v10_3 true) (pureM a1) (fun v12_4 w =>
 gdM (gd v10_3 true) (oM Tryz.prog (.makeFunc (Go.Fn.func 199) #[] #[(.tmp 0)]) 138 [v3_1]) (fun v13_5 w =>
 gdM (gd v10_3 true) (callM Tryz.prog 92 #[v12_4, v13_5]) (fun v14_6 w =>
 gdM (gd v10_3 true) (oM Tryz.prog (.unOp .not 4 (.tmp 0)) 4 [v14_6]) (fun v15_7 w =>
 oM Tryz.prog (.pick (.tmp 0) (.tmp 1) (.tmp 2)) 4 [v10_3, v15_7, (.bool false)] (fun v16_8 w =>
 K v16_8 w) w) w) w) w) w) w) w) w
theorem sh_175_eq (a0 : Value) (a1 : Value) (a2 : Value) (K : Value → World → Prop) (w : World) : sh_175 a0 a1 a2 K w = code Tryz.prog (fun _ => 0) 17 (Tryz.f175.body.getD .skip) (slotsAt [a0, a1, a2]) (retK Tryz.prog [.tmp 6] K) w := by kernel_rfl
theorem sh_175_ok {a0 a1 a2 : Value} {K : Value → World → Prop} {w : World} (h : sh_175 a0 a1 a2 K w) : callM Tryz.prog 175 #[a0, a1, a2] K w :=
  calls_of_code (fun _ => 0) (fn := Tryz.f175) (rs := [.tmp 6]) Tryz.func175 rfl rfl (by kernel_rfl) (Nat.le_of_ble_eq_true rfl) ((sh_175_eq a0 a1 a2 K w).mp h)
def sh_177 (a0 : Value) (a1 : Value) (a2 : Value) (K : Value → World → Prop) (w : World) : Prop :=
 oM Tryz.prog (.box 169 (.tmp 0)) 0 [a0] (fun v3_1 w =>
 heldM w (fun C_2 w => (((true : Bool) = true) ∧ (oH Tryz.prog (.load 32 (.tmp 0)) 32 [a1] C_2 (fun v5_3 =>
 oH Tryz.prog (.load 169 (.tmp 0)) 169 [v3_1] C_2 (fun v6_4 =>
 oH Tryz.prog (.load 22 (.tmp 0)) 22 [a2] C_2 (fun v7_5 =>
 oH Tryz.prog (.fieldAddr 169 (.tmp 0) 0) 0 [v3_1] C_2 (fun v9_6 =>
 oH Tryz.prog (.load 3 (.tmp 0)) 3 [v9_6] C_2 (fun v10_7 =>
 ∃ S_8 : World → World → Prop, ∃ R_9 : Value → World → Prop, (∀ v w w_1, S_8 w w_1 → R_9 v w → R_9 v w_1) ∧
 (∀ w, C_2 w → (callM Tryz.prog 178 #[v5_3, v6_4, v7_5] (fun v w_1 => C_2 w_1 ∧ S_8 w w_1 ∧ R_9 v w_1) w)) ∧
 (∀ w, C_2 w → ∀ v8_10, R_9 v8_10 w → (
 oM Tryz.prog (.binOp .neq 3 (.tmp 0) (.tmp 1) 3) 4 [v8_10, v10_7] (fun v11_11 w =>
 K v11_11 w) w))))))))))) w
theorem sh_177_eq (a0 : Value) (a1 : Value) (a2 : Value) (K : Value → World → Prop) (w : World) : sh_177 a0 a1 a2 K w = code Tryz.prog (fun _ => .free [0, 1, 2, 4, 5] [3] [6, 7]) 12 (Tryz.f177.body.getD .skip) (slotsAt [a0, a1, a2]) (retK Tryz.prog [.tmp 4] K) w := by kernel_rfl
theorem sh_177_ok {a0 a1 a2 : Value} {K : Value → World → Prop} {w : World} (h : sh_177 a0 a1 a2 K w) : callM Tryz.prog 177 #[a0, a1, a2] K w :=
  calls_of_code (fun _ => .free [0, 1, 2, 4, 5] [3] [6, 7]) (fn := Tryz.f177) (rs := [.tmp 4]) Tryz.func177 rfl rfl (by kernel_rfl) (Nat.le_of_ble_eq_true rfl) ((sh_177_eq a0 a1 a2 K w).mp h)
def sh_178 (a0 : Value) (a1 : Value) (a2 : Value) (K : Value → World → Prop) (w : World) : Prop :=
 oM Tryz.prog (.box 32 (.tmp 0)) 0 [a0] (fun v3_1 w =>
 oM Tryz.prog (.box 169 (.tmp 0)) 0 [a1] (fun v4_2 w =>
 oM Tryz.prog (.fieldAddr 169 (.tmp 0) 1) 0 [v4_2] (fun v13_3 w =>
 oM Tryz.prog (.load 167 (.tmp 0)) 167 [v13_3] (fun v14_4 w =>
 oM Tryz.prog (.call (Go.Call.mk (.builtin .len) #[(.tmp 0)] #[167])) 3 [v14_4] (fun v15_5 w =>
 loopM [(.slice none 0 0), (.slice none 0 0), (.int .i64 0)] w (fun J_6 m_7 l_8 u_l_8 w0_l_8 => (fun w => (
 oM Tryz.prog (.binOp .lss 3 (.tmp 0) (.tmp 1) 3) 0 [(l_8.getD 2 undef), v15_5] (fun v17_9 w =>
 condM v17_9
 (oM Tryz.prog (.indexAddr 167 (.tmp 0) (.tmp 1)) 0 [v14_4, (l_8.getD 2 undef)] (fun v18_10 w =>
 oM Tryz.prog (.load 166 (.tmp 0)) 166 [v18_10] (fun v19_11 w =>
 oM Tryz.prog (.alloc 166) 0 [] (fun v10_12 w =>
 oM Tryz.prog (.store 166 (.tmp 0) (.tmp 1)) 0 [v10_12, v19_11] (fun _ w =>
 heldM w (fun C_13 w => (pureH (l_8.getD 0 undef) C_13 (fun v20_14 =>
 oH Tryz.prog (.fieldAddr 166 (.tmp 0) 1) 0 [v10_12] C_13 (fun v21_15 =>
 oH Tryz.prog (.load 3 (.tmp 0)) 3 [v21_15] C_13 (fun v22_16 =>
 pureH (l_8.getD 1 undef) C_13 (fun v25_17 =>
 pureH a2 C_13 (fun v26_18 =>
 oH Tryz.prog (.fieldAddr 166 (.tmp 0) 0) 0 [v10_12] C_13 (fun v27_19 =>
 oH Tryz.prog (.load 3 (.tmp 0)) 3 [v27_19] C_13 (fun v28_20 =>
 oH Tryz.prog (.indexAddr 22 (.tmp 0) (.tmp 1)) 0 [v26_18, v28_20] C_13 (fun v29_21 =>
 oH Tryz.prog (.load 3 (.tmp 0)) 3 [v29_21] C_13 (fun v30_22 =>
 (oM Tryz.prog (.buildSlice 22 1 #[(0, (.tmp 0))]) 22 [v22_16] (fun v23_23 w => C_13 w ∧ (
 (oM Tryz.prog (.call (Go.Call.mk (.builtin .append) #[(.tmp 0), (.tmp 1)] #[22, 22])) 22 [v20_14, v23_23] (fun v24_24 w => C_13 w ∧ (
 oM Tryz.prog (.buildSlice 22 1 #[(0, (.tmp 0))]) 22 [v30_22] (fun v31_25 w => C_13 w ∧ (
 oM Tryz.prog (.call (Go.Call.mk (.builtin .append) #[(.tmp 0), (.tmp 1)] #[22, 22])) 22 [v25_17, v31_25] (fun v32_26 w => C_13 w ∧ (
 C_13 w ∧ (C_13 w ∧ (oM Tryz.prog (.binOp .add 3 (.tmp 0) (.tmp 1) 3) 3 [(l_8.getD 2 undef), (.int .i64 1)] (fun v33_29 w =>
 J_6 [v24_24, v32_26, v33_29] w ∧ m_7 [v24_24, v32_26, v33_29] w < m_7 l_8 w0_l_8) w)))) w)) w)) w) ∧
 (oM Tryz.prog (.buildSlice 22 1 #[(0, (.tmp 0))]) 22 [v30_22] (fun v31_30 w => C_13 w ∧ (
 oM Tryz.prog (.call (Go.Call.mk (.builtin .append) #[(.tmp 0), (.tmp 1)] #[22, 22])) 22 [v20_14, v23_23] (fun v24_31 w => C_13 w ∧ (
 oM Tryz.prog (.call (Go.Call.mk (.builtin .append) #[(.tmp 0), (.tmp 1)] #[22, 22])) 22 [v25_17, v31_30] (fun v32_32 w => C_13 w ∧ (
 C_13 w ∧ (C_13 w ∧ (oM Tryz.prog (.binOp .add 3 (.tmp 0) (.tmp 1) 3) 3 [(l_8.getD 2 undef), (.int .i64 1)] (fun v33_35 w =>
 J_6 [v24_31, v32_32, v33_35] w ∧ m_7 [v24_31, v32_32, v33_35] w < m_7 l_8 w0_l_8) w)))) w)) w)) w))) w) ∧
 (oM Tryz.prog (.buildSlice 22 1 #[(0, (.tmp 0))]) 22 [v30_22] (fun v31_36 w => C_13 w ∧ (
 oM Tryz.prog (.buildSlice 22 1 #[(0, (.tmp 0))]) 22 [v22_16] (fun v23_37 w => C_13 w ∧ (
 oM Tryz.prog (.call (Go.Call.mk (.builtin .append) #[(.tmp 0), (.tmp 1)] #[22, 22])) 22 [v20_14, v23_37] (fun v24_38 w => C_13 w ∧ (
 oM Tryz.prog (.call (Go.Call.mk (.builtin .append) #[(.tmp 0), (.tmp 1)] #[22, 22])) 22 [v25_17, v31_36] (fun v32_39 w => C_13 w ∧ (
 C_13 w ∧ (C_13 w ∧ (oM Tryz.prog (.binOp .add 3 (.tmp 0) (.tmp 1) 3) 3 [(l_8.getD 2 undef), (.int .i64 1)] (fun v33_42 w =>
 J_6 [v24_38, v32_39, v33_42] w ∧ m_7 [v24_38, v32_39, v33_42] w < m_7 l_8 w0_l_8) w)))) w)) w)) w)) w))))))))))))) w) w) w) w)
 (oM Tryz.prog (.fieldAddr 32 (.tmp 0) 0) 0 [v3_1] (fun v35_43 w =>
 oM Tryz.prog (.load 30 (.tmp 0)) 30 [v35_43] (fun v36_44 w =>
 callM Tryz.prog 141 #[v36_44, (l_8.getD 0 undef), (l_8.getD 1 undef)] (fun v39_45 w =>
 oM Tryz.prog (.extract (.tmp 0) 0) 3 [v39_45] (fun v40_46 w =>
 oM Tryz.prog (.extract (.tmp 0) 1) 4 [v39_45] (fun v41_47 w =>
 K v40_46 w) w) w) w) w) w)) w)) w0_l_8)) w) w) w) w) w
theorem sh_178_eq (a0 : Value) (a1 : Value) (a2 : Value) (K : Value → World → Prop) (w : World) : sh_178 a0 a1 a2 K w = code Tryz.prog (fun _ => .tree (.look 0 (.look 1 (.look 2 (.look 5 (.look 6 (.look 7 (.look 8 (.look 9 (.look 10 (.alt 3 (.alt 4 (.only 11 (.only 12 (.only 13 (.only 14 (.done))))) (.only 11 (.only 4 (.only 12 (.only 13 (.only 14 (.done))))))) (.only 11 (.only 3 (.only 4 (.only 12 (.only 13 (.only 14 (.done)))))))))))))))))) 43 (Tryz.f178.body.getD .skip) (slotsAt [a0, a1, a2]) (retK Tryz.prog [.tmp 6] K) w := by kernel_rfl
theorem sh_178_ok {a0 a1 a2 : Value} {K : Value → World → Prop} {w : World} (h : sh_178 a0 a1 a2 K w) : callM Tryz.prog 178 #[a0, a1, a2] K w :=
  calls_of_code (fun _ => .tree (.look 0 (.look 1 (.look 2 (.look 5 (.look 6 (.look 7 (.look 8 (.look 9 (.look 10 (.alt 3 (.alt 4 (.only 11 (.only 12 (.only 13 (.only 14 (.done))))) (.only 11 (.only 4 (.only 12 (.only 13 (.only 14 (.done))))))) (.only 11 (.only 3 (.only 4 (.only 12 (.only 13 (.only 14 (.done)))))))))))))))))) (fn := Tryz.f178) (rs := [.tmp 6]) Tryz.func178 rfl rfl (by kernel_rfl) (Nat.le_of_ble_eq_true rfl) ((sh_178_eq a0 a1 a2 K w).mp h)
def sh_199 (a0 : Value) (a1 : Value) (K : Value → World → Prop) (w : World) : Prop :=
 oM Tryz.prog (.load 32 (.tmp 0)) 32 [a1] (fun v4_1 w =>
 callM Tryz.prog 200 #[v4_1, a0] (fun v6_2 w =>
 oM Tryz.prog (.unOp .not 4 (.tmp 0)) 4 [v6_2] (fun v7_3 w =>
 K v7_3 w) w) w) w
theorem sh_199_eq (a0 : Value) (a1 : Value) (K : Value → World → Prop) (w : World) : sh_199 a0 a1 K w = code Tryz.prog (fun _ => 0) 8 (Tryz.f199.body.getD .skip) (slotsAt [a0, a1]) (retK Tryz.prog [.tmp 3] K) w := by kernel_rfl
theorem sh_199_ok {a0 a1 : Value} {K : Value → World → Prop} {w : World} (h : sh_199 a0 a1 K w) : callM Tryz.prog 199 #[a0, a1] K w :=
  calls_of_code (fun _ => 0) (fn := Tryz.f199) (rs := [.tmp 3]) Tryz.func199 rfl rfl (by kernel_rfl) (Nat.le_of_ble_eq_true rfl) ((sh_199_eq a0 a1 K w).mp h)
def sh_200 (a0 : Value) (a1 : Value) (K : Value → World → Prop) (w : World) : Prop :=
 oM Tryz.prog (.box 32 (.tmp 0)) 0 [a0] (fun v2_1 w =>
 oM Tryz.prog (.binOp .geq 3 (.tmp 0) (.tmp 1) 3) 4 [a1, (.int .i64 0)] (fun v6_2 w =>
 gdM (gd v6_2 true) (pureM a1) (fun v8_3 w =>
 gdM (gd v6_2 true) (oM Tryz.prog (.fieldAddr 32 (.tmp 0) 0) 0 [v2_1]) (fun v9_4 w =>
 gdM (gd v6_2 true) (oM Tryz.prog (.fieldAddr 30 (.tmp 0) 1) 0 [v9_4]) (fun v10_5 w =>
 gdM (gd v6_2 true) (oM Tryz.prog (.load 3 (.tmp 0)) 3 [v10_5]) (fun v11_6 w =>
 gdM (gd v6_2 true) (oM Tryz.prog (.binOp .lss 3 (.tmp 0) (.tmp 1) 3) 4 [v8_3, v11_6]) (fun v12_7 w =>
 oM Tryz.prog (.pick (.tmp 0) (.tmp 1) (.tmp 2)) 4 [v6_2, v12_7, (.bool false)] (fun v13_8 w =>
 K v13_8 w) w) w) w) w) w) w) w) w
theorem sh_200_eq (a0 : Value) (a1 : Value) (K : Value → World → Prop) (w : World) : sh_200 a0 a1 K w = code Tryz.prog (fun _ => 0) 14 (Tryz.f200.body.getD .skip) (slotsAt [a0, a1]) (retK Tryz.prog [.tmp 4] K) w := by kernel_rfl
theorem sh_200_ok {a0 a1 : Value} {K : Value → World → Prop} {w : World} (h : sh_200 a0 a1 K w) : callM Tryz.prog 200 #[a0, a1] K w :=
  calls_of_code (fun _ => 0) (fn := Tryz.f200) (rs := [.tmp 4]) Tryz.func200 rfl rfl (by kernel_rfl) (Nat.le_of_ble_eq_true rfl) ((sh_200_eq a0 a1 K w).mp h)
def sh_176 (a0 : Value) (a1 : Value) (K : Value → World → Prop) (w : World) : Prop :=
 callM Tryz.prog 201 #[a0, a1] (fun v7_1 w =>
 oM Tryz.prog (.binOp .geq 3 (.tmp 0) (.tmp 1) 3) 4 [v7_1, (.int .i64 0)] (fun v8_2 w =>
 K v8_2 w) w) w
theorem sh_176_eq (a0 : Value) (a1 : Value) (K : Value → World → Prop) (w : World) : sh_176 a0 a1 K w = code Tryz.prog (fun _ => 0) 9 (Tryz.f176.body.getD .skip) (slotsAt [a0, a1]) (retK Tryz.prog [.tmp 4] K) w := by kernel_rfl
theorem sh_176_ok {a0 a1 : Value} {K : Value → World → Prop} {w : World} (h : sh_176 a0 a1 K w) : callM Tryz.prog 176 #[a0, a1] K w :=
  calls_of_code (fun _ => 0) (fn := Tryz.f176) (rs := [.tmp 4]) Tryz.func176 rfl rfl (by kernel_rfl) (Nat.le_of_ble_eq_true rfl) ((sh_176_eq a0 a1 K w).mp h)
def sh_201 (a0 : Value) (a1 : Value) (K : Value → World → Prop) (w : World) : Prop :=
 oM Tryz.prog (.call (Go.Call.mk (.builtin .len) #[(.tmp 0)] #[106])) 3 [a0] (fun v7_1 w =>
 loopM [undef, (.int .i64 0), (.int .i64 0)] w (fun J_2 m_3 l_4 u_l_4 w0_l_4 => (fun w => (
 oM Tryz.prog (.binOp .lss 3 (.tmp 0) (.tmp 1) 3) 0 [(l_4.getD 2 undef), v7_1] (fun v9_5 w =>
 condM v9_5
 (oM Tryz.prog (.indexAddr 106 (.tmp 0) (.tmp 1)) 0 [a0, (l_4.getD 2 undef)] (fun v14_6 w =>
 oM Tryz.prog (.load 169 (.tmp 0)) 169 [v14_6] (fun v15_7 w =>
 oM Tryz.prog (.call (Go.Call.mk (.value (.tmp 0)) #[(.tmp 1)] #[169])) 4 [a1, v15_7] (fun v16_8 w =>
 condM v16_8
 (K (l_4.getD 2 undef) w)
 (oM Tryz.prog (.binOp .add 3 (.tmp 0) (.tmp 1) 3) 3 [(l_4.getD 2 undef), (.int .i64 1)] (fun v18_9 w =>
 J_2 [(l_4.getD 2 undef), (l_4.getD 1 undef), v18_9] w ∧ m_3 [(l_4.getD 2 undef), (l_4.getD 1 undef), v18_9] w < m_3 l_4 w0_l_4) w)) w) w) w)
 (K (.int .i64 (-1)) w)) w)) w0_l_4)) w
theorem sh_201_eq (a0 : Value) (a1 : Value) (K : Value → World → Prop) (w : World) : sh_201 a0 a1 K w = code Tryz.prog (fun _ => 0) 19 (Tryz.f201.body.getD .skip) (slotsAt [a0, a1]) (retK Tryz.prog [.tmp 4] K) w := by kernel_rfl
theorem sh_201_ok {a0 a1 : Value} {K : Value → World → Prop} {w : World} (h : sh_201 a0 a1 K w) : callM Tryz.prog 201 #[a0, a1] K w :=
  calls_of_code (fun _ => 0) (fn := Tryz.f201) (rs := [.tmp 4]) Tryz.func201 rfl rfl (by kernel_rfl) (Nat.le_of_ble_eq_true rfl) ((sh_201_eq a0 a1 K w).mp h)
end Go.Proofs
namespace Go.Proofs
open Go Go.Sh Go.RowKit FdSpec TkSpec CodeSpec
set_option linter.unusedSimpArgs false
set_option linter.unusedVariables false
set_option maxRecDepth 10000
structure SRow {α : Type} (n : Nat) (At : World → Nat → Nat → α → Prop) (w : World) (v : Value) (l : List α) : Prop where
  row : ∃ ad c, v = .slice ad l.length c ∧ (l = [] ∨ ∃ b o, ad = some ⟨b, o, none⟩ ∧ b < w.heap.size ∧ ∀ (i : Nat) (h : i < l.length), At w b (o + i * n) l[i])
  len : l.length ≤ 9223372036854775807
def Stay {α : Type} (At : World → Nat → Nat → α → Prop) : Prop := ∀ (w w' : World) (b p : Nat) (x : α), At w b p x → b < w.heap.size → Below w.heap.size w w' → At w' b p x
section
variable {α : Type} {n : Nat} {At : World → Nat → Nat → α → Prop} {w w' : World} {v : Value} {l : List α}
theorem SRow.next (h : SRow n At w v l) (hs : Stay At) (hb : Below w.heap.size w w') : SRow n At w' v l := by
  obtain ⟨⟨ad, c, rfl, h1⟩, h2⟩ := h
  refine ⟨⟨ad, c, rfl, h1.imp id ?_⟩, h2⟩
  rintro ⟨b, o, rfl, hlt, hc⟩
  exact ⟨b, o, rfl, Nat.lt_of_lt_of_le hlt hb.size, fun i hi => hs _ _ _ _ _ (hc i hi) hlt hb⟩
theorem SRow.isSlice (h : SRow n At w v l) : ∃ ad c, v = .slice ad l.length c := by
  obtain ⟨⟨ad, c, rfl, _⟩, _⟩ := h; exact ⟨ad, c, rfl⟩
theorem SRow.at {ad : Option Addr} {m c : Nat} (h : SRow n At w (.slice ad m c) l) {i : Nat} (hi : i < l.length) : ∃ b o, ad = some ⟨b, o, none⟩ ∧ b < w.heap.size ∧ At w b (o + i * n) l[i] := by
  obtain ⟨⟨ad', c', hv, h1⟩, _⟩ := h
  cases hv
  rcases h1 with rfl | ⟨b, o, rfl, hlt, hc⟩
  · simp at hi
  · exact ⟨b, o, rfl, hlt, hc i hi⟩
end
theorem idx_row {P : Program} {K : Value → World → Prop} {n : Nat} (t T : TypeId) (hu : P.underlying t = some (.slice (P.elem t))) (hs : ∀ w, (sizeOf (P.elem t)).run P w = .ok n w) (b o m c : Nat) (x : Int) :
    oM P (.indexAddr t (.tmp 0) (.tmp 1)) T [.slice (some ⟨b, o, none⟩) m c, .int .i64 x] = onM (0 ≤ x ∧ x < m) (.pointer (some ⟨b, o + x.toNat * n, none⟩)) := by
  funext K w
  rw [oM_indexAddr, run_indexAt_slice (h := hu)]
  by_cases hi : 0 ≤ x ∧ x < m
  · rw [if_pos hi, hs]
    simp only [Result.andThen, add_none, rM_ok]
    exact propext ⟨fun h => ⟨hi, h⟩, fun h => h.2⟩
  · rw [if_neg hi]
    obtain ⟨e', w', he⟩ := halts Value P .i64 x m .index w
    rw [he]
    exact propext ⟨fun h => h.elim, fun h => hi h.1⟩
structure Trm where
  var : Int
  base : Int
deriving DecidableEq
structure Eqn where
  target : Int
  terms : List Trm
deriving DecidableEq
structure Clm where
  vars : Int
  eqs : List Eqn
deriving DecidableEq
def exponentM (s : Stp) (n : Int) : Bool := decide (0 ≤ n) && decide (n < s.g.Q)
def exponentsM (s : Stp) (l : List Int) (n : Int) : Bool := decide ((l.length : Int) = n) && !(l.any fun x => !exponentM s x)
def trmFine (s : Stp) (vars : Int) (t : Trm) : Bool := decide (0 ≤ t.var) && decide (t.var < vars) && elemG s.g t.base
def eqnFine (s : Stp) (vars : Int) (e : Eqn) : Bool := elemG s.g e.target && decide (e.terms.length ≤ 80) && e.terms.all (trmFine s vars)
def claimM (s : Stp) (c : Clm) : Bool := decide (0 ≤ c.vars) && decide (c.vars ≤ 120) && decide (1 ≤ c.eqs.length) && decide (c.eqs.length ≤ 60) && c.eqs.all (eqnFine s c.vars)
def leftM (s : Stp) (e : Eqn) (vs : List Int) : Int := (prodG s.g (e.terms.map fun t => t.base) (e.terms.map fun t => vs.getD t.var.toNat 0)).1
def holdsM (s : Stp) (c : Clm) (vs : List Int) : Bool := exponentsM s vs c.vars && !(c.eqs.any fun e => !decide (leftM s e vs = e.target))
def HoldsM (s : Stp) (c : Clm) (vs : List Int) : Bool := validS s && claimM s c && holdsM s c vs
@[reducible] def trmC (t : Trm) : List Value := [.int .i64 t.var, .int .i64 t.base]
@[reducible] def trmV (t : Trm) : Value := .agg #[.int .i64 t.var, .int .i64 t.base]
@[reducible] def eqnC (e : Eqn) (v : Value) : List Value := [.int .i64 e.target, v]
@[reducible] def eqnV (e : Eqn) (v : Value) : Value := .agg #[.int .i64 e.target, v]
@[reducible] def clmC (c : Clm) (v : Value) : List Value := [.int .i64 c.vars, v]
@[reducible] def clmV (c : Clm) (v : Value) : Value := .agg #[.int .i64 c.vars, v]
def TrmAt (w : World) (b p : Nat) (t : Trm) : Prop := w.cell? ⟨b, p, none⟩ = some (.int .i64 t.var) ∧ w.cell? ⟨b, p + 1, none⟩ = some (.int .i64 t.base) ∧ I64 t.var ∧ I64 t.base
theorem trm_stay : Stay TrmAt := fun w w' b p x h hlt hb => by
  have e : ∀ k, w'.cell? ⟨b, k, none⟩ = w.cell? ⟨b, k, none⟩ := fun k => by rw [hb.cell hlt]
  unfold TrmAt at h ⊢
  simp only [e]
  exact h
def EqnAt (w : World) (b p : Nat) (e : Eqn) : Prop := ∃ v, w.cell? ⟨b, p, none⟩ = some (.int .i64 e.target) ∧ w.cell? ⟨b, p + 1, none⟩ = some v ∧ SRow 2 TrmAt w v e.terms ∧ I64 e.target
theorem eqn_stay : Stay EqnAt := fun w w' b p x h hlt hb => by
  have e : ∀ k, w'.cell? ⟨b, k, none⟩ = w.cell? ⟨b, k, none⟩ := fun k => by rw [hb.cell hlt]
  obtain ⟨v, h1, h2, h3, h4⟩ := h
  exact ⟨v, by rw [e]; exact h1, by rw [e]; exact h2, h3.next trm_stay hb, h4⟩
structure ClmR (w : World) (c : Clm) (v : Value) : Prop where
  vars : I64 c.vars
  eqs : SRow 2 EqnAt w v c.eqs
theorem ClmR.next {w w' : World} {c : Clm} {v : Value} (h : ClmR w c v) (hb : Below w.heap.size w w') : ClmR w' c v := ⟨h.vars, h.eqs.next eqn_stay hb⟩
@[go_sem] theorem idx_trm (T : TypeId) (b o n c : Nat) (x : Int) : oM Tryz.prog (.indexAddr 167 (.tmp 0) (.tmp 1)) T [.slice (some ⟨b, o, none⟩) n c, .int .i64 x] = onM (0 ≤ x ∧ x < n) (.pointer (some ⟨b, o + x.toNat * 2, none⟩)) :=
  idx_row (K := fun _ _ => True) _ T (by kernel_rfl) (fun w => by kernel_rfl) b o n c x
@[go_sem] theorem idx_eqn (T : TypeId) (b o n c : Nat) (x : Int) : oM Tryz.prog (.indexAddr 106 (.tmp 0) (.tmp 1)) T [.slice (some ⟨b, o, none⟩) n c, .int .i64 x] = onM (0 ≤ x ∧ x < n) (.pointer (some ⟨b, o + x.toNat * 2, none⟩)) :=
  idx_row (K := fun _ _ => True) _ T (by kernel_rfl) (fun w => by kernel_rfl) b o n c x
theorem sz_trm (w : World) : (sizeOf 166).run Tryz.prog w = .ok 2 w := by kernel_rfl
theorem al_trm (w : World) : (Instr.alloc 166 true (.tuple #[])).run Tryz.prog w = .ok (.pointer (some ⟨w.heap.size, 0, none⟩)) (w.alloc (.cells [.int .i64 0, .int .i64 0].toArray 166)) := by kernel_rfl
theorem trm_one (t : Trm) : ∀ u ∈ trmC t, u.oneCell' = true := by
  intro u hu
  simp only [trmC, List.mem_cons, List.not_mem_nil, or_false] at hu
  rcases hu with rfl | rfl <;> rfl
theorem sz_eqn (w : World) : (sizeOf 169).run Tryz.prog w = .ok 2 w := by kernel_rfl
theorem al_eqn (w : World) : (Instr.alloc 169 true (.tuple #[])).run Tryz.prog w = .ok (.pointer (some ⟨w.heap.size, 0, none⟩)) (w.alloc (.cells [.int .i64 0, .slice none 0 0].toArray 169)) := by kernel_rfl
theorem eqn_one (e : Eqn) (ad : Option Addr) (n c : Nat) : ∀ u ∈ eqnC e (.slice ad n c), u.oneCell' = true := by
  intro u hu
  simp only [eqnC, List.mem_cons, List.not_mem_nil, or_false] at hu
  rcases hu with rfl | rfl <;> rfl
section
variable {K : Value → World → Prop} {w w0 : World} {L : List (Addr × Value)}
theorem local_trm {K : Value → World → Prop} {T' T2 : TypeId} (t : Trm) (hk : Kn w0 L w)
    (k : ∀ b W, Kn w0 (cellsOf L b 0 (trmC t)) W → Below w.heap.size w W → w.heap.size ≤ b → K (.pointer (some ⟨b, 0, none⟩)) W) :
    oM Tryz.prog (.alloc 166) T' [] (fun v w => oM Tryz.prog (.store 166 (.tmp 0) (.tmp 1)) T2 [v, trmV t] (fun _ w => K v w) w) w :=
  local_kn al_trm rfl sz_trm rfl rfl (trm_one t) hk k
theorem local_eqn {K : Value → World → Prop} {T' T2 : TypeId} (e : Eqn) (ad : Option Addr) (m c : Nat) (hk : Kn w0 L w)
    (k : ∀ b W, Kn w0 (cellsOf L b 0 (eqnC e (.slice ad m c))) W → Below w.heap.size w W → w.heap.size ≤ b → K (.pointer (some ⟨b, 0, none⟩)) W) :
    oM Tryz.prog (.alloc 169) T' [] (fun v w => oM Tryz.prog (.store 169 (.tmp 0) (.tmp 1)) T2 [v, eqnV e (.slice ad m c)] (fun _ w => K v w) w) w :=
  local_kn al_eqn rfl sz_eqn rfl rfl (eqn_one e ad m c) hk k
def AlJ {α : Type} (w0 : World) (L : List (Addr × Value)) (p : α → Bool) (l : List α) (R : Bool) (vs : List Value) (w' : World) : Prop := Kn w0 L w' ∧ ∃ (u : Value) (i : Nat), vs = [u, .int .i64 (i : Int)] ∧ i ≤ l.length ∧ (l.drop i).all p = R
abbrev AlJk {α : Type} {w0 w' : World} {L : List (Addr × Value)} (_ : Kn w0 L w') (p : α → Bool) (l : List α) (R : Bool) : List Value → World → Prop := AlJ w0 L p l R
theorem exponent_ok (s : Stp) (n : Int) {v : Value} (hs : SetR w s v) (k : ∀ w', Below w.heap.size w w' → K (.bool (exponentM s n)) w') : callM Tryz.prog 200 #[stpV s v, .int .i64 n] K w := by
  apply sh_200_ok
  unfold sh_200
  obtain ⟨ad, c, rfl⟩ := hs.ints.isSlice
  refine box_kn (cs := stpC s (.slice ad s.bases.length c)) rfl (.start w) fun b1 W hk hb1 hbb => ?_
  unfold exponentM at k
  by_cases h : 0 ≤ n
  · rw [decide_eq_true h, Bool.true_and] at k
    repeat (any_goals (first
    | (with_reducible first|refine pureM_in ?_|((refine idGd ?_); refine zA ?_)|((refine idPick ?_); refine yB ?_))
    | ((with_reducible refine idO ?_); (with_reducible refine oM_gen fun Kv hK=>?_); simp [go_sem, hk.cells, h]; refine hK _ _ ?_; clear hK; clear Kv)))
    exact k _ hk.below
  · rw [decide_eq_false h, Bool.false_and] at k
    repeat (any_goals (first
    | (with_reducible first|((refine idGd ?_); refine zB ?_)|((refine idPick ?_); refine yC ?_))
    | ((with_reducible refine idO ?_); (with_reducible refine oM_gen fun Kv hK=>?_); simp [go_sem, hk.cells, h]; refine hK _ _ ?_; clear hK; clear Kv)))
    exact k _ hk.below
theorem exponents_ok (s : Stp) (n : Int) {v lv : Value} {l : List Int} (hs : SetR w s v) (hl : Ints w lv l) (k : ∀ w', Below w.heap.size w w' → K (.bool (exponentsM s l n)) w') : callM Tryz.prog 175 #[stpV s v, lv, .int .i64 n] K w := by
  apply sh_175_ok
  unfold sh_175
  have hs' := hs
  obtain ⟨ad, c, rfl⟩ := hs.ints.isSlice
  have hl' := hl
  obtain ⟨lad, lc, rfl⟩ := hl.isSlice
  refine box_kn (cs := stpC s (.slice ad s.bases.length c)) rfl (.start w) fun b1 W hk hb1 hbb => ?_
  unfold exponentsM at k
  by_cases h : (l.length : Int) = n
  · rw [decide_eq_true h, Bool.true_and] at k
    repeat (any_goals (first
    | (with_reducible first|refine pureM_in ?_|((refine idGd ?_); refine zA ?_))
    | ((with_reducible refine idO ?_); (with_reducible refine oM_gen fun Kv hK=>?_); simp [go_sem, hk.cells, h]; refine hK _ _ ?_; clear hK; clear Kv)))
    refine ContainsFunc_ok (fun x => !exponentM s x) (hl'.next hk.below) ?_ ?_
    · intro w' x K' T hb hx h'
      refine oM_callv1 (by kernel_rfl) ?_
      have hk := hk.next hb
      apply sh_199_ok
      unfold sh_199
      repeat (any_goals ((with_reducible refine idO ?_); (with_reducible refine oM_gen fun Kv hK=>?_); simp [go_sem, hk.cells]; refine hK _ _ ?_; clear hK; clear Kv))
      refine exponent_ok s x (hs'.next hk.below) (fun w2 h2 => ?_)
      repeat (any_goals ((with_reducible refine idO ?_); (with_reducible refine oM_gen fun Kv hK=>?_); simp [go_sem]; refine hK _ _ ?_; clear hK; clear Kv))
      exact h' _ h2
    · intro w3 h3
      have hk := hk.next h3
      generalize (l.any fun x => !exponentM s x) = q at *
      repeat (any_goals (first
      | (with_reducible first|((refine idGd ?_); refine zA ?_)|((refine idPick ?_); refine yB ?_))
      | ((with_reducible refine idO ?_); (with_reducible refine oM_gen fun Kv hK=>?_); simp [go_sem]; refine hK _ _ ?_; clear hK; clear Kv)))
      exact k _ hk.below
  · rw [decide_eq_false h, Bool.false_and] at k
    repeat (any_goals (first
    | (with_reducible first|((refine idGd ?_); refine zB ?_)|((refine idPick ?_); refine yC ?_))
    | ((with_reducible refine idO ?_); (with_reducible refine oM_gen fun Kv hK=>?_); simp [go_sem, hk.cells, h]; refine hK _ _ ?_; clear hK; clear Kv)))
    exact k _ hk.below
theorem validClaim_ok (s : Stp) (c : Clm) {v cv : Value} (hs : SetR w s v) (hc : ClmR w c cv) (k : ∀ w', Below w.heap.size w w' → K (.bool (claimM s c)) w') : callM Tryz.prog 129 #[stpV s v, clmV c cv] K w := by
  apply sh_129_ok
  unfold sh_129
  have hs' := hs
  have hc' := hc
  obtain ⟨ad, ca, rfl⟩ := hs.ints.isSlice
  obtain ⟨ead, ec, rfl⟩ := hc.eqs.isSlice
  refine box_kn (cs := stpC s (.slice ad s.bases.length ca)) rfl (.start w) fun b1 W1 hk hb1 hbb => ?_
  refine box_kn (cs := clmC c (.slice ead c.eqs.length ec)) rfl hk fun b2 W2 hk hb2 hbb => ?_
  clear hb1 hb2 hbb
  have eC : claimM s c = (decide (0 ≤ c.vars) && decide (c.vars ≤ 120) && decide (1 ≤ c.eqs.length) && decide (c.eqs.length ≤ 60) && c.eqs.all (eqnFine s c.vars)) := rfl
  by_cases h1 : c.vars < 0
  · rw [decide_eq_false (by omega), Bool.false_and, Bool.false_and, Bool.false_and, Bool.false_and] at eC
    rw [eC] at k
    repeat (any_goals (first
    | (with_reducible first|((refine idGd ?_); refine zD ?_)|((refine idPick ?_); refine yB ?_)|((refine idCond ?_); refine yL ?_))
    | ((with_reducible refine idO ?_); (with_reducible refine oM_gen fun Kv hK=>?_); simp [go_sem, hk.cells, h1]; refine hK _ _ ?_; clear hK; clear Kv)))
    exact k _ hk.below
  by_cases h2 : 120 < c.vars
  · rw [decide_eq_false (by omega : ¬ c.vars ≤ 120), Bool.and_false, Bool.false_and, Bool.false_and, Bool.false_and] at eC
    rw [eC] at k
    repeat (any_goals (first
    | (with_reducible first|((refine idGd ?_); first|refine zC ?_|refine zD ?_)|((refine idPick ?_); first|refine yB ?_|refine yC ?_)|((refine idCond ?_); refine yL ?_))
    | ((with_reducible refine idO ?_); (with_reducible refine oM_gen fun Kv hK=>?_); simp [go_sem, hk.cells, h1, h2]; refine hK _ _ ?_; clear hK; clear Kv)))
    exact k _ hk.below
  by_cases h3 : (c.eqs.length : Int) < 1
  · rw [decide_eq_false (by omega : ¬ 1 ≤ c.eqs.length), Bool.and_false, Bool.false_and, Bool.false_and] at eC
    rw [eC] at k
    repeat (any_goals (first
    | (with_reducible first|((refine idGd ?_); first|refine zC ?_|refine zD ?_)|((refine idPick ?_); first|refine yB ?_|refine yC ?_)|((refine idCond ?_); refine yL ?_))
    | ((with_reducible refine idO ?_); (with_reducible refine oM_gen fun Kv hK=>?_); simp [go_sem, hk.cells, h1, h2, h3]; refine hK _ _ ?_; clear hK; clear Kv)))
    exact k _ hk.below
  by_cases h4 : (60 : Int) < c.eqs.length
  · rw [decide_eq_false (by omega : ¬ c.eqs.length ≤ 60), Bool.and_false, Bool.false_and] at eC
    rw [eC] at k
    repeat (any_goals (first
    | (with_reducible first|((refine idGd ?_); refine zC ?_)|((refine idPick ?_); refine yC ?_)|((refine idCond ?_); refine yL ?_))
    | ((with_reducible refine idO ?_); (with_reducible refine oM_gen fun Kv hK=>?_); simp [go_sem, hk.cells, h1, h2, h3, h4]; refine hK _ _ ?_; clear hK; clear Kv)))
    exact k _ hk.below
  rw [decide_eq_true (by omega), decide_eq_true (by omega : c.vars ≤ 120), decide_eq_true (by omega : 1 ≤ c.eqs.length), decide_eq_true (by omega : c.eqs.length ≤ 60)] at eC
  simp only [Bool.true_and] at eC
  rw [eC] at k
  clear eC
  repeat (any_goals (first
  | (with_reducible first|((refine idGd ?_); refine zC ?_)|((refine idPick ?_); refine yC ?_)|((refine idCond ?_); refine yM ?_))
  | ((with_reducible refine idO ?_); (with_reducible refine oM_gen fun Kv hK=>?_); simp [go_sem, hk.cells, h1, h2, h3, h4]; refine hK _ _ ?_; clear hK; clear Kv)))
  refine ⟨AlJk hk (eqnFine s c.vars) c.eqs (c.eqs.all (eqnFine s c.vars)), grMu c.eqs.length, ⟨hk, _, 0, rfl, by omega, by rw [List.drop_zero]⟩, ?_⟩
  generalize c.eqs.all (eqnFine s c.vars) = R at *
  rintro _ _ w3 ⟨hk, u, i, rfl, hi, ha⟩
  by_cases hin : i = c.eqs.length
  · rw [List.drop_of_length_le (by omega), List.all_nil] at ha
    repeat (any_goals (first
    | (with_reducible ((refine idCond ?_); refine yO ?_))
    | ((with_reducible refine idO ?_); (with_reducible refine oM_gen fun Kv hK=>?_); simp [go_sem]; refine hK _ _ ?_; clear hK; clear Kv)))
    rw [ha]
    exact k _ hk.below
  rw [List.drop_eq_getElem_cons (by omega), List.all_cons] at ha
  obtain ⟨b3, o3, rfl, hb3, tv, c0, c1, htr, hti⟩ := (hc'.eqs.next eqn_stay hk.below).at (i := i) (by omega)
  generalize c.eqs[i] = e at *
  obtain ⟨tad, tc, rfl⟩ := htr.isSlice
  repeat (any_goals (first
  | ((with_reducible refine local_eqn e tad e.terms.length tc hk ?_); intro g13 W13 hk hb13 hg13)
  | (with_reducible ((refine idCond ?_); refine yN ?_))
  | ((with_reducible refine idO ?_); (with_reducible refine oM_gen fun Kv hK=>?_); simp [go_sem, c0, c1]; (first|refine hK _ _ ?_|refine And.intro (by omega) (hK _ _ ?_)); clear hK; clear Kv)))
  have htr := htr.next trm_stay hb13
  clear hb13 c0 c1
  repeat (any_goals ((with_reducible refine idO ?_); (with_reducible refine oM_gen fun Kv hK=>?_); simp [go_sem, hk.cells]; refine hK _ _ ?_; clear hK; clear Kv))
  refine Element_ok s.g e.target hs'.grp (hs'.db.next hk.below) (fun w4 h4 => ?_)
  have hk := hk.next h4
  have htr := htr.next trm_stay h4
  clear h4
  have eE : eqnFine s c.vars e = (elemG s.g e.target && decide (e.terms.length ≤ 80) && e.terms.all (trmFine s c.vars)) := rfl
  cases hel : elemG s.g e.target with
  | false =>
    rw [hel, Bool.false_and, Bool.false_and] at eE
    rw [eE, Bool.false_and] at ha
    repeat (any_goals (first
    | (with_reducible first|((refine idGd ?_); refine zD ?_)|((refine idPick ?_); refine yB ?_)|((refine idCond ?_); refine yL ?_))
    | ((with_reducible refine idO ?_); (with_reducible refine oM_gen fun Kv hK=>?_); simp [go_sem, hk.cells]; refine hK _ _ ?_; clear hK; clear Kv)))
    rw [ha]
    exact k _ hk.below
  | true =>
  rw [hel, Bool.true_and] at eE
  by_cases h8 : (80 : Int) < e.terms.length
  · rw [decide_eq_false (by omega : ¬ e.terms.length ≤ 80), Bool.false_and] at eE
    rw [eE, Bool.false_and] at ha
    repeat (any_goals (first
    | (with_reducible first|((refine idGd ?_); refine zC ?_)|((refine idPick ?_); refine yC ?_)|((refine idCond ?_); refine yL ?_))
    | ((with_reducible refine idO ?_); (with_reducible refine oM_gen fun Kv hK=>?_); simp [go_sem, hk.cells, h8]; refine hK _ _ ?_; clear hK; clear Kv)))
    rw [ha]
    exact k _ hk.below
  rw [decide_eq_true (by omega : e.terms.length ≤ 80), Bool.true_and] at eE
  rw [eE] at ha
  clear eE
  have htl := htr.len
  repeat (any_goals (first
  | (with_reducible first|((refine idGd ?_); refine zC ?_)|((refine idPick ?_); refine yC ?_)|((refine idCond ?_); refine yM ?_))
  | ((with_reducible refine idO ?_); (with_reducible refine oM_gen fun Kv hK=>?_); simp [go_sem, hk.cells, h8]; refine hK _ _ ?_; clear hK; clear Kv)))
  have hkk := hk
  have htw : Kn w4 _ w4 := ⟨Below.refl _ _, hk.cells⟩
  refine ⟨AlJk htw (trmFine s c.vars) e.terms (e.terms.all (trmFine s c.vars)), grMu e.terms.length, ⟨htw, _, 0, rfl, by omega, by rw [List.drop_zero]⟩, ?_⟩
  generalize e.terms.all (trmFine s c.vars) = R2 at *
  rintro _ _ w5 ⟨hk2, u2, j, rfl, hj, hb⟩
  have hk : Kn w _ w5 := ⟨hkk.below.on hk2.below, hk2.cells⟩
  by_cases hjn : j = e.terms.length
  · rw [List.drop_of_length_le (by omega), List.all_nil] at hb
    rw [← hb, Bool.true_and] at ha
    repeat (any_goals (first
    | (with_reducible ((refine idCond ?_); refine yO ?_))
    | ((with_reducible refine idO ?_); (with_reducible refine oM_gen fun Kv hK=>?_); simp [go_sem]; (try simp (disch := omega) only [wrapI64, wrapU8, wrapU32, wrapU64]); refine hK _ _ ?_; clear hK; clear Kv)))
    refine ⟨⟨⟨hk.below, hk.cells.2.2⟩, _, i + 1, rfl, by omega, ha⟩, ?_⟩
    simp only [grMu_eq]; omega
  rw [List.drop_eq_getElem_cons (by omega), List.all_cons] at hb
  obtain ⟨b4, o4, rfl, hb4, d0, d1, di0, di1⟩ := (htr.next trm_stay hk2.below).at (i := j) (by omega)
  generalize e.terms[j] = t at *
  repeat (any_goals (first
  | ((with_reducible refine local_trm t hk ?_); intro g14 W14 hk hb14 hg14)
  | (with_reducible ((refine idCond ?_); refine yN ?_))
  | ((with_reducible refine idO ?_); (with_reducible refine oM_gen fun Kv hK=>?_); simp [go_sem, d0, d1]; (first|refine hK _ _ ?_|refine And.intro (by omega) (hK _ _ ?_)); clear hK; clear Kv)))
  have eT : trmFine s c.vars t = (decide (0 ≤ t.var) && decide (t.var < c.vars) && elemG s.g t.base) := rfl
  have hno : trmFine s c.vars t = false → K (.bool false) = K (.bool R) := fun h => by
    rw [h, Bool.false_and] at hb
    rw [← hb, Bool.false_and] at ha
    rw [ha]
  by_cases g1 : t.var < 0
  · rw [decide_eq_false (by omega), Bool.false_and, Bool.false_and] at eT
    repeat (any_goals (first
    | (with_reducible first|((refine idGd ?_); refine zD ?_)|((refine idPick ?_); refine yB ?_)|((refine idCond ?_); refine yL ?_))
    | ((with_reducible refine idO ?_); (with_reducible refine oM_gen fun Kv hK=>?_); simp [go_sem, hk.cells, g1]; refine hK _ _ ?_; clear hK; clear Kv)))
    rw [hno eT]
    exact k _ hk.below
  rw [decide_eq_true (by omega), Bool.true_and] at eT
  by_cases g2 : c.vars ≤ t.var
  · rw [decide_eq_false (by omega), Bool.false_and] at eT
    repeat (any_goals (first
    | (with_reducible first|((refine idGd ?_); first|refine zC ?_|refine zD ?_)|((refine idPick ?_); first|refine yB ?_|refine yC ?_)|((refine idCond ?_); refine yL ?_))
    | ((with_reducible refine idO ?_); (with_reducible refine oM_gen fun Kv hK=>?_); simp [go_sem, hk.cells, g1, g2]; refine hK _ _ ?_; clear hK; clear Kv)))
    rw [hno eT]
    exact k _ hk.below
  rw [decide_eq_true (by omega), Bool.true_and] at eT
  repeat (any_goals (first
  | (with_reducible first|((refine idGd ?_); refine zC ?_)|((refine idPick ?_); refine yC ?_))
  | ((with_reducible refine idO ?_); (with_reducible refine oM_gen fun Kv hK=>?_); simp [go_sem, hk.cells, g1, g2]; refine hK _ _ ?_; clear hK; clear Kv)))
  refine Element_ok s.g t.base hs'.grp (hs'.db.next hk.below) (fun w6 h6 => ?_)
  have hk := hk.next h6
  cases hel2 : elemG s.g t.base with
  | false =>
    rw [hel2] at eT
    repeat (any_goals (first
    | (with_reducible first|((refine idGd ?_); refine zC ?_)|((refine idPick ?_); refine yC ?_)|((refine idCond ?_); refine yL ?_))
    | ((with_reducible refine idO ?_); (with_reducible refine oM_gen fun Kv hK=>?_); simp [go_sem, hk.cells]; refine hK _ _ ?_; clear hK; clear Kv)))
    rw [hno eT]
    exact k _ hk.below
  | true =>
  rw [hel2] at eT
  rw [eT, Bool.true_and] at hb
  repeat (any_goals (first
  | (with_reducible first|((refine idGd ?_); refine zC ?_)|((refine idPick ?_); refine yC ?_)|((refine idCond ?_); refine yM ?_))
  | ((with_reducible refine idO ?_); (with_reducible refine oM_gen fun Kv hK=>?_); simp [go_sem, hk.cells]; (try simp (disch := omega) only [wrapI64, wrapU8, wrapU32, wrapU64]); refine hK _ _ ?_; clear hK; clear Kv)))
  refine ⟨⟨⟨hk2.below.on (hb14.on h6), hk.cells.2.2⟩, _, j + 1, rfl, by omega, hb⟩, ?_⟩
  simp only [grMu_eq]; omega
end
end Go.Proofs
namespace Go.Proofs
open Go Go.Sh Go.RowKit FdSpec TkSpec CodeSpec
set_option linter.unusedSimpArgs false
set_option linter.unusedVariables false
set_option maxRecDepth 10000
section
variable {K : Value → World → Prop} {w w0 : World} {L : List (Addr × Value)}
theorem append1g {B : Nat} {T : TypeId} {v xv : Value} {l : List Int} {x : Int} (ho : OwnI w B v l) (hB : B ≤ w.heap.size) (hx : Ints w xv [x]) (hl : l.length < 1099511627776)
    (k : ∀ v' w', OwnI w' B v' (l ++ [x]) → w.grownBy w' v.ownBlock → (∀ i, v'.ownBlock = some i → v.ownBlock = some i ∨ w.heap.size ≤ i) → K v' w') : oM Tryz.prog (.call { callee := .builtin .append, args := #[.tmp 0, .tmp 1], argTypes := #[22, 22] }) T [v, xv] K w := by
  obtain ⟨⟨ad, c, rfl, h0, hc⟩, hr, _⟩ := hx
  have hc := hc.resolve_left (by simp)
  obtain ⟨b, o, rfl, hlt, hcell⟩ := hc
  refine append_at 22 T 3 ((Tryz.prog.info? 3).getD default) (.int .i64 0) 1 8 (by kernel_rfl) (by kernel_rfl) (by kernel_rfl) (by kernel_rfl) (by kernel_rfl) (by kernel_rfl) (by omega) (owns_base ho (Nat.zero_le _)) [.int .i64 x] (by simp) (by simp) ?_ ?_ (by simp only [maxLen, List.length_singleton]; omega) (by simp only [List.length_singleton]; omega) ?_
  · rintro a ha j u hj
    cases ha
    rw [add_none]
    exact hcell j u hj
  · intro u hu
    simp only [List.mem_singleton] at hu
    subst hu; rfl
  · intro v' w' ho' hg hv
    have hbl : ∀ i, v.ownBlock = some i → B ≤ i := fun i hi => (owns_own ho hi).2.1
    refine k v' w' ?_ hg hv
    have e1 : (l ++ [x]).length = l.length + [x].length := by simp
    have e2 : flat intC (l ++ [x]) = flat intC l ++ [Value.int .i64 x] := by rw [flat_int, flat_int]; simp
    show w'.ownsRow B 3 1 v' (l ++ [x]).length (flat intC (l ++ [x]))
    rw [e1, e2]
    exact owns_up ho' (fun i hi => (hv i hi).elim (hbl i) (fun h => Nat.le_trans hB h))
theorem cells_fr {S : Nat → Prop} {W : World} : ∀ {L : List (Addr × Value)}, cellsAre w L → Fr S w W → (∀ p ∈ L, p.1.block < w.heap.size ∧ ¬ S p.1.block) → cellsAre W L
  | [], _, _, _ => trivial
  | p :: L, hL, h, hn => by
    obtain ⟨h0, h1⟩ := hn p (by simp)
    exact ⟨(World.cell?_of_block (h.block _ h0 h1)).trans hL.1, cells_fr hL.2 h (fun q hq => hn q (by simp [hq]))⟩
theorem own_none {B : Nat} : OwnI w B (.slice none 0 0) [] := ⟨rfl, .inl ⟨rfl, rfl⟩⟩
def apart (u v : Value) : Prop := ∀ i, u.ownBlock = some i → v.ownBlock ≠ some i
theorem mk1g {T : TypeId} (x : Int) (hx : I64 x) (k : ∀ v W, Below w.heap.size w W → Ints W v [x] → Value.inBlock v = some w.heap.size → K v W) : oM Tryz.prog (.buildSlice 22 1 #[(0, .tmp 0)]) T [.int .i64 x] K w := by
  rw [oM_buildSlice1]
  have e : (Instr.buildSlice 22 1 #[(0, .int .i64 x)]).run Tryz.prog w = .ok (.slice (some ⟨w.heap.size, 0, none⟩) 1 1) (w.alloc (.cells #[.int .i64 x] 3)) := by kernel_rfl
  rw [e]
  exact k _ _ ((Below.refl _ w).alloc (Nat.le_refl _) _) (ints_alloc w [x] _ 1 (by simpa using hx) (by simp)) rfl
theorem ints_grown {w' : World} {v : Value} {l : List Int} {b : Option Nat} (h : Ints w v l) (hg : w.grownBy w' b) (hne : ∀ i, Value.inBlock v = some i → b ≠ some i) : Ints w' v l :=
  ⟨h.row.keep hg.size (fun i e hlt => hg.block i hlt (fun e2 => hne i e (by first | exact e2 | exact e2.symm))), h.rng, h.len⟩
structure Two (B : Nat) (W : World) (bv xv : Value) (w : World) (bv' xv' : Value) (bs es : List Int) : Prop where
  fr : Fr (fun i => bv.ownBlock = some i ∨ xv.ownBlock = some i) W w
  ob : OwnI w B bv' bs
  oe : OwnI w B xv' es
  ap : apart bv' xv'
  lb : ∀ i, bv'.ownBlock = some i → bv.ownBlock = some i ∨ W.heap.size ≤ i
  le : ∀ i, xv'.ownBlock = some i → xv.ownBlock = some i ∨ W.heap.size ≤ i
  B : B ≤ W.heap.size
theorem Fr.of_below {S : Nat → Prop} {w1 : World} (h : Below w.heap.size w w1) : Fr S w w1 := ⟨h.os, h.tape, h.output, h.size, fun i hi _ => h.block i hi⟩
theorem Two.start {B : Nat} {bv xv : Value} {bs es : List Int} (ob : OwnI w B bv bs) (oe : OwnI w B xv es) (ap : apart bv xv) (hB : B ≤ w.heap.size) : Two B w bv xv w bv xv bs es := ⟨Fr.refl _ _, ob, oe, ap, fun _ h => .inl h, fun _ h => .inl h, hB⟩
theorem Two.next {B : Nat} {W w1 : World} {bv xv bv' xv' : Value} {bs es : List Int} (h : Two B W bv xv w bv' xv' bs es) (hb : Below w.heap.size w w1) : Two B W bv xv w1 bv' xv' bs es :=
  ⟨h.fr.trans (S' := fun _ => False) (Fr.of_below hb) (fun _ h => h.elim), h.ob.keep hb, h.oe.keep hb, h.ap, h.lb, h.le, h.B⟩
theorem Two.addB {B : Nat} {W : World} {bv xv bv' xv' yv : Value} {bs es : List Int} {y : Int} {T : TypeId} (h : Two B W bv xv w bv' xv' bs es) (hy : Ints w yv [y]) (hl : bs.length < 1099511627776)
    (k : ∀ v w', Two B W bv xv w' v xv' (bs ++ [y]) es → w.grownBy w' bv'.ownBlock → K v w') : oM Tryz.prog (.call { callee := .builtin .append, args := #[.tmp 0, .tmp 1], argTypes := #[22, 22] }) T [bv', yv] K w := by
  refine append1g h.ob (Nat.le_trans h.B h.fr.size) hy hl (fun v w' ho hg hv => k v w' ⟨h.fr.by hg (fun i e => (h.lb i e).imp .inl id), ho, owns_keep h.oe (fun i hi => hg.block i (owns_own h.oe hi).1 (fun e => h.ap i (by first | exact e | exact e.symm) hi)), ?_, ?_, h.le, h.B⟩ hg)
  · intro i e1 e2
    rcases hv i e1 with h1 | h1
    · exact h.ap i h1 e2
    · have := (owns_own h.oe e2).1
      omega
  · intro i e1
    rcases hv i e1 with h1 | h1
    · exact h.lb i h1
    · exact .inr (Nat.le_trans h.fr.size h1)
theorem Two.addE {B : Nat} {W : World} {bv xv bv' xv' yv : Value} {bs es : List Int} {y : Int} {T : TypeId} (h : Two B W bv xv w bv' xv' bs es) (hy : Ints w yv [y]) (hl : es.length < 1099511627776)
    (k : ∀ v w', Two B W bv xv w' bv' v bs (es ++ [y]) → w.grownBy w' xv'.ownBlock → K v w') : oM Tryz.prog (.call { callee := .builtin .append, args := #[.tmp 0, .tmp 1], argTypes := #[22, 22] }) T [xv', yv] K w := by
  refine append1g h.oe (Nat.le_trans h.B h.fr.size) hy hl (fun v w' ho hg hv => k v w' ⟨h.fr.by hg (fun i e => (h.le i e).imp .inr id), owns_keep h.ob (fun i hi => hg.block i (owns_own h.ob hi).1 (fun e => h.ap i hi (by first | exact e | exact e.symm))), ho, ?_, h.lb, ?_, h.B⟩ hg)
  · intro i e1 e2
    rcases hv i e2 with h1 | h1
    · exact h.ap i e1 h1
    · have := (owns_own h.ob e1).1
      omega
  · intro i e1
    rcases hv i e1 with h1 | h1
    · exact h.le i h1
    · exact .inr (Nat.le_trans h.fr.size h1)
theorem Two.below {B : Nat} {W : World} {bv xv bv' xv' : Value} {bs es bs0 es0 : List Int} (h : Two B W bv xv w bv' xv' bs es) (h0 : Below B w0 W) (ob : OwnI W B bv bs0) (oe : OwnI W B xv es0) (hB : B ≤ w0.heap.size) : Below B w0 w :=
  ⟨h.fr.os.trans h0.os, h.fr.tape.trans h0.tape, h.fr.output.trans h0.output, Nat.le_trans h0.size h.fr.size, fun i hi => (h.fr.block i (by have := h.B; omega) (fun e => by
    rcases e with e | e
    · have := (owns_own ob e).2.1; omega
    · have := (owns_own oe e).2.1; omega)).trans (h0.block i hi)⟩
theorem Two.lit {B : Nat} {W : World} {bv xv bv' xv' : Value} {bs es : List Int} (h : Two B W bv xv w bv' xv' bs es) : (∀ i, bv'.ownBlock = some i → i < w.heap.size) ∧ (∀ i, xv'.ownBlock = some i → i < w.heap.size) :=
  ⟨fun i e => (owns_own h.ob e).1, fun i e => (owns_own h.oe e).1⟩
def LfJ (w0 : World) (bs es : List Int) (vs : List Value) (w' : World) : Prop := Below w0.heap.size w0 w' ∧ ∃ (bv ev : Value) (i : Nat), vs = [bv, ev, .int .i64 (i : Int)] ∧ i ≤ bs.length ∧ OwnI w' w0.heap.size bv (bs.take i) ∧ OwnI w' w0.heap.size ev (es.take i) ∧ apart bv ev
theorem left_ok (s : Stp) (e : Eqn) (vs : List Int) {v ev lv : Value} (hs : SetR w s v) (he : SRow 2 TrmAt w ev e.terms) (hti : I64 e.target) (hl : Ints w lv vs) (hlen : e.terms.length < 1000) (hv : ∀ t ∈ e.terms, 0 ≤ t.var ∧ t.var < vs.length)
    (k : ∀ w', Below w.heap.size w w' → K (.int .i64 (leftM s e vs)) w') : callM Tryz.prog 178 #[stpV s v, eqnV e ev, lv] K w := by
  apply sh_178_ok
  unfold sh_178
  have hs' := hs
  have he' := he
  have hl' := hl
  obtain ⟨ad, c, rfl⟩ := hs.ints.isSlice
  obtain ⟨ead, ec, rfl⟩ := he.isSlice
  obtain ⟨lad, lc, rfl⟩ := hl.isSlice
  refine box_kn (cs := stpC s (.slice ad s.bases.length c)) rfl (.start w) fun b1 W1 hk hb1 hbb => ?_
  refine box_kn (cs := eqnC e (.slice ead e.terms.length ec)) rfl hk fun b2 W2 hk hb2 hbb => ?_
  clear hb1 hb2 hbb
  repeat (any_goals ((with_reducible refine idO ?_); (with_reducible refine oM_gen fun Kv hK=>?_); simp [go_sem, hk.cells]; refine hK _ _ ?_; clear hK; clear Kv))
  have eL : leftM s e vs = (prodG s.g (e.terms.map fun t => t.base) (e.terms.map fun t => vs.getD t.var.toNat 0)).1 := rfl
  rw [eL] at k
  clear eL
  have hbsl : (e.terms.map fun t => t.base).length = e.terms.length := by simp
  have hesl : (e.terms.map fun t => vs.getD t.var.toNat 0).length = e.terms.length := by simp
  refine ⟨LfJ W2 (e.terms.map fun t => t.base) (e.terms.map fun t => vs.getD t.var.toNat 0), vsMu e.terms.length, ⟨Below.refl _ _, _, _, 0, rfl, by omega, own_none, own_none, fun i h => by cases h⟩, ?_⟩
  rintro _ _ w3 ⟨hb3, bv, xv, i, rfl, hi, hob, hoe, hap⟩
  have hk3 := hk.next hb3
  by_cases hin : i = e.terms.length
  · rw [List.take_of_length_le (by omega)] at hob hoe
    have hbi : ∀ n ∈ (e.terms.map fun t => t.base), I64 n := fun n hn => by
      obtain ⟨t, ht, rfl⟩ := List.mem_map.1 hn
      obtain ⟨j, hj, rfl⟩ := List.getElem_of_mem ht
      obtain ⟨_, _, _, _, _, _, _, h⟩ := he'.at hj
      exact h
    have hei : ∀ n ∈ (e.terms.map fun t => vs.getD t.var.toNat 0), I64 n := fun n hn => by
      obtain ⟨t, ht, rfl⟩ := List.mem_map.1 hn
      obtain ⟨h1, h2⟩ := hv t ht
      have hlt : t.var.toNat < vs.length := by omega
      rw [List.getD_eq_getElem?_getD, List.getElem?_eq_getElem hlt]
      exact hl'.rng _ (List.getElem_mem hlt)
    repeat (any_goals (first
    | (with_reducible ((refine idCond ?_); refine yO ?_))
    | ((with_reducible refine idO ?_); (with_reducible refine oM_gen fun Kv hK=>?_); simp [go_sem, hk3.cells]; refine hK _ _ ?_; clear hK; clear Kv)))
    refine Product_ok s.g (hob.ints hbi (by omega)) (hoe.ints hei (by omega)) (fun w4 h4 => ?_)
    have hk := hk3.next h4
    repeat (any_goals ((with_reducible refine idO ?_); (with_reducible refine oM_gen fun Kv hK=>?_); simp [go_sem]; refine hK _ _ ?_; clear hK; clear Kv))
    exact k _ hk.below
  · obtain ⟨b4, o4, rfl, hb4, d0, d1, di0, di1⟩ := (he'.next trm_stay hk3.below).at (i := i) (by omega)
    have ht := hv e.terms[i] (List.getElem_mem (by omega))
    have e1 : (e.terms.map fun t => t.base).take i ++ [e.terms[i].base] = (e.terms.map fun t => t.base).take (i + 1) := take_snoc' (by simp [List.getElem?_eq_getElem (show i < e.terms.length by omega)])
    have e2 : (e.terms.map fun t => vs.getD t.var.toNat 0).take i ++ [vs.getD e.terms[i].var.toNat 0] = (e.terms.map fun t => vs.getD t.var.toNat 0).take (i + 1) := take_snoc' (by simp [List.getElem?_eq_getElem (show i < e.terms.length by omega)])
    have htb : I64 e.terms[i].base := di1
    have hlt : e.terms[i].var.toNat < vs.length := by omega
    obtain ⟨b5, o5, rfl, hb5, cv, rv, _⟩ := hl'.at (i := e.terms[i].var.toNat) hlt
    have hgd : vs.getD e.terms[i].var.toNat 0 = vs[e.terms[i].var.toNat] := by rw [List.getD_eq_getElem?_getD, List.getElem?_eq_getElem hlt]; rfl
    rw [hgd] at e2
    have cv := cv _ hk3.below
    generalize vs[e.terms[i].var.toNat] = val at *
    generalize e.terms[i] = t at *
    have hkx : Kn w3 [] w3 := .start w3
    repeat (any_goals (first
    | ((with_reducible refine local_trm t hkx ?_); intro g14 W14 hk14 hb14 hg14)
    | (with_reducible ((refine idCond ?_); refine yN ?_))
    | ((with_reducible refine idO ?_); (with_reducible refine oM_gen fun Kv hK=>?_); simp [go_sem, d0, d1]; (first|refine hK _ _ ?_|refine And.intro (by omega) (hK _ _ ?_)); clear hK; clear Kv)))
    have cvl : b5 < w3.heap.size := Nat.lt_of_lt_of_le hb5 hk3.below.size
    have cw : cellsAre W14 ((⟨b5, o5 + t.var.toNat, none⟩, Value.int .i64 val) :: cellsOf [] g14 0 (trmC t)) := ⟨by rw [hb14.cell cvl]; exact cv, hk14.cells⟩
    have hoB := fun i (e : bv.ownBlock = some i) => owns_own hob e
    have hoE := fun i (e : xv.ownBlock = some i) => owns_own hoe e
    have htwo := Two.start (hob.keep (hb14.on .drawn)) (hoe.keep (hb14.on .drawn)) hap (w := { W14 with drawn := W14.drawn + 1 }) (by have := hb3.size; have := hb14.size; show W2.heap.size ≤ W14.heap.size; omega)
    have hbW : Below W2.heap.size W2 { W14 with drawn := W14.drawn + 1 } := hb3.on (hb14.on .drawn)
    have hobW := hob.keep (hb14.on (.drawn (w := W14) (B := W14.heap.size)))
    have hoeW := hoe.keep (hb14.on (.drawn (w := W14) (B := W14.heap.size)))
    have cW : cellsAre { W14 with drawn := W14.drawn + 1 } ((⟨b5, o5 + t.var.toNat, none⟩, Value.int .i64 val) :: cellsOf [] g14 0 (trmC t)) := cw
    have hoff : ∀ p ∈ ((⟨b5, o5 + t.var.toNat, none⟩, Value.int .i64 val) :: cellsOf [] g14 0 (trmC t) : List (Addr × Value)), p.1.block < ({ W14 with drawn := W14.drawn + 1 } : World).heap.size ∧ ¬ (bv.ownBlock = some p.1.block ∨ xv.ownBlock = some p.1.block) := fun p hp => by
      refine ⟨cells_lt cW p hp, ?_⟩
      rcases List.mem_cons.1 hp with rfl | hp
      · rintro (e | e)
        · have h1 : W2.heap.size ≤ b5 := (hoB _ e).2.1; have h2 := hk.below.size; omega
        · have h1 : W2.heap.size ≤ b5 := (hoE _ e).2.1; have h2 := hk.below.size; omega
      · rcases cellsOf_mem _ _ _ hp with h | hp
        · rintro (e | e)
          · have := (hoB _ e).1; omega
          · have := (hoE _ e).1; omega
        · cases hp
    refine ⟨Fr (fun i => bv.ownBlock = some i ∨ xv.ownBlock = some i) { W14 with drawn := W14.drawn + 1 }, Fr.refl _ _, ?_⟩
    generalize ({ W14 with drawn := W14.drawn + 1 } : World) = W at htwo hbW hobW hoeW cW hoff ⊢
    clear cw cv d0 d1
    have hti : (t.var : Int) < vs.length := ht.2
    have hti0 := ht.1
    have etn : ((t.var.toNat : Nat) : Int) = t.var := Int.toNat_of_nonneg ht.1
    repeat (any_goals (first
    | (with_reducible refine pureH_in ?_)
    | ((with_reducible refine idOH ?_); (with_reducible refine oH_of ⟨_, rfl⟩ (fun W0 hW0 => by (refine oM_gen (fun Kv hK => ?_)); simp [go_sem, (cells_fr cW hW0 hoff)]; (first | exact hK _ _ ⟨rfl, rfl⟩ | exact ⟨by omega, hK _ _ ⟨rfl, rfl⟩⟩)) ?_))))
    have fin : ∀ (w' : World) (v' u' : Value), Two W2.heap.size W bv xv w' v' u' ((e.terms.map fun t => t.base).take i ++ [t.base]) ((e.terms.map fun t => vs.getD t.var.toNat 0).take i ++ [val]) →
        LfJ W2 (e.terms.map fun t => t.base) (e.terms.map fun t => vs.getD t.var.toNat 0) [v', u', .int .i64 ((i : Int) + 1)] w' ∧ vsMu e.terms.length [v', u', .int .i64 ((i : Int) + 1)] w' < vsMu e.terms.length [bv, xv, .int .i64 (i : Int)] w3 := fun w' v' u' h => by
      refine ⟨⟨h.below hbW hobW hoeW (Nat.le_refl _), v', u', i + 1, rfl, by omega, by rw [← e1]; exact h.ob, by rw [← e2]; exact h.oe, h.ap⟩, ?_⟩
      simp only [vsMu_eq]; omega
    have hn1 : ((e.terms.map fun t => t.base).take i).length < 1099511627776 := by rw [List.length_take]; omega
    have hn2 : ((e.terms.map fun t => vs.getD t.var.toNat 0).take i).length < 1099511627776 := by rw [List.length_take]; omega
    have hWb : ∀ i, bv.ownBlock = some i → i < W.heap.size := htwo.lit.1
    constructor
    · refine mk1g t.base htb (fun y7 w7 h7 hy7 hb7 => ?_)
      have t7 := htwo.next h7
      refine ⟨t7.fr, ?_⟩
      constructor
      · refine t7.addB hy7 hn1 (fun v8 w8 t8 hg8 => ⟨t8.fr, ?_⟩)
        refine mk1g val rv (fun y9 w9 h9 hy9 hb9 => ?_)
        have t9 := t8.next h9
        refine ⟨t9.fr, ?_⟩
        refine t9.addE hy9 hn2 (fun v10 w10 t10 hg10 => ⟨t10.fr, t10.fr, t10.fr, ?_⟩)
        repeat (any_goals ((with_reducible refine idO ?_); (with_reducible refine oM_gen fun Kv hK=>?_); simp [go_sem]; (try simp (disch := omega) only [wrapI64, wrapU8, wrapU32, wrapU64]); refine hK _ _ ?_; clear hK; clear Kv))
        exact fin _ _ _ t10
      · refine mk1g val rv (fun y8 w8 h8 hy8 hb8 => ?_)
        have t8 := t7.next h8
        refine ⟨t8.fr, ?_⟩
        refine t8.addB (hy7.next h8) hn1 (fun v9 w9 t9 hg9 => ⟨t9.fr, ?_⟩)
        have hy8 := ints_grown hy8 hg9 (fun i e1 e2 => by have := hWb i e2; have := h7.size; rw [hb8] at e1; cases e1; omega)
        refine t9.addE hy8 hn2 (fun v10 w10 t10 hg10 => ⟨t10.fr, t10.fr, t10.fr, ?_⟩)
        repeat (any_goals ((with_reducible refine idO ?_); (with_reducible refine oM_gen fun Kv hK=>?_); simp [go_sem]; (try simp (disch := omega) only [wrapI64, wrapU8, wrapU32, wrapU64]); refine hK _ _ ?_; clear hK; clear Kv))
        exact fin _ _ _ t10
    · refine mk1g val rv (fun y7 w7 h7 hy7 hb7 => ?_)
      have t7 := htwo.next h7
      refine ⟨t7.fr, ?_⟩
      refine mk1g t.base htb (fun y8 w8 h8 hy8 hb8 => ?_)
      have t8 := t7.next h8
      refine ⟨t8.fr, ?_⟩
      refine t8.addB hy8 hn1 (fun v9 w9 t9 hg9 => ⟨t9.fr, ?_⟩)
      have hy7 := ints_grown (hy7.next h8) hg9 (fun i e1 e2 => by have := hWb i e2; rw [hb7] at e1; cases e1; omega)
      refine t9.addE hy7 hn2 (fun v10 w10 t10 hg10 => ⟨t10.fr, t10.fr, t10.fr, ?_⟩)
      repeat (any_goals ((with_reducible refine idO ?_); (with_reducible refine oM_gen fun Kv hK=>?_); simp [go_sem]; (try simp (disch := omega) only [wrapI64, wrapU8, wrapU32, wrapU64]); refine hK _ _ ?_; clear hK; clear Kv))
      exact fin _ _ _ t10
end
end Go.Proofs
namespace Go.Proofs
open Go Go.Sh Go.RowKit FdSpec TkSpec CodeSpec
set_option linter.unusedSimpArgs false
set_option linter.unusedVariables false
set_option maxRecDepth 10000
section
variable {K : Value → World → Prop} {w w0 : World} {L : List (Addr × Value)}
def IeJ (p : Eqn → Bool) (l : List Eqn) (R : Bool) (w0 : World) (vs : List Value) (w' : World) : Prop := Below w0.heap.size w0 w' ∧ ∃ (v u : Value) (i : Nat), vs = [v, u, .int .i64 (i : Int)] ∧ i ≤ l.length ∧ (l.drop i).any p = R
theorem IndexEq_ok {v F : Value} {l : List Eqn} (p : Eqn → Bool) (hl : SRow 2 EqnAt w v l)
    (hF : ∀ (w' : World) (x : Eqn) (xv : Value) (K' : Value → World → Prop) (T : TypeId), Below w.heap.size w w' → x ∈ l → SRow 2 TrmAt w' xv x.terms → I64 x.target → (∀ w'', Below w'.heap.size w' w'' → K' (.bool (p x)) w'') → oM Tryz.prog (.call { callee := .value (.tmp 0), args := #[.tmp 1], argTypes := #[169] }) T [F, eqnV x xv] K' w')
    (k : ∀ w' (r : Int), Below w.heap.size w w' → decide (0 ≤ r) = l.any p → K (.int .i64 r) w') : callM Tryz.prog 201 #[v, F] K w := by
  apply sh_201_ok
  unfold sh_201
  obtain ⟨ad, c, rfl⟩ := hl.isSlice
  have hll := hl.len
  repeat (any_goals ((with_reducible refine idO ?_); (with_reducible refine oM_gen fun Kv hK=>?_); simp [go_sem]; refine hK _ _ ?_; clear hK; clear Kv))
  refine ⟨IeJ p l (l.any p) w, vsMu l.length, ⟨Below.refl _ _, _, _, 0, rfl, by omega, rfl⟩, ?_⟩
  generalize l.any p = R at *
  rintro _ _ w1 ⟨h1, u1, u2, i, rfl, hi, ha⟩
  by_cases hin : i = l.length
  · rw [List.drop_of_length_le (by omega), List.any_nil] at ha
    repeat (any_goals (first
    | (with_reducible ((refine idCond ?_); refine yO ?_))
    | ((with_reducible refine idO ?_); (with_reducible refine oM_gen fun Kv hK=>?_); simp [go_sem]; refine hK _ _ ?_; clear hK; clear Kv)))
    exact k _ _ h1 (by rw [← ha]; rfl)
  · rw [List.drop_eq_getElem_cons (by omega), List.any_cons] at ha
    obtain ⟨b1, o1, rfl, hb1, tv, c0, c1, htr, hti⟩ := (hl.next eqn_stay h1).at (i := i) (by omega)
    have hm := List.getElem_mem (show i < l.length by omega)
    generalize l[i] = e at *
    obtain ⟨tad, tc, rfl⟩ := htr.isSlice
    repeat (any_goals (first
    | (with_reducible ((refine idCond ?_); refine yN ?_))
    | ((with_reducible refine idO ?_); (with_reducible refine oM_gen fun Kv hK=>?_); simp [go_sem, c0, c1]; (first|refine hK _ _ ?_|refine And.intro (by omega) (hK _ _ ?_)); clear hK; clear Kv)))
    refine hF w1 e _ _ _ h1 hm htr hti (fun w2 h2 => ?_)
    cases hp : p e with
    | true =>
      rw [hp, Bool.true_or] at ha
      repeat (any_goals (with_reducible ((refine idCond ?_); refine yL ?_)))
      exact k _ _ (h1.on h2) (by rw [← ha]; simp)
    | false =>
      rw [hp, Bool.false_or] at ha
      repeat (any_goals (first
      | (with_reducible ((refine idCond ?_); refine yM ?_))
      | ((with_reducible refine idO ?_); (with_reducible refine oM_gen fun Kv hK=>?_); simp [go_sem]; (try simp (disch := omega) only [wrapI64, wrapU8, wrapU32, wrapU64]); refine hK _ _ ?_; clear hK; clear Kv)))
      refine ⟨⟨h1.on h2, _, _, i + 1, rfl, by omega, ha⟩, ?_⟩
      simp only [vsMu_eq]; omega
theorem ContainsEq_ok {v F : Value} {l : List Eqn} (p : Eqn → Bool) (hl : SRow 2 EqnAt w v l)
    (hF : ∀ (w' : World) (x : Eqn) (xv : Value) (K' : Value → World → Prop) (T : TypeId), Below w.heap.size w w' → x ∈ l → SRow 2 TrmAt w' xv x.terms → I64 x.target → (∀ w'', Below w'.heap.size w' w'' → K' (.bool (p x)) w'') → oM Tryz.prog (.call { callee := .value (.tmp 0), args := #[.tmp 1], argTypes := #[169] }) T [F, eqnV x xv] K' w')
    (k : ∀ w', Below w.heap.size w w' → K (.bool (l.any p)) w') : callM Tryz.prog 176 #[v, F] K w := by
  apply sh_176_ok
  unfold sh_176
  refine IndexEq_ok p hl hF (fun w' r hb hr => ?_)
  repeat (any_goals ((with_reducible refine idO ?_); (with_reducible refine oM_gen fun Kv hK=>?_); simp [go_sem]; refine hK _ _ ?_; clear hK; clear Kv))
  rw [hr]
  exact k _ hb
theorem holds_ok (s : Stp) (c : Clm) (l : List Int) {v cv lv : Value} (hs : SetR w s v) (hc : ClmR w c cv) (hl : Ints w lv l) (hfit : ∀ e ∈ c.eqs, e.terms.length < 1000 ∧ ∀ t ∈ e.terms, 0 ≤ t.var ∧ t.var < c.vars)
    (k : ∀ w', Below w.heap.size w w' → K (.bool (holdsM s c l)) w') : callM Tryz.prog 130 #[stpV s v, clmV c cv, lv] K w := by
  apply sh_130_ok
  unfold sh_130
  have hs' := hs
  have hc' := hc
  have hl' := hl
  obtain ⟨ad, ca, rfl⟩ := hs.ints.isSlice
  obtain ⟨ead, ec, rfl⟩ := hc.eqs.isSlice
  obtain ⟨lad, lc, rfl⟩ := hl.isSlice
  refine box_kn (cs := stpC s (.slice ad s.bases.length ca)) rfl (.start w) fun b1 W1 hk hb1 hbb => ?_
  refine box_kn (cs := clmC c (.slice ead c.eqs.length ec)) rfl hk fun b2 W2 hk hb2 hbb => ?_
  refine box_kn (cs := [.slice lad l.length lc]) rfl hk fun b3 W3 hk hb3 hbb => ?_
  clear hb1 hb2 hb3 hbb
  repeat (any_goals ((with_reducible refine idO ?_); (with_reducible refine oM_gen fun Kv hK=>?_); simp [go_sem, hk.cells]; refine hK _ _ ?_; clear hK; clear Kv))
  refine exponents_ok s c.vars (hs'.next hk.below) (hl'.next hk.below) (fun w4 h4 => ?_)
  have hk := hk.next h4
  clear h4
  have eH : holdsM s c l = (exponentsM s l c.vars && !(c.eqs.any fun e => !decide (leftM s e l = e.target))) := rfl
  cases hx : exponentsM s l c.vars with
  | false =>
    rw [hx, Bool.false_and] at eH
    rw [eH] at k
    repeat (any_goals (first
    | (with_reducible ((refine idCond ?_); refine yL ?_))
    | ((with_reducible refine idO ?_); (with_reducible refine oM_gen fun Kv hK=>?_); simp [go_sem, hk.cells]; refine hK _ _ ?_; clear hK; clear Kv)))
    exact k _ hk.below
  | true =>
  rw [hx, Bool.true_and] at eH
  rw [eH] at k
  have hln : (l.length : Int) = c.vars := by
    unfold exponentsM at hx
    simp only [Bool.and_eq_true, decide_eq_true_eq] at hx
    exact hx.1
  repeat (any_goals (first
  | (with_reducible ((refine idCond ?_); refine yM ?_))
  | ((with_reducible refine idO ?_); (with_reducible refine oM_gen fun Kv hK=>?_); simp [go_sem, hk.cells]; refine hK _ _ ?_; clear hK; clear Kv)))
  refine ContainsEq_ok (fun e => !decide (leftM s e l = e.target)) (hc'.eqs.next eqn_stay hk.below) ?_ ?_
  · intro w' x xv K' T hb hx htr hti h'
    refine oM_callv1 (by kernel_rfl) ?_
    have hk := hk.next hb
    show callM Tryz.prog 177 #[eqnV x xv, .pointer (some ⟨b1, 0, none⟩), .pointer (some ⟨b3, 0, none⟩)] K' w'
    apply sh_177_ok
    unfold sh_177
    obtain ⟨xad, xc, rfl⟩ := htr.isSlice
    refine box_kn (cs := eqnC x (.slice xad x.terms.length xc)) rfl (.start w') fun b5 W5 hk5 hb5 hbb => ?_
    have hk := hk.next hb5
    have htr := htr.next trm_stay hb5
    have hk6 := hk5.drew
    have hk := hk.drew
    have htr := htr.next trm_stay (.drawn (B := W5.heap.size))
    refine ⟨Nx { W5 with drawn := W5.drawn + 1 }, Below.refl _ _, rfl, ?_⟩
    generalize ({ W5 with drawn := W5.drawn + 1 } : World) = W9 at hk hk6 htr ⊢
    repeat (any_goals ((with_reducible refine idOH ?_); (with_reducible refine oH_of ⟨_, rfl⟩ (fun W0 hW0 => by (refine oM_gen (fun Kv hK => ?_)); simp [go_sem, (hk.next hW0).cells, (hk6.next hW0).cells]; (first | exact hK _ _ ⟨rfl, rfl⟩ | exact ⟨by omega, hK _ _ ⟨rfl, rfl⟩⟩)) ?_)))
    refine ⟨Nx, ?_⟩
    apply monoE
    · intro w1 h1
      exact left_ok s x l (hs'.next (hk.next h1).below) (htr.next trm_stay h1) hti (hl'.next (hk.next h1).below) (hfit x hx).1 (fun t ht => by have := (hfit x hx).2 t ht; omega) (fun w2 h2 => ⟨h1.on h2, h2, rfl⟩)
    (intro w9 h9; repeat (intro v9 e9; try (obtain rfl := e9)))
    have hk6 := hk6.next h9
    repeat (any_goals ((with_reducible refine idO ?_); (with_reducible refine oM_gen fun Kv hK=>?_); simp [go_sem, hk6.cells]; refine hK _ _ ?_; clear hK; clear Kv))
    exact h' _ hk6.below
  · intro w3 h3
    have hk := hk.next h3
    generalize (c.eqs.any fun e => !decide (leftM s e l = e.target)) = q at *
    repeat (any_goals ((with_reducible refine idO ?_); (with_reducible refine oM_gen fun Kv hK=>?_); simp [go_sem]; refine hK _ _ ?_; clear hK; clear Kv))
    exact k _ hk.below
theorem claim_fit {s : Stp} {c : Clm} (h : claimM s c = true) : ∀ e ∈ c.eqs, e.terms.length < 1000 ∧ ∀ t ∈ e.terms, 0 ≤ t.var ∧ t.var < c.vars := by
  unfold claimM at h
  simp only [Bool.and_eq_true] at h
  intro e he
  have := List.all_eq_true.1 h.2 e he
  unfold eqnFine at this
  simp only [Bool.and_eq_true, decide_eq_true_eq] at this
  refine ⟨by omega, fun t ht => ?_⟩
  have := List.all_eq_true.1 this.2 t ht
  unfold trmFine at this
  simp only [Bool.and_eq_true, decide_eq_true_eq] at this
  exact this.1
theorem Holds_ok (s : Stp) (c : Clm) (l : List Int) {v cv lv : Value} (hs : SetR w s v) (hc : ClmR w c cv) (hl : Ints w lv l)
    (k : ∀ w', Below w.heap.size w w' → K (.bool (HoldsM s c l)) w') : callM Tryz.prog 61 #[stpV s v, clmV c cv, lv] K w := by
  apply sh_61_ok
  unfold sh_61
  have hs' := hs
  have hc' := hc
  obtain ⟨ad, ca, rfl⟩ := hs.ints.isSlice
  obtain ⟨ead, ec, rfl⟩ := hc.eqs.isSlice
  refine box_kn (cs := stpC s (.slice ad s.bases.length ca)) rfl (.start w) fun b1 W1 hk hb1 hbb => ?_
  refine box_kn (cs := clmC c (.slice ead c.eqs.length ec)) rfl hk fun b2 W2 hk hb2 hbb => ?_
  clear hb1 hb2 hbb
  have eH : HoldsM s c l = (validS s && claimM s c && holdsM s c l) := rfl
  repeat (any_goals ((with_reducible refine idO ?_); (with_reducible refine oM_gen fun Kv hK=>?_); simp [go_sem, hk.cells]; refine hK _ _ ?_; clear hK; clear Kv))
  refine ValidSetup_ok s (hs'.next hk.below) (fun w4 h4 => ?_)
  have hk := hk.next h4
  clear h4
  cases hv : validS s with
  | false =>
    rw [hv, Bool.false_and, Bool.false_and] at eH
    rw [eH] at k
    repeat (any_goals (with_reducible first|((refine idGd ?_); refine zB ?_)|((refine idPick ?_); refine yC ?_)))
    exact k _ hk.below
  | true =>
  rw [hv, Bool.true_and] at eH
  repeat (any_goals (first
  | (with_reducible ((refine idGd ?_); refine zA ?_))
  | ((with_reducible refine idO ?_); (with_reducible refine oM_gen fun Kv hK=>?_); simp [go_sem, hk.cells]; refine hK _ _ ?_; clear hK; clear Kv)))
  refine validClaim_ok s c (hs'.next hk.below) (hc'.next hk.below) (fun w5 h5 => ?_)
  have hk := hk.next h5
  clear h5
  cases hcl : claimM s c with
  | false =>
    rw [hcl, Bool.false_and] at eH
    rw [eH] at k
    repeat (any_goals (with_reducible first|((refine idGd ?_); refine zB ?_)|((refine idPick ?_); first|refine yB ?_|refine yC ?_)))
    exact k _ hk.below
  | true =>
  rw [hcl, Bool.true_and] at eH
  rw [eH] at k
  repeat (any_goals (first
  | (with_reducible first|refine pureM_in ?_|((refine idGd ?_); refine zA ?_)|((refine idPick ?_); refine yB ?_))
  | ((with_reducible refine idO ?_); (with_reducible refine oM_gen fun Kv hK=>?_); simp [go_sem, hk.cells]; refine hK _ _ ?_; clear hK; clear Kv)))
  refine holds_ok s c l (hs'.next hk.below) (hc'.next hk.below) (hl.next hk.below) (claim_fit hcl) (fun w6 h6 => ?_)
  have hk := hk.next h6
  repeat (any_goals (with_reducible ((refine idPick ?_); refine yB ?_)))
  exact k _ hk.below
end
end Go.Proofs
namespace Go.Proofs
open Go Go.Sh Go.RowKit FdSpec TkSpec CodeSpec
set_option linter.unusedSimpArgs false
set_option linter.unusedVariables false
set_option maxRecDepth 10000
section
variable {K : Value → World → Prop} {w w0 : World} {L : List (Addr × Value)}
abbrev OwnT (w : World) (B : Nat) (v : Value) (l : List Trm) : Prop := w.ownsRow B 166 2 v l.length (flat trmC l)
theorem trmC_len (t : Trm) : (trmC t).length = 2 := rfl
theorem trow_of_own {B : Nat} {v : Value} {l : List Trm} (h : OwnT w B v l) (hr : ∀ t ∈ l, I64 t.var ∧ I64 t.base) (hl : l.length ≤ 9223372036854775807) : SRow 2 TrmAt w v l := by
  obtain ⟨ad, c, rfl, h0, h1⟩ := RowR.of_owns h
  refine ⟨⟨ad, c, rfl, h1.imp id ?_⟩, hl⟩
  rintro ⟨b, o, rfl, hlt, hc⟩
  refine ⟨b, o, rfl, hlt, fun i hi => ?_⟩
  have e0 := flat_at trmC_len l i 0 (List.getElem?_eq_getElem hi) (by omega)
  have e1 := flat_at trmC_len l i 1 (List.getElem?_eq_getElem hi) (by omega)
  have hm := hr _ (List.getElem_mem hi)
  exact ⟨hc _ _ e0, hc _ _ e1, hm.1, hm.2⟩
theorem appendT {B : Nat} {T : TypeId} {v : Value} {l : List Trm} {x : Trm} {g : Nat} (ho : OwnT w B v l) (hB : B ≤ w.heap.size) (hx : w.heap[g]? = some (.cells #[.int .i64 x.var, .int .i64 x.base] 166 (0, 0))) (hl : l.length < 1099511627776)
    (k : ∀ v' w', OwnT w' B v' (l ++ [x]) → w.grownBy w' v.ownBlock → (∀ i, v'.ownBlock = some i → v.ownBlock = some i ∨ w.heap.size ≤ i) → K v' w') : oM Tryz.prog (.call { callee := .builtin .append, args := #[.tmp 0, .tmp 1], argTypes := #[167, 167] }) T [v, .slice (some ⟨g, 0, none⟩) 1 1] K w := by
  refine append_at 167 T 166 ((Tryz.prog.info? 166).getD default) (.agg #[.int .i64 0, .int .i64 0]) 2 16 (by kernel_rfl) (by kernel_rfl) (by kernel_rfl) (by kernel_rfl) (by kernel_rfl) (by kernel_rfl) (by omega) (owns_base ho (Nat.zero_le _)) [.int .i64 x.var, .int .i64 x.base] (by simp) (by simp) ?_ ?_ (by simp only [maxLen]; omega) (by omega) ?_
  · rintro a ha j u hj
    cases ha
    rw [add_none, cell_of_block hx]
    simpa using hj
  · intro u hu
    simp only [List.mem_cons, List.not_mem_nil, or_false] at hu
    rcases hu with rfl | rfl <;> rfl
  · intro v' w' ho' hg hv
    have hbl : ∀ i, v.ownBlock = some i → B ≤ i := fun i hi => (owns_own ho hi).2.1
    refine k v' w' ?_ hg hv
    have e1 : (l ++ [x]).length = l.length + 1 := by simp
    have e2 : flat trmC (l ++ [x]) = flat trmC l ++ trmC x := flat_snoc l x
    show w'.ownsRow B 166 2 v' (l ++ [x]).length (flat trmC (l ++ [x]))
    rw [e1, e2]
    exact owns_up ho' (fun i hi => (hv i hi).elim (hbl i) (fun h => Nat.le_trans hB h))
theorem mkT {T : TypeId} (t : Trm) (k : ∀ W, Below w.heap.size w W → W.heap.size = w.heap.size + 1 → W.heap[w.heap.size]? = some (.cells #[.int .i64 t.var, .int .i64 t.base] 166 (0, 0)) → OwnT W w.heap.size (.slice (some ⟨w.heap.size, 0, none⟩) 1 1) [t] → K (.slice (some ⟨w.heap.size, 0, none⟩) 1 1) W) : oM Tryz.prog (.buildSlice 167 1 #[(0, .tmp 0)]) T [trmV t] K w := by
  rw [oM_buildSlice1]
  have e : (Instr.buildSlice 167 1 #[(0, trmV t)]).run Tryz.prog w = .ok (.slice (some ⟨w.heap.size, 0, none⟩) 1 1) (w.alloc (.cells #[.int .i64 t.var, .int .i64 t.base] 166)) := by kernel_rfl
  rw [e]
  exact k _ ((Below.refl _ w).alloc (Nat.le_refl _) _) (by simp) (heap_alloc_new w _) (World.ownsRow_lit w #[.int .i64 t.var, .int .i64 t.base] 1 (Nat.le_refl _) (by decide) rfl)
theorem eqn1 {e : Eqn} {tv : Value} {g : Nat} (hg : w.heap[g]? = some (.cells #[.int .i64 e.target, tv] 169 (0, 0))) (hr : SRow 2 TrmAt w tv e.terms) (ht : I64 e.target) : SRow 2 EqnAt w (.slice (some ⟨g, 0, none⟩) [e].length 1) [e] := by
  refine ⟨⟨_, 1, rfl, .inr ⟨_, 0, rfl, (Array.getElem?_eq_some_iff.1 hg).1, fun i hi => ?_⟩⟩, by simp⟩
  have hi : i = 0 := by simpa using hi
  subst hi
  exact ⟨tv, cell_of_block hg 0, cell_of_block hg 1, hr, ht⟩
theorem mkE {T : TypeId} (e : Eqn) (ad : Option Addr) (n c : Nat) (k : ∀ W, Below w.heap.size w W → W.heap[w.heap.size]? = some (.cells #[.int .i64 e.target, .slice ad n c] 169 (0, 0)) → K (.slice (some ⟨w.heap.size, 0, none⟩) [e].length 1) W) : oM Tryz.prog (.buildSlice 106 1 #[(0, .tmp 0)]) T [eqnV e (.slice ad n c)] K w := by
  rw [oM_buildSlice1]
  have e1 : (Instr.buildSlice 106 1 #[(0, eqnV e (.slice ad n c))]).run Tryz.prog w = .ok (.slice (some ⟨w.heap.size, 0, none⟩) 1 1) (w.alloc (.cells #[.int .i64 e.target, .slice ad n c] 169)) := by kernel_rfl
  rw [e1]
  exact k _ ((Below.refl _ w).alloc (Nat.le_refl _) _) (heap_alloc_new w _)
def termsM (s : Stp) (mark : Int) : List Trm := (List.range s.bases.length).map fun (i : Nat) => if i = 0 then ⟨0, mark⟩ else ⟨(i : Int), s.bases.getD i 0⟩
def ticketClaimM (s : Stp) (mark : Int) : Clm := ⟨s.bases.length, [⟨s.bases.getD 0 0, termsM s mark⟩]⟩
theorem termsM_len (s : Stp) (mark : Int) : (termsM s mark).length = s.bases.length := by unfold termsM; simp
theorem sz_clm (w : World) : (sizeOf 108).run Tryz.prog w = .ok 2 w := by kernel_rfl
theorem al_clm (w : World) : (Instr.alloc 108 true (.tuple #[])).run Tryz.prog w = .ok (.pointer (some ⟨w.heap.size, 0, none⟩)) (w.alloc (.cells [.int .i64 0, .slice none 0 0].toArray 108)) := by kernel_rfl
theorem clm_one (e : Clm) (ad : Option Addr) (n c : Nat) : ∀ u ∈ clmC e (.slice ad n c), u.oneCell' = true := by
  intro u hu
  simp only [clmC, List.mem_cons, List.not_mem_nil, or_false] at hu
  rcases hu with rfl | rfl <;> rfl
theorem build_clm (T : TypeId) (x : Int) : oM Tryz.prog (Go.Op.build 108 #[(0, (.tmp 0))]) T [.int .i64 x] = pureM (clmV ⟨x, []⟩ (.slice none 0 0)) := by
  funext K w
  kernel_rfl
theorem build_trm (T : TypeId) (x y : Int) : oM Tryz.prog (Go.Op.build 166 #[(0, (.tmp 0)), (1, (.tmp 1))]) T [.int .i64 x, .int .i64 y] = pureM (trmV ⟨x, y⟩) := by
  funext K w
  kernel_rfl
theorem build_eqn (T : TypeId) (x : Int) (ad : Option Addr) (n c : Nat) : oM Tryz.prog (Go.Op.build 169 #[(0, (.tmp 0)), (1, (.tmp 1))]) T [.int .i64 x, .slice ad n c] = pureM (eqnV ⟨x, []⟩ (.slice ad n c)) := by
  funext K w
  kernel_rfl
def muN (n : Nat) : List Value → World → Nat
  | [.int _ i], _ => n - i.toNat
  | _, _ => 0
theorem muN_eq (n : Nat) (k : IntKind) (i : Int) (w : World) : muN n [.int k i] w = n - i.toNat := rfl
theorem holdsO {w' : World} {g : Nat} {T : TypeId} {vs : List Value} {b : Option Nat} (h : Holds w g T vs) (hg : w.grownBy w' b) (hne : b ≠ some g) : Holds w' g T vs := by
  unfold Holds
  rw [hg.block g h.lt (fun e => hne (by first | exact e | exact e.symm))]; exact h
theorem Kn.grownO {w' : World} {b : Option Nat} (h : Kn w0 L w) (hg : w.grownBy w' b) (h0 : ∀ j, b = some j → w0.heap.size ≤ j) (hn : ∀ j, b = some j → ∀ p ∈ L, p.1.block ≠ j) : Kn w0 L w' := by
  refine ⟨h.below.grown hg h.below.size (fun j e => h0 j (by first | exact e | exact e.symm)), ?_⟩
  have hc := h.cells
  clear h h0
  induction L with
  | nil => trivial
  | cons p L ih =>
    have hlt := cells_lt hc p (by simp)
    exact ⟨(World.cell?_of_block (hg.block _ hlt (fun e => hn _ (by first | exact e | exact e.symm) p (by simp) rfl))).trans hc.1, ih (fun j e q hq => hn j e q (by simp [hq])) hc.2⟩
structure TcS (w0 : World) (L : List (Addr × Value)) (g0 g1 g2 B : Nat) (n b0 : Int) (tl : List Trm) (i : Nat) (w' : World) (tv : Value) : Prop where
  kn : Kn w0 L w'
  h0 : Holds w' g0 108 [.int .i64 0, .slice none 0 0]
  h1 : Holds w' g1 108 [.int .i64 n, .slice none 0 0]
  h2 : Holds w' g2 169 [.int .i64 b0, tv]
  own : OwnT w' B tv (tl.take i)
  off : tv.ownBlock ≠ some g0 ∧ tv.ownBlock ≠ some g1 ∧ tv.ownBlock ≠ some g2
def TcJ (w0 : World) (L : List (Addr × Value)) (g0 g1 g2 B : Nat) (n b0 : Int) (tl : List Trm) (vs : List Value) (w' : World) : Prop := ∃ (i : Nat) (tv : Value), vs = [.int .i64 (i : Int)] ∧ 1 ≤ i ∧ i ≤ tl.length ∧ TcS w0 L g0 g1 g2 B n b0 tl i w' tv
theorem ticketClaim_ok (s : Stp) (mark : Int) {v : Value} (hm : I64 mark) (hs : SetR w s v) (hne : 0 < s.bases.length) (hlt : s.bases.length < 1000) (k : ∀ w' cv, Below w.heap.size w w' → ClmR w' (ticketClaimM s mark) cv → K (clmV (ticketClaimM s mark) cv) w') : callM Tryz.prog 59 #[stpV s v, .int .i64 mark] K w := by
  apply sh_59_ok
  unfold sh_59
  have hs' := hs
  obtain ⟨ad, c, rfl⟩ := hs.ints.isSlice
  refine box_kn (cs := stpC s (.slice ad s.bases.length c)) rfl (.start w) fun b1 W hk hb1 hbb => ?_
  clear hb1
  have hLl := cells_lt hk.cells
  have hwW := hk.below.size
  refine arr_alloc al_clm fun g0 w1 h1 hg0 hh0 => ?_
  have hk := hk.next h1
  have hW1 := h1.size
  have hg0l := hh0.lt
  clear h1
  have hb0i := (hs'.ints.next hk.below)
  obtain ⟨bb, bo, rfl, hbb2, c0, r0, _⟩ := hb0i.at (i := 0) hne
  have hlt0 : (0 : Int) < s.bases.length := by omega
  repeat (any_goals (first
  | ((with_reducible refine arr_alloc al_clm ?_); intro g1 w2 h2 hg1 hh1)
  | ((with_reducible refine idO ?_); (with_reducible refine oM_gen fun Kv hK=>?_); simp [go_sem, hk.cells, build_clm]; refine hK _ _ ?_; clear hK; clear Kv)))
  refine arr_store sz_clm rfl rfl (clm_one ⟨s.bases.length, []⟩ none 0 0) hh1 rfl (fun w3 hg3 hh1 => ?_)
  have h3 := grown_below h2 hg3 hg1
  have hk := hk.next h3
  have hw13 := h3.size
  have hh0 := hh0.next h3
  have c0 := c0 _ h3
  simp only [Nat.add_zero] at c0
  have hw3 := hk.below.size
  clear hg3 h2 h3
  iterate 5 (any_goals ((with_reducible refine idO ?_); (with_reducible refine oM_gen fun Kv hK=>?_); simp [go_sem, hk.cells, c0, build_trm]; (first|refine hK _ _ ?_|refine And.intro (by omega) (hK _ _ ?_)); clear hK; clear Kv))
  refine mkT ⟨0, mark⟩ fun w4 h4 hq4 hc4 ho4 => ?_
  have hk := hk.next h4
  have hg2 : g1 < w3.heap.size := hh1.lt
  have hg02 : g0 < w3.heap.size := hh0.lt
  have hh0 := hh0.next h4
  have hh1 := hh1.next h4
  have hs4 := h4.size
  iterate 1 (any_goals ((with_reducible refine idO ?_); (with_reducible refine oM_gen fun Kv hK=>?_); simp [go_sem, build_eqn]; refine hK _ _ ?_; clear hK; clear Kv))
  refine arr_alloc al_eqn fun g2 w5 h5 hg5 hh2 => ?_
  have hk4 := hk
  have hk := hk.next h5
  have hh0 := hh0.next h5
  have hh1 := hh1.next h5
  have ho4 : OwnT w5 w3.heap.size _ [⟨0, mark⟩] := owns_keep ho4 (fun i hi => h5.block i (owns_own ho4 hi).1)
  have hg2l : w4.heap.size ≤ g2 := hg5
  have hs5 := h5.size
  refine arr_store sz_eqn rfl rfl (eqn_one ⟨s.bases[0], []⟩ (some ⟨w3.heap.size, 0, none⟩) 1 1) hh2 rfl (fun w6 hg6 hh2 => ?_)
  have hk := hk.wrote hg6 (by have := hk4.below.size; omega) (fun p hp => Nat.ne_of_lt (Nat.lt_of_lt_of_le (cells_lt hk4.cells p hp) hg5))
  have hh0 := hh0.other hg6 (by omega)
  have hh1 := hh1.other hg6 (by omega)
  have ho6 : OwnT w6 w3.heap.size (.slice (some ⟨w3.heap.size, 0, none⟩) 1 1) [⟨0, mark⟩] := owns_keep ho4 (fun i hi => hg6.block i (owns_own ho4 hi).1 (fun e => by have h1 : w3.heap.size = i := Option.some.inj hi; have h2 := Option.some.inj e; omega))
  have htl := termsM_len s mark
  have ht1 : (termsM s mark).take 1 = [⟨0, mark⟩] := by
    unfold termsM
    match hn : s.bases.length, hne with
    | n + 1, _ => rw [List.range_succ_eq_map]; rfl
  have hget : ∀ i, 1 ≤ i → (h : i < s.bases.length) → (termsM s mark)[i]? = some ⟨(i : Int), s.bases[i]⟩ := fun i h1 h2 => by
    unfold termsM
    rw [List.getElem?_map, List.getElem?_range h2]
    simp only [Option.map_some]
    rw [if_neg (by omega), List.getD_eq_getElem?_getD, List.getElem?_eq_getElem h2]
    rfl
  have hrng : ∀ t ∈ termsM s mark, I64 t.var ∧ I64 t.base := fun t ht => by
    obtain ⟨i, hi, rfl⟩ := List.mem_map.1 ht
    have hi : i < s.bases.length := List.mem_range.1 hi
    split
    · exact ⟨by show I64 0; constructor <;> decide, hm⟩
    · refine ⟨by constructor <;> (dsimp only; omega), ?_⟩
      dsimp only
      rw [List.getD_eq_getElem?_getD, List.getElem?_eq_getElem hi]
      exact hs'.ints.rng _ (List.getElem_mem hi)
  have eC : ticketClaimM s mark = ⟨s.bases.length, [⟨s.bases[0], termsM s mark⟩]⟩ := by
    unfold ticketClaimM
    rw [List.getD_eq_getElem?_getD, List.getElem?_eq_getElem hne]
    rfl
  rw [eC] at k
  clear eC
  generalize s.bases[0] = b0 at *
  refine ⟨TcJ w (cellsOf [] b1 0 (stpC s (.slice (some ⟨bb, bo, none⟩) s.bases.length c))) g0 g1 g2 w3.heap.size s.bases.length b0 (termsM s mark), muN s.bases.length, ⟨1, _, rfl, by omega, by omega, ⟨hk, hh0, hh1, hh2, by rw [ht1]; exact ho6, ?_⟩⟩, ?_⟩
  · exact ⟨fun e => by have h : w3.heap.size = g0 := Option.some.inj e; omega, fun e => by have h : w3.heap.size = g1 := Option.some.inj e; omega, fun e => by have h : w3.heap.size = g2 := Option.some.inj e; omega⟩
  generalize termsM s mark = tl at *
  have hgw : g0 < w6.heap.size ∧ g1 < w6.heap.size ∧ g2 < w6.heap.size := ⟨hh0.lt, hh1.lt, hh2.lt⟩
  clear ht1 ho6 ho4 hh0 hh1 hh2 hk hk4 hc4
  rintro _ _ w7 ⟨i, tv, rfl, hi1, hi2, ⟨hk, hh0, hh1, hh2, ho, off⟩⟩
  by_cases hin : i = s.bases.length
  · rw [List.take_of_length_le (by omega)] at ho
    have hlt2 : ¬ (i : Int) < s.bases.length := by omega
    obtain ⟨ad', c', rfl, _, _⟩ := RowR.of_owns ho
    have lt7 : g0 < w7.heap.size ∧ g1 < w7.heap.size := ⟨hh0.lt, hh1.lt⟩
    repeat (any_goals (first
    | (with_reducible ((refine idCond ?_); refine yM ?_))
    | ((with_reducible refine idO ?_); (with_reducible refine oM_gen fun Kv hK=>?_); simp [go_sem, hk.cells, hlt2]; refine hK _ _ ?_; clear hK; clear Kv)))
    iterate 1 (any_goals ((with_reducible refine idO ?_); (with_reducible refine oM_gen fun Kv hK=>?_); simp [go_sem, hh2.are]; refine hK _ _ ?_; clear hK; clear Kv))
    refine mkE ⟨b0, tl⟩ ad' tl.length c' (fun w8 h8 he => ?_)
    have hk := hk.next h8
    have hh0 := hh0.next h8
    have hh1 := hh1.next h8
    have ho8 : OwnT w8 _ _ _ := owns_keep ho (fun i hi => h8.block i (owns_own ho hi).1)
    have l7g0 : g0 < w7.heap.size ∧ g1 < w7.heap.size := lt7
    have l0 := hh0.lt
    have l1 := hh1.lt
    iterate 1 (any_goals ((with_reducible refine idO ?_); (with_reducible refine oM_gen fun Kv hK=>?_); simp [go_sem]; refine hK _ _ ?_; clear hK; clear Kv))
    refine arr_set (i := 1) (fun w => by kernel_rfl) rfl rfl hh1 (by simp) (fun w11 hg11 hh1 => ?_)
    have hk := hk.wrote hg11 (by omega) (fun p hp => by have := hLl p hp; omega)
    have hh0 := hh0.other hg11 (by omega)
    have hh1 : Holds w11 g1 108 [.int .i64 s.bases.length, .slice (some ⟨w7.heap.size, 0, none⟩) [(⟨b0, tl⟩ : Eqn)].length 1] := hh1
    iterate 1 (any_goals ((with_reducible refine idO ?_); (with_reducible refine oM_gen fun Kv hK=>?_); simp [go_sem, hh1.are]; refine hK _ _ ?_; clear hK; clear Kv))
    refine arr_store sz_clm (xs := clmC ⟨s.bases.length, []⟩ (.slice (some ⟨w7.heap.size, 0, none⟩) [(⟨b0, tl⟩ : Eqn)].length 1)) rfl rfl (clm_one ⟨s.bases.length, []⟩ _ _ 1) hh0 rfl (fun w12 hg12 hh0 => ?_)
    have hk := hk.wrote hg12 (by omega) (fun p hp => by have := hLl p hp; omega)
    refine ⟨clmV ⟨s.bases.length, [⟨b0, tl⟩]⟩ (.slice (some ⟨w7.heap.size, 0, none⟩) [(⟨b0, tl⟩ : Eqn)].length 1), by simp [go_sem, hh0.are], k w12 _ hk.below ⟨by constructor <;> (dsimp only; omega), ?_⟩⟩
    have ho12 : OwnT w12 _ _ _ := owns_keep ho8 (fun j hj => (hg12.block j (Nat.lt_of_lt_of_le (owns_own ho8 hj).1 hg11.size) (fun e => off.1 (by rw [hj]; first | exact e | exact e.symm))).trans (hg11.block j (owns_own ho8 hj).1 (fun e => off.2.1 (by rw [hj]; first | exact e | exact e.symm))))
    have l8 := (Array.getElem?_eq_some_iff.1 he).1
    refine eqn1 (e := ⟨b0, tl⟩) ((hg12.block _ (Nat.lt_of_lt_of_le l8 hg11.size) (fun e => ?_)).trans ((hg11.block _ l8 (fun e => ?_)).trans he)) (trow_of_own (l := tl) ho12 hrng (show tl.length ≤ 9223372036854775807 by omega)) r0
    · have := Option.some.inj e; omega
    · have := Option.some.inj e; omega
  have hlt2 : (i : Int) < s.bases.length := by omega
  obtain ⟨bb', bo', hbe, _, ca, ra, _⟩ := (hs'.ints.next hk.below).at (i := i) (by omega)
  cases hbe
  have ht2 : tl.take i ++ [⟨(i : Int), s.bases[i]⟩] = tl.take (i + 1) := by rw [List.take_add_one, hget i hi1 (by omega)]; rfl
  generalize s.bases[i] = bi at *
  repeat (any_goals (first
  | (with_reducible ((refine idCond ?_); refine yL ?_))
  | ((with_reducible refine idO ?_); (with_reducible refine oM_gen fun Kv hK=>?_); simp [go_sem, hk.cells, hlt2]; refine hK _ _ ?_; clear hK; clear Kv)))
  have hk := hk.drew
  refine ⟨Nx { w7 with drawn := w7.drawn + 1 }, Below.refl _ _, rfl, ?_⟩
  have hdr : Below w7.heap.size w7 { w7 with drawn := w7.drawn + 1 } := .drawn
  have hh0 := hh0.next hdr
  have hh1 := hh1.next hdr
  have hh2 := hh2.next hdr
  have ho : OwnT { w7 with drawn := w7.drawn + 1 } _ _ _ := owns_keep ho (fun i hi => hdr.block i (owns_own ho hi).1)
  have ca := fun W0 (h : Below ({ w7 with drawn := w7.drawn + 1 } : World).heap.size { w7 with drawn := w7.drawn + 1 } W0) => ca W0 (hdr.on h)
  generalize ({ w7 with drawn := w7.drawn + 1 } : World) = W9 at hk hh0 hh1 hh2 ho ca ⊢
  repeat (any_goals (first
  | (with_reducible refine pureH_in ?_)
  | ((with_reducible refine idOH ?_); (with_reducible refine oH_of ⟨_, rfl⟩ (fun W0 hW0 => by (refine oM_gen (fun Kv hK => ?_)); simp [go_sem, (hk.next hW0).cells, (hh2.next hW0).are, ca _ hW0]; (first | exact hK _ _ ⟨rfl, rfl⟩ | exact ⟨by omega, hK _ _ ⟨rfl, rfl⟩⟩)) ?_))))
  refine ⟨Nx, ?_⟩
  apply monoE (x := trmV ⟨i, bi⟩)
  · intro w1 h1
    change oM Tryz.prog (Go.Op.build 166 #[(0, (.tmp 0)), (1, (.tmp 1))]) 166 [.int .i64 (i : Int), .int .i64 bi] _ _
    rw [build_trm]
    exact ⟨h1, Below.refl _ _, rfl⟩
  refine monoR (fun v w' => ∃ g, v = .slice (some ⟨g, 0, none⟩) 1 1 ∧ W9.heap.size ≤ g ∧ w'.heap[g]? = some (.cells #[.int .i64 (i : Int), .int .i64 bi] 166 (0, 0))) (fun v w w1 hS h => h.imp fun g h => ⟨h.1, h.2.1, (hS.block g (Array.getElem?_eq_some_iff.1 h.2.2).1).trans h.2.2⟩) ?_ ?_
  · rintro w1 h1 _ rfl
    exact mkT ⟨i, bi⟩ (fun W hb _ hc _ => ⟨h1.on hb, hb, _, rfl, h1.size, hc⟩)
  rintro w9 h9 _ rfl _ ⟨g9, rfl, hg9, hc9⟩
  have hk := hk.next h9
  have hh0 := hh0.next h9
  have hh1 := hh1.next h9
  have hh2 := hh2.next h9
  have ho : OwnT w9 _ _ _ := owns_keep ho (fun i hi => h9.block i (owns_own ho hi).1)
  have hw9 := h9.size
  have hlt9 : g0 < w9.heap.size ∧ g1 < w9.heap.size ∧ g2 < w9.heap.size := ⟨hh0.lt, hh1.lt, hh2.lt⟩
  refine appendT (x := ⟨i, bi⟩) ho (by have := hh2.lt; omega) hc9 (by rw [List.length_take]; omega) (fun v' w10 ho' hg10 hv' => ?_)
  have hown := fun j (e : tv.ownBlock = some j) => (owns_own ho e).2.1
  have hk := Kn.grownO hk hg10 (fun j e => by have := hown j e; omega) (fun j e p hp => by have := hown j e; have := hLl p hp; omega)
  have hh0 := holdsO hh0 hg10 off.1
  have hh1 := holdsO hh1 hg10 off.2.1
  have hh2 := holdsO hh2 hg10 off.2.2
  rw [ht2] at ho'
  have hoff : v'.ownBlock ≠ some g0 ∧ v'.ownBlock ≠ some g1 ∧ v'.ownBlock ≠ some g2 := by
    exact ⟨fun e => (hv' _ e).elim off.1 (fun h => by omega), fun e => (hv' _ e).elim off.2.1 (fun h => by omega), fun e => (hv' _ e).elim off.2.2 (fun h => by omega)⟩
  obtain ⟨ad', c', rfl, _, _⟩ := RowR.of_owns ho'
  iterate 1 (any_goals ((with_reducible refine idO ?_); (with_reducible refine oM_gen fun Kv hK=>?_); simp [go_sem]; refine hK _ _ ?_; clear hK; clear Kv))
  refine arr_set (i := 1) (fun w => by kernel_rfl) rfl rfl hh2 (by simp) (fun w11 hg11 hh2 => ?_)
  have hh2 : Holds w11 g2 169 [.int .i64 b0, _] := hh2
  repeat (any_goals ((with_reducible refine idO ?_); (with_reducible refine oM_gen fun Kv hK=>?_); simp [go_sem]; (try simp (disch := omega) only [wrapI64, wrapU8, wrapU32, wrapU64]); refine hK _ _ ?_; clear hK; clear Kv))
  refine ⟨⟨i + 1, _, rfl, by omega, by omega, ⟨hk.wrote hg11 (by omega) (fun p hp => by have := hLl p hp; omega), hh0.other hg11 (by omega), hh1.other hg11 (by omega), hh2, owns_keep ho' (fun j hj => hg11.block j (owns_own ho' hj).1 (fun e => hoff.2.2 (by rw [hj]; first | exact e | exact e.symm))), hoff⟩⟩, ?_⟩
  simp only [muN_eq]; omega
end
end Go.Proofs
namespace Go.Proofs
open Go Go.Sh Go.RowKit FdSpec TkSpec CodeSpec
set_option linter.unusedSimpArgs false
set_option linter.unusedVariables false
set_option maxRecDepth 10000
section
variable {K : Value → World → Prop} {w w0 : World} {L : List (Addr × Value)}
theorem mkI1l {T : TypeId} (x : Int) (k : ∀ W, Below w.heap.size w W → OwnI W w.heap.size (.slice (some ⟨w.heap.size, 0, none⟩) 1 1) [x] → K (.slice (some ⟨w.heap.size, 0, none⟩) 1 1) W) : oM Tryz.prog (.buildSlice 22 1 #[(0, .tmp 0)]) T [.int .i64 x] K w := by
  rw [oM_buildSlice1]
  have e : (Instr.buildSlice 22 1 #[(0, .int .i64 x)]).run Tryz.prog w = .ok (.slice (some ⟨w.heap.size, 0, none⟩) 1 1) (w.alloc (.cells #[.int .i64 x] 3)) := by kernel_rfl
  rw [e]
  exact k _ ((Below.refl _ w).alloc (Nat.le_refl _) _) (World.ownsRow_lit w #[.int .i64 x] 1 (Nat.le_refl _) (by decide) rfl)
def ticketValuesM (s : Stp) (attrs : List Int) (n : Int) : List Int := powM s.g.Q n (-1) :: attrs.map (fun a => subM s.g.Q 0 a)
def TvJ (w0 : World) (L : List (Addr × Value)) (al : List Int) (vs : List Value) (w' : World) : Prop := Kn w0 L w' ∧ ∃ (ov : Value) (i : Nat), vs = [ov, .int .i64 (i : Int)] ∧ i + 1 ≤ al.length ∧ OwnI w' w0.heap.size ov (al.take (i + 1))
abbrev TvJk {w0 w' : World} {L : List (Addr × Value)} (_ : Kn w0 L w') (al : List Int) : List Value → World → Prop := TvJ w0 L al
theorem ticketValues_ok (s : Stp) (n : Int) {v lv : Value} {l : List Int} (hs : SetR w s v) (hl : Ints w lv l) (hln : l.length < 1000)
    (k : ∀ w' ov, Below w.heap.size w w' → Ints w' ov (ticketValuesM s l n) → K ov w') : callM Tryz.prog 60 #[stpV s v, lv, .int .i64 n] K w := by
  apply sh_60_ok
  unfold sh_60
  obtain ⟨ad, c, rfl⟩ := hs.ints.isSlice
  have hl' := hl
  obtain ⟨lad, lc, rfl⟩ := hl.isSlice
  refine box_kn (cs := stpC s (.slice ad s.bases.length c)) rfl (.start w) fun b1 W hk hb1 hbb => ?_
  clear hb1
  repeat (any_goals ((with_reducible refine idO ?_); (with_reducible refine oM_gen fun Kv hK=>?_); simp [go_sem, hk.cells]; refine hK _ _ ?_; clear hK; clear Kv))
  refine Pow_ok s.g.Q n (-1) (by constructor <;> decide) (fun w3 h3 => ?_)
  have hk := hk.next h3
  clear h3
  refine mkI1l _ fun w4 h4 ho => ?_
  have hwl := hk.below
  have hk3 : Kn w3 _ w3 := ⟨Below.refl _ _, hk.cells⟩
  have hk4 := hk3.next h4
  have hll : (ticketValuesM s l n).length = l.length + 1 := by unfold ticketValuesM; simp
  have hat : ∀ i, (h : i < l.length) → (ticketValuesM s l n)[i + 1]? = some (subM s.g.Q 0 l[i]) := fun i h => by unfold ticketValuesM; simp [h]
  have h0 : (ticketValuesM s l n).take 1 = [powM s.g.Q n (-1)] := rfl
  have hrng : ∀ x ∈ ticketValuesM s l n, I64 x := fun x hx => by
    rcases List.mem_cons.1 hx with rfl | hx
    · exact powM_I64 _ _ _
    · obtain ⟨a, _, rfl⟩ := List.mem_map.1 hx
      exact subM_I64 _ _ _
  generalize ticketValuesM s l n = al at *
  refine ⟨TvJk hk4 al, grMu l.length, ⟨hk4, _, 0, rfl, by omega, by rw [h0]; exact ho⟩, ?_⟩
  clear ho
  rintro _ _ w6 ⟨hk, ov, i, rfl, hi, ho⟩
  by_cases hin : i = l.length
  · rw [List.take_of_length_le (by omega)] at ho
    have k := k _ _ (hwl.on hk.below) (ho.ints hrng (by omega))
    have h1 : ¬ (i : Int) < l.length := by omega
    repeat (any_goals (first
    | (with_reducible ((refine idCond ?_); refine yM ?_))
    | ((with_reducible refine idO ?_); (with_reducible refine oM_gen fun Kv hK=>?_); simp [go_sem, hk.cells, h1]; refine hK _ _ ?_; clear hK; clear Kv)))
    exact k
  · have h1 : (i : Int) < l.length := by omega
    obtain ⟨b8, o8, rfl, hb8, ca, ra, _⟩ := (hl'.next hwl).at (i := i) (by omega)
    have htk := take_snoc' (hat i (by omega))
    generalize l[i] = e at *
    repeat (any_goals (first
    | (with_reducible ((refine idCond ?_); refine yL ?_))
    | ((with_reducible refine idO ?_); (with_reducible refine oM_gen fun Kv hK=>?_); simp [go_sem, hk.cells, h1]; refine hK _ _ ?_; clear hK; clear Kv)))
    have hk := hk.drew
    have ho := OwnI.keep ho (Below.drawn (w := w6))
    have h6 := hk.below
    refine ⟨Nx { w6 with drawn := w6.drawn + 1 }, Below.refl _ _, rfl, ?_⟩
    generalize ({ w6 with drawn := w6.drawn + 1 } : World) = W6 at hk h6 ho ⊢
    repeat (any_goals (first
    | (with_reducible refine pureH_in ?_)
    | ((with_reducible refine idOH ?_); (with_reducible refine oH_of ⟨_, rfl⟩ (fun W0 hW0 => by (refine oM_gen (fun Kv hK => ?_)); simp [go_sem, (hk.next hW0).cells, ca _ (hk.next hW0).below]; (first | exact hK _ _ ⟨rfl, rfl⟩ | exact ⟨by omega, hK _ _ ⟨rfl, rfl⟩⟩)) ?_))))
    refine ⟨Nx, ?_⟩
    apply monoE
    · intro w1 h1
      exact Sub_ok _ _ _ ⟨h1, Below.refl _ _, rfl⟩
    refine monoR (fun v w' => Ints w' v [subM s.g.Q 0 e]) (fun v w w1 hS h => h.next hS) ?_ ?_
    · rintro w1 h1 _ rfl
      exact mk1 _ (subM_I64 _ _ _) (fun v w2 h2 hi => ⟨h1.on h2, h2, hi⟩)
    rintro w9 h9 _ rfl v9 hi9
    have hk9 := hk.next h9
    have hkc := cells_lt hk3.cells
    refine append1g (ho.keep h9) (hk9.below).size hi9 (by rw [List.length_take]; omega) (fun v10 w10 ho10 hg10 _ => ?_)
    have hob := fun j (e : ov.ownBlock = some j) => (owns_own ho e).2.1
    have hk10 := Kn.grownO hk9 hg10 (fun j e => hob j e) (fun j e p hp => by have := hob j e; have := hkc p hp; omega)
    repeat (any_goals ((with_reducible refine idO ?_); (with_reducible refine oM_gen fun Kv hK=>?_); simp [go_sem]; (try simp (disch := omega) only [wrapI64, wrapU8, wrapU32, wrapU64]); refine hK _ _ ?_; clear hK; clear Kv))
    rw [htk] at ho10
    refine ⟨⟨hk10, _, i + 1, rfl, by omega, ho10⟩, ?_⟩
    simp only [grMu_eq]; omega
def exS : Stp := ⟨⟨23, 11, 4⟩, [4, 16, 18], 3⟩
def exC : Clm := ⟨3, [⟨4, [⟨0, 8⟩, ⟨1, 16⟩, ⟨2, 18⟩]⟩]⟩
theorem ex_claim : ticketClaimM exS 8 = exC := by decide +kernel
theorem ex_values : ticketValuesM exS [5, 7] 4 = [3, 6, 4] := by decide +kernel
theorem ex_holds : HoldsM exS exC [3, 6, 4] = true := by decide +kernel
theorem ex_not : HoldsM exS exC [3, 6, 5] = false := by decide +kernel
theorem build_stp3 (T : TypeId) (g : Grp) (ad : Option Addr) (n c : Nat) (b : Int) : oM Tryz.prog (Go.Op.build 32 #[(0, (.tmp 0)), (1, (.tmp 1)), (2, (.tmp 2))]) T [grpV g, .slice ad n c, .int .i64 b] = pureM (stpV ⟨g, [], b⟩ (.slice ad n c)) := by
  funext K w
  kernel_rfl
theorem local_clm {K : Value → World → Prop} {T' T2 : TypeId} (e : Clm) (ad : Option Addr) (m c : Nat) (hk : Kn w0 L w)
    (k : ∀ b W, Kn w0 (cellsOf L b 0 (clmC e (.slice ad m c))) W → Below w.heap.size w W → w.heap.size ≤ b → K (.pointer (some ⟨b, 0, none⟩)) W) :
    oM Tryz.prog (.alloc 108) T' [] (fun v w => oM Tryz.prog (.store 108 (.tmp 0) (.tmp 1)) T2 [v, clmV e (.slice ad m c)] (fun _ w => K v w) w) w :=
  local_kn al_clm rfl sz_clm rfl rfl (clm_one e ad m c) hk k
theorem saneT_ok (hT : DbT w) (k : ∀ w', Below w.heap.size w w' → K (.bool true) w') : callM Tryz.prog 11 #[] K w := by
  apply sh_11_ok
  unfold sh_11
  have iI : ∀ x : Int, 0 ≤ x ∧ x < 100 → I64 x := fun x h => by constructor <;> omega
  iterate 1 (any_goals ((with_reducible refine idO ?_); (with_reducible refine oM_gen fun Kv hK=>?_); simp [go_sem, build_grp3]; refine hK _ _ ?_; clear hK; clear Kv))
  refine mk3 4 16 18 (iI _ (by omega)) (iI _ (by omega)) (iI _ (by omega)) (fun ad c w1 h1 hi => ?_)
  have hk := (Kn.start w).next h1
  iterate 1 (any_goals ((with_reducible refine idO ?_); (with_reducible refine oM_gen fun Kv hK=>?_); simp [go_sem, build_stp3]; refine hK _ _ ?_; clear hK; clear Kv))
  refine local_stp exS ad 3 c hk (fun b1 w2 hk h2 hb1 => ?_)
  have hs : SetR w2 exS (.slice ad 3 c) := ⟨⟨iI _ (by decide), iI _ (by decide), iI _ (by decide)⟩, hi.next h2, iI _ (by decide), hT.next hk.below⟩
  clear hi h1 h2
  iterate 1 (any_goals ((with_reducible refine idO ?_); (with_reducible refine oM_gen fun Kv hK=>?_); simp [go_sem, hk.cells]; refine hK _ _ ?_; clear hK; clear Kv))
  refine ticketClaim_ok exS 8 (iI _ (by omega)) hs (by decide) (by decide) (fun w3 cv h3 hc => ?_)
  have hk := hk.next h3
  have hs := hs.next h3
  clear h3
  rw [ex_claim] at hc ⊢
  obtain ⟨cad, cc, rfl⟩ := hc.eqs.isSlice
  refine local_clm exC cad exC.eqs.length cc hk (fun b2 w4 hk h4 hb2 => ?_)
  have hs := hs.next h4
  have hc := hc.next h4
  clear h4
  iterate 1 (any_goals ((with_reducible refine idO ?_); (with_reducible refine oM_gen fun Kv hK=>?_); simp [go_sem, hk.cells]; refine hK _ _ ?_; clear hK; clear Kv))
  refine mk2 5 7 (iI _ (by omega)) (iI _ (by omega)) (fun lv w5 h5 hl => ?_)
  have hk := hk.next h5
  have hs := hs.next h5
  have hc := hc.next h5
  clear h5
  refine ticketValues_ok exS 4 hs hl (by decide) (fun w6 ov h6 ho => ?_)
  have hk := hk.next h6
  have hs := hs.next h6
  have hc := hc.next h6
  clear h6
  rw [ex_values] at ho
  refine mk3 3 6 4 (iI _ (by omega)) (iI _ (by omega)) (iI _ (by omega)) (fun ad7 c7 w7 h7 hi7 => ?_)
  have hk := hk.next h7
  have hs := hs.next h7
  have hc := hc.next h7
  have ho := ho.next h7
  clear h7
  refine Same_ok ho hi7 (fun w8 h8 => ?_)
  have hk := hk.next h8
  have hs := hs.next h8
  have hc := hc.next h8
  have ho := ho.next h8
  clear h8
  rw [decide_eq_true rfl]
  repeat (any_goals (first
  | (with_reducible first|refine pureM_in ?_|((refine idGd ?_); refine zA ?_))
  | ((with_reducible refine idO ?_); (with_reducible refine oM_gen fun Kv hK=>?_); simp [go_sem, hk.cells]; refine hK _ _ ?_; clear hK; clear Kv)))
  refine Holds_ok exS exC [3, 6, 4] hs hc ho (fun w9 h9 => ?_)
  have hk := hk.next h9
  have hs := hs.next h9
  have hc := hc.next h9
  clear h9
  rw [ex_holds]
  repeat (any_goals (first
  | ((with_reducible refine mk3 3 6 5 (iI _ (by omega)) (iI _ (by omega)) (iI _ (by omega)) ?_); intro ad10 c10 w10 h10 hi10)
  | (with_reducible first|((refine idGd ?_); refine zA ?_)|((refine idPick ?_); refine yB ?_))
  | ((with_reducible refine idO ?_); (with_reducible refine oM_gen fun Kv hK=>?_); simp [go_sem, hk.cells]; refine hK _ _ ?_; clear hK; clear Kv)))
  have hk := hk.next h10
  refine Holds_ok exS exC [3, 6, 5] (hs.next h10) (hc.next h10) hi10 (fun w11 h11 => ?_)
  have hk := hk.next h11
  rw [ex_not]
  repeat (any_goals (first
  | (with_reducible first|((refine idGd ?_); refine zA ?_)|((refine idPick ?_); refine yB ?_))
  | ((with_reducible refine idO ?_); (with_reducible refine oM_gen fun Kv hK=>?_); simp [go_sem]; refine hK _ _ ?_; clear hK; clear Kv)))
  exact k _ hk.below
end
end Go.Proofs
namespace Go.Proofs
open Go Go.Sh Go.RowKit FdSpec TkSpec CodeSpec
set_option linter.unusedSimpArgs false
set_option linter.unusedVariables false
set_option maxRecDepth 10000
section
variable {K : Value → World → Prop} {w w0 : World} {L : List (Addr × Value)}
structure Isu where
  q : Int
  m : Mir
  x : Int
@[reducible] def isuV (c : Isu) (mv : Value) : Value := .agg #[.int .i64 c.q, mv, .int .i64 c.m.blind, .int .i64 c.x]
@[reducible] def isuC (c : Isu) (mv : Value) : List Value := [.int .i64 c.q, mv, .int .i64 c.m.blind, .int .i64 c.x]
structure IsuR (w : World) (c : Isu) (mv : Value) : Prop where
  q : I64 c.q
  m : MirR w c.m mv
  x : I64 c.x
theorem IsuR.next {w1 : World} {c : Isu} {mv : Value} (h : IsuR w c mv) (hb : Below w.heap.size w w1) : IsuR w1 c mv := ⟨h.q, h.m.next hb, h.x⟩
def tsetM (c : Isu) : Stp × Bool := if (makeG c.q).2 && decide (c.m.bases.length ≤ 9) then makeM (makeG c.q).1 c.m else (zS, false)
theorem ticketSetup_ok (c : Isu) {mv : Value} (hT : DbT w) (hc : IsuR w c mv) (k : ∀ w' sv, Below w.heap.size w w' → SetR w' (tsetM c).1 sv → K (.tuple #[stpV (tsetM c).1 sv, .bool (tsetM c).2]) w') : callM Tryz.prog 12 #[isuV c mv] K w := by
  apply sh_12_ok
  unfold sh_12
  have hm := hc.m
  obtain ⟨mad, mc, rfl⟩ := hc.m.ints.isSlice
  have k2 : ∀ w' sv r, tsetM c = r → Below w.heap.size w w' → SetR w' r.1 sv → K (.tuple #[stpV r.1 sv, .bool r.2]) w' := fun w' sv r e hb hi => by
    rw [← e] at hi ⊢
    exact k w' sv hb hi
  clear k
  refine box_kn (cs := isuC c (.slice mad c.m.bases.length mc)) rfl (.start w) fun b1 W hk hb1 hbb => ?_
  refine alloc_mine (n := 5) al_stp rfl hk fun g0 W3 hk hb3 hg0 => ?_
  clear hb1 hb3
  have eM : tsetM c = if (makeG c.q).2 && decide (c.m.bases.length ≤ 9) then makeM (makeG c.q).1 c.m else (zS, false) := rfl
  have hgr := makeG_R hc.q
  repeat (any_goals ((with_reducible refine idO ?_); (with_reducible refine oM_gen fun Kv hK=>?_); simp [go_sem, hk.cells]; refine hK _ _ ?_; clear hK; clear Kv))
  refine fMake_ok c.q hc.q (hT.next hk.below) (fun w2 h2 => ?_)
  have hk := hk.next h2
  clear h2
  generalize (makeG c.q).1 = g at *
  generalize (makeG c.q).2 = ok at *
  iterate 2 (any_goals ((with_reducible refine idO ?_); (with_reducible refine oM_gen fun Kv hK=>?_); simp [go_sem]; refine hK _ _ ?_; clear hK; clear Kv))
  refine local_grpM g hk (fun b7 W7 hk hb7 hg7 => ?_)
  clear hb7
  cases ok with
  | false =>
    rw [Bool.false_and, if_neg (by decide)] at eM
    repeat (any_goals (first
    | (with_reducible first|((refine idGd ?_); refine zD ?_)|((refine idPick ?_); refine yB ?_)|((refine idCond ?_); refine yL ?_))
    | ((with_reducible refine idO ?_); (with_reducible refine oM_gen fun Kv hK=>?_); simp [go_sem, hk.cells]; refine hK _ _ ?_; clear hK; clear Kv)))
    exact store_stp zS none 0 0 hk (fun W3 hk hc _ => ⟨_, by simp [go_sem, hc], k2 _ _ _ eM hk.below (zS_R (hT.next hk.below) (Ints.nil _))⟩)
  | true =>
  by_cases h9 : (9 : Int) < c.m.bases.length
  · rw [decide_eq_false (by omega), Bool.and_false, if_neg (by decide)] at eM
    repeat (any_goals (first
    | (with_reducible first|((refine idGd ?_); refine zC ?_)|((refine idPick ?_); refine yC ?_)|((refine idCond ?_); refine yL ?_))
    | ((with_reducible refine idO ?_); (with_reducible refine oM_gen fun Kv hK=>?_); simp [go_sem, hk.cells, h9]; refine hK _ _ ?_; clear hK; clear Kv)))
    exact store_stp zS none 0 0 hk (fun W3 hk hc _ => ⟨_, by simp [go_sem, hc], k2 _ _ _ eM hk.below (zS_R (hT.next hk.below) (Ints.nil _))⟩)
  rw [decide_eq_true (by omega), Bool.and_true, if_pos rfl] at eM
  repeat (any_goals (first
  | (with_reducible first|((refine idGd ?_); refine zC ?_)|((refine idPick ?_); refine yC ?_)|((refine idCond ?_); refine yM ?_))
  | ((with_reducible refine idO ?_); (with_reducible refine oM_gen fun Kv hK=>?_); simp [go_sem, hk.cells, h9]; refine hK _ _ ?_; clear hK; clear Kv)))
  refine Make_ok g c.m hgr (hT.next hk.below) (hm.next hk.below) (fun w4 sv h4 hr hf => ?_)
  have hgl := mine_lt hk.mine
  have hkb := hk.below.size
  have hk := hk.next h4
  clear h4
  obtain ⟨sad, sc, rfl⟩ := hr.ints.isSlice
  have eM : tsetM c = ((makeM g c.m).1, (makeM g c.m).2) := eM
  generalize (makeM g c.m).1 = t at *
  generalize (makeM g c.m).2 = q at *
  iterate 2 (any_goals ((with_reducible refine idO ?_); (with_reducible refine oM_gen fun Kv hK=>?_); simp [go_sem]; refine hK _ _ ?_; clear hK; clear Kv))
  refine local_stpM t sad t.bases.length sc hk (fun b8 W8 hk hb8 hg8 => ?_)
  have hr := hr.next hb8
  repeat (any_goals ((with_reducible refine idO ?_); (with_reducible refine oM_gen fun Kv hK=>?_); simp [go_sem, hk.cells]; refine hK _ _ ?_; clear hK; clear Kv))
  refine store_stp t sad t.bases.length sc hk (fun W3 hk hc hg3 => ⟨stpV t (.slice sad t.bases.length sc), by simp [go_sem, hc], k2 W3 (.slice sad t.bases.length sc) _ eM hk.below ⟨hr.grp, ⟨hr.ints.row.keep hg3.size (fun i hi hlt => hg3.block i hlt ?_), hr.ints.rng, hr.ints.len⟩, hr.blind, hT.next hk.below⟩⟩)
  have := hf i hi
  intro e
  have e2 : i = g0 := Option.some.inj e
  omega
structure Isg where
  w : Int
  attrs : List Int
  b : Bld
@[reducible] def isgV (i : Isg) (av yv : Value) : Value := .agg #[.int .i64 i.w, av, .int .i64 i.b.s, .int .i64 i.b.u, .int .i64 i.b.v, yv]
@[reducible] def isgC (i : Isg) (av yv : Value) : List Value := [.int .i64 i.w, av, .int .i64 i.b.s, .int .i64 i.b.u, .int .i64 i.b.v, yv]
structure IsgR (w : World) (i : Isg) (av yv : Value) : Prop where
  wn : I64 i.w
  attrs : Ints w av i.attrs
  b : BldR w i.b yv
theorem IsgR.next {w1 : World} {c : Isg} {av yv : Value} (h : IsgR w c av yv) (hb : Below w.heap.size w w1) : IsgR w1 c av yv := ⟨h.wn, h.attrs.next hb, h.b.next hb⟩
def tissM (s : Stp) (x : Int) (i : Isg) : Ses × Tkt × Bool :=
  if 9 < i.attrs.length ∨ 9 < i.b.ys.length then (zX, zT, false)
  else if (proposeM s x i.attrs i.w).2 ≠ 0 ∨ (askM s (publicM s x) i.attrs (proposeM s x i.attrs i.w).1 i.b).2 ≠ 0 then (zX, zT, false)
  else (⟨i.attrs, (proposeM s x i.attrs i.w).1, (askM s (publicM s x) i.attrs (proposeM s x i.attrs i.w).1 i.b).1, grantM s x i.w (askM s (publicM s x) i.attrs (proposeM s x i.attrs i.w).1 i.b).1⟩,
    (finishM s (publicM s x) i.attrs (proposeM s x i.attrs i.w).1 i.b (grantM s x i.w (askM s (publicM s x) i.attrs (proposeM s x i.attrs i.w).1 i.b).1)).1,
    decide ((finishM s (publicM s x) i.attrs (proposeM s x i.attrs i.w).1 i.b (grantM s x i.w (askM s (publicM s x) i.attrs (proposeM s x i.attrs i.w).1 i.b).1)).2 = 0))
structure Res2 (w : World) (B g1 g2 : Nat) (a b : List Value) : Prop where
  lo : B ≤ g1 ∧ g1 < g2
  x : Holds w g1 39 a
  t : Holds w g2 41 b
theorem Res2.next {w1 : World} {B g1 g2 : Nat} {a b : List Value} (h : Res2 w B g1 g2 a b) (hb : Below w.heap.size w w1) : Res2 w1 B g1 g2 a b := ⟨h.lo, h.x.next hb, h.t.next hb⟩
abbrev Fr2 (g1 g2 : Nat) (w w' : World) : Prop := Fr (fun i => i = g1 ∨ i = g2) w w'
theorem store2 {B g1 g2 : Nat} {b c : List Value} {T2 T3 : TypeId} (x : Ses) (ad2 : Option Addr) (n2 c2 : Nat) (t : Tkt) (q : Bool) (hr : Res2 w B g1 g2 b c) (lb : b.length = 6) (lc : c.length = 6)
    (k : ∀ W, Fr2 g1 g2 w W → K (.tuple #[sesV x (.slice ad2 n2 c2), tktV t, .bool q]) W) :
    oM Tryz.prog (.store 39 (.tmp 0) (.tmp 1)) T2 [.pointer (some ⟨g1, 0, none⟩), sesV x (.slice ad2 n2 c2)] (fun _ w => oM Tryz.prog (.store 41 (.tmp 0) (.tmp 1)) T3 [.pointer (some ⟨g2, 0, none⟩), tktV t] (fun _ w =>
      ∃ r2, (do loadVar 39 (← asAddr (.pointer (some ⟨g1, 0, none⟩))) : Sem Value).run Tryz.prog w = .ok r2 w ∧ ∃ r3, (do loadVar 41 (← asAddr (.pointer (some ⟨g2, 0, none⟩))) : Sem Value).run Tryz.prog w = .ok r3 w ∧ K (.tuple #[r2, r3, .bool q]) w) w) w := by
  obtain ⟨h0, h1⟩ := hr.lo
  refine arr_store sz_ses rfl rfl (ses_one x ad2 n2 c2) hr.x lb (fun W2 hg2 hx => ?_)
  refine arr_store sz_tkt rfl rfl (tkt_one t) (hr.t.other hg2 (by omega)) lc (fun W3 hg3 ht => ?_)
  have hx := hx.other hg3 (by omega)
  refine ⟨sesV x (.slice ad2 n2 c2), by simp [go_sem, hx.are], tktV t, by simp [go_sem, ht.are], k _ ?_⟩
  have f0 : Fr2 g1 g2 w w := Fr.refl _ _
  exact (f0.by hg2 (fun i e => .inl (.inl (Option.some.inj e).symm))).by hg3 (fun i e => .inl (.inr (Option.some.inj e).symm))
theorem fr2_below {w1 W : World} {g1 g2 : Nat} (hb : Below w.heap.size w w1) (h : Fr2 g1 g2 w1 W) (h1 : w.heap.size ≤ g1) (h2 : g1 < g2) : Below w.heap.size w W :=
  ⟨h.os.trans hb.os, h.tape.trans hb.tape, h.output.trans hb.output, Nat.le_trans hb.size h.size, fun i hi => (h.block i (Nat.lt_of_lt_of_le hi hb.size) (fun e => by rcases e with rfl | rfl <;> omega)).trans (hb.block i hi)⟩
theorem ticketIssued_ok (s : Stp) (x : Int) (i : Isg) {v av yv : Value} (hx : I64 x) (hL : Cd.Laid w) (hs : SetR w s v) (hi : IsgR w i av yv)
    (k : ∀ W xv, Below w.heap.size w W → ((tissM s x i).2.2 = true → xv = av) → SesR W (tissM s x i).1 xv → TktR (tissM s x i).2.1 → K (.tuple #[sesV (tissM s x i).1 xv, tktV (tissM s x i).2.1, .bool (tissM s x i).2.2]) W) : callM Tryz.prog 14 #[stpV s v, .int .i64 x, isgV i av yv] K w := by
  apply sh_14_ok
  unfold sh_14
  have hs' := hs
  have hi' := hi
  obtain ⟨ad, c, rfl⟩ := hs.ints.isSlice
  obtain ⟨aad, ac, rfl⟩ := hi.attrs.isSlice
  obtain ⟨yad, yc, rfl⟩ := hi.b.ys.isSlice
  refine box_kn (cs := stpC s (.slice ad s.bases.length c)) rfl (.start w) fun b1 W1 hk hb1 hbb1 => ?_
  refine box_kn (cs := isgC i (.slice aad i.attrs.length ac) (.slice yad i.b.ys.length yc)) rfl hk fun b2 W2 hk hb2 hbb2 => ?_
  refine arr_alloc al_ses fun g1 w1 h1 hg1 hh1 => ?_
  refine arr_alloc al_tkt fun g2 w2 h2 hg2 hh2 => ?_
  have hr : Res2 w2 W2.heap.size g1 g2 _ _ := ⟨⟨hg1, Nat.lt_of_lt_of_le hh1.lt hg2⟩, hh1.next h2, hh2⟩
  have hwW := hk.below.size
  have hLl := cells_lt hk.cells
  have hk := (hk.next h1).next h2
  clear h1 h2 hh1 hh2 hb1 hb2
  have eT : tissM s x i = if 9 < i.attrs.length ∨ 9 < i.b.ys.length then (zX, zT, false)
    else if (proposeM s x i.attrs i.w).2 ≠ 0 ∨ (askM s (publicM s x) i.attrs (proposeM s x i.attrs i.w).1 i.b).2 ≠ 0 then (zX, zT, false)
    else (⟨i.attrs, (proposeM s x i.attrs i.w).1, (askM s (publicM s x) i.attrs (proposeM s x i.attrs i.w).1 i.b).1, grantM s x i.w (askM s (publicM s x) i.attrs (proposeM s x i.attrs i.w).1 i.b).1⟩,
      (finishM s (publicM s x) i.attrs (proposeM s x i.attrs i.w).1 i.b (grantM s x i.w (askM s (publicM s x) i.attrs (proposeM s x i.attrs i.w).1 i.b).1)).1,
      decide ((finishM s (publicM s x) i.attrs (proposeM s x i.attrs i.w).1 i.b (grantM s x i.w (askM s (publicM s x) i.attrs (proposeM s x i.attrs i.w).1 i.b).1)).2 = 0)) := rfl
  have hlo := hr.lo
  have bad : tissM s x i = (zX, zT, false) → ∀ (w7 : World), Below w.heap.size w w7 → ∀ W9, Fr2 g1 g2 w7 W9 → K (.tuple #[sesV zX (.slice none 0 0), tktV zT, .bool false]) W9 := fun e w7 hb W9 hf => by
    have hW := fr2_below hb hf (by omega) hlo.2
    have := k W9 (.slice none 0 0) hW
    rw [e] at this
    exact this (fun h => by cases h) zX_R zT_R
  by_cases h9 : (9 : Int) < i.attrs.length
  · rw [if_pos (.inl (by omega))] at eT
    repeat (any_goals (first
    | (with_reducible first|((refine idGd ?_); refine zD ?_)|((refine idPick ?_); refine yB ?_)|((refine idCond ?_); refine yL ?_))
    | ((with_reducible refine idO ?_); (with_reducible refine oM_gen fun Kv hK=>?_); simp [go_sem, hk.cells, h9]; refine hK _ _ ?_; clear hK; clear Kv)))
    exact store2 zX none 0 0 zT false hr rfl rfl (bad eT _ hk.below)
  by_cases h8 : (9 : Int) < i.b.ys.length
  · rw [if_pos (.inr (by omega))] at eT
    repeat (any_goals (first
    | (with_reducible first|((refine idGd ?_); refine zC ?_)|((refine idPick ?_); refine yC ?_)|((refine idCond ?_); refine yL ?_))
    | ((with_reducible refine idO ?_); (with_reducible refine oM_gen fun Kv hK=>?_); simp [go_sem, hk.cells, h9, h8]; refine hK _ _ ?_; clear hK; clear Kv)))
    exact store2 zX none 0 0 zT false hr rfl rfl (bad eT _ hk.below)
  rw [if_neg (by omega)] at eT
  repeat (any_goals (first
  | (with_reducible first|((refine idGd ?_); refine zC ?_)|((refine idPick ?_); refine yC ?_)|((refine idCond ?_); refine yM ?_))
  | ((with_reducible refine idO ?_); (with_reducible refine oM_gen fun Kv hK=>?_); simp [go_sem, hk.cells, h9, h8]; refine hK _ _ ?_; clear hK; clear Kv)))
  refine Public_ok s x hx (hs'.next hk.below) (fun w3 h3 => ?_)
  have hk := hk.next h3
  have hr := hr.next h3
  clear h3
  repeat (any_goals ((with_reducible refine idO ?_); (with_reducible refine oM_gen fun Kv hK=>?_); simp [go_sem, hk.cells]; refine hK _ _ ?_; clear hK; clear Kv))
  refine Propose_ok s x i.w hx hi'.wn (hs'.next hk.below) (hi'.attrs.next hk.below) (fun w3 h3 => ?_)
  have hk := hk.next h3
  have hr := hr.next h3
  clear h3
  have ho := propose_R s x i.attrs i.w
  have hkey : I64 (publicM s x) := publicM_I64 _ _
  generalize (proposeM s x i.attrs i.w).1 = o at *
  generalize (proposeM s x i.attrs i.w).2 = pe at *
  generalize publicM s x = key at *
  iterate 2 (any_goals ((with_reducible refine idO ?_); (with_reducible refine oM_gen fun Kv hK=>?_); simp [go_sem]; refine hK _ _ ?_; clear hK; clear Kv))
  have hg2o := hr.t.lt
  refine local_off o hk (fun b3 w8 hk h8 hb3 => ?_)
  have hr := hr.next h8
  clear h8
  repeat (any_goals ((with_reducible refine idO ?_); (with_reducible refine oM_gen fun Kv hK=>?_); simp [go_sem, hk.cells]; refine hK _ _ ?_; clear hK; clear Kv))
  refine Ask_ok s key o i.b hkey ho (hs'.next hk.below) (hi'.attrs.next hk.below) (hi'.b.next hk.below) (hL.below hk.below hL.size) (fun w3 h3 => ?_)
  have hk := hk.next h3
  have hr := hr.next h3
  clear h3
  have hn : I64 (askM s key i.attrs o i.b).1 := askM_I64 _ _ _ _ _
  generalize (askM s key i.attrs o i.b).1 = n at *
  generalize (askM s key i.attrs o i.b).2 = ae at *
  by_cases hpe : pe = 0
  rotate_left
  · rw [if_pos (.inl hpe)] at eT
    repeat (any_goals (first
    | (with_reducible first|((refine idGd ?_); refine zD ?_)|((refine idPick ?_); refine yB ?_)|((refine idCond ?_); refine yL ?_))
    | ((with_reducible refine idO ?_); (with_reducible refine oM_gen fun Kv hK=>?_); simp [go_sem, hk.cells, hpe]; refine hK _ _ ?_; clear hK; clear Kv)))
    exact store2 zX none 0 0 zT false hr rfl rfl (bad eT _ hk.below)
  by_cases hae : ae = 0
  rotate_left
  · rw [if_pos (.inr hae)] at eT
    repeat (any_goals (first
    | (with_reducible first|refine pureM_in ?_|((refine idGd ?_); refine zC ?_)|((refine idPick ?_); refine yC ?_)|((refine idCond ?_); refine yL ?_))
    | ((with_reducible refine idO ?_); (with_reducible refine oM_gen fun Kv hK=>?_); simp [go_sem, hk.cells, hpe, hae]; refine hK _ _ ?_; clear hK; clear Kv)))
    exact store2 zX none 0 0 zT false hr rfl rfl (bad eT _ hk.below)
  rw [if_neg (by simp [hpe, hae])] at eT
  clear bad
  repeat (any_goals (first
  | (with_reducible first|refine pureM_in ?_|((refine idGd ?_); refine zC ?_)|((refine idPick ?_); refine yC ?_)|((refine idCond ?_); refine yM ?_))
  | ((with_reducible refine idO ?_); (with_reducible refine oM_gen fun Kv hK=>?_); simp [go_sem, hk.cells, hpe, hae]; refine hK _ _ ?_; clear hK; clear Kv)))
  refine Grant_ok s x i.w n hx hi'.wn hn (hs'.next hk.below) (fun w3 h3 => ?_)
  have hk := hk.next h3
  have hr := hr.next h3
  clear h3
  have hgr : I64 (grantM s x i.w n) := grantM_I64 _ _ _ _
  generalize grantM s x i.w n = gr at *
  repeat (any_goals ((with_reducible refine idO ?_); (with_reducible refine oM_gen fun Kv hK=>?_); simp [go_sem, hk.cells]; refine hK _ _ ?_; clear hK; clear Kv))
  refine Finish_ok s key gr o i.b hkey hgr ho (hs'.next hk.below) (hi'.attrs.next hk.below) (hi'.b.next hk.below) (hL.below hk.below hL.size) (fun w3 h3 => ?_)
  have hk := hk.next h3
  have hr := hr.next h3
  clear h3
  have hlt : TktR (finishM s key i.attrs o i.b gr).1 := finish_R _ _ _ _ _ _
  generalize (finishM s key i.attrs o i.b gr).1 = t at *
  generalize (finishM s key i.attrs o i.b gr).2 = fe at *
  iterate 2 (any_goals ((with_reducible refine idO ?_); (with_reducible refine oM_gen fun Kv hK=>?_); simp [go_sem]; refine hK _ _ ?_; clear hK; clear Kv))
  have hg2l := hr.t.lt
  refine local_tkt t hk (fun b4 w9 hk h9 hb4 => ?_)
  have hr := hr.next (h9.on .drawn)
  have hk := hk.drew
  have hLb : ∀ p ∈ cellsOf (cellsOf (cellsOf (cellsOf [] b1 0 (stpC s (.slice ad s.bases.length c))) b2 0 (isgC i (.slice aad i.attrs.length ac) (.slice yad i.b.ys.length yc))) b3 0 [.int .i64 o.z, .int .i64 o.a, .int .i64 o.b]) b4 0 (tktC t), p.1.block < ({ w9 with drawn := w9.drawn + 1 } : World).heap.size ∧ ¬ (p.1.block = g1 ∨ p.1.block = g2) := fun p hp => by
    refine ⟨cells_lt hk.cells p hp, ?_⟩
    rcases cellsOf_mem _ _ _ hp with h | hp
    · omega
    rcases cellsOf_mem _ _ _ hp with h | hp
    · omega
    · have := hLl p hp; omega
  refine ⟨Fr2 g1 g2 { w9 with drawn := w9.drawn + 1 }, Fr.refl _ _, ?_⟩
  generalize ({ w9 with drawn := w9.drawn + 1 } : World) = W at hr hk hLb ⊢
  repeat (any_goals (first
  | (with_reducible refine pureH_in ?_)
  | ((with_reducible refine idOH ?_); (with_reducible refine oH_of ⟨_, rfl⟩ (fun W0 hW0 => by (refine oM_gen (fun Kv hK => ?_)); simp [go_sem, (cells_fr hk.cells hW0 hLb)]; (first | exact hK _ _ ⟨rfl, rfl⟩ | exact ⟨by omega, hK _ _ ⟨rfl, rfl⟩⟩)) ?_))
  | ((with_reducible refine idO ?_); (with_reducible refine oM_gen fun Kv hK=>?_); simp [go_sem]; refine hK _ _ ?_; clear hK; clear Kv)))
  obtain ⟨h0, h1⟩ := hr.lo
  have f0 : Fr2 g1 g2 W W := Fr.refl _ _
  refine ⟨f0, ?_⟩
  refine arr_store (xs := sesC ⟨[], o, n, gr⟩ (.slice aad i.attrs.length ac)) sz_ses rfl rfl (ses_one ⟨[], o, n, gr⟩ aad i.attrs.length ac) hr.x rfl (fun W2 hg2 hx => ?_)
  have f0 := f0.by hg2 (fun i e => .inl (.inl (Option.some.inj e).symm))
  refine ⟨f0, ?_⟩
  refine arr_store (xs := tktC t) sz_tkt rfl rfl (tkt_one t) (hr.t.other hg2 (by omega)) rfl (fun W3 hg3 ht => ?_)
  have f0 := f0.by hg3 (fun i e => .inl (.inr (Option.some.inj e).symm))
  have hx := hx.other hg3 (by omega)
  refine ⟨f0, f0, sesV ⟨[], o, n, gr⟩ (.slice aad i.attrs.length ac), by simp [go_sem, hx.are], tktV t, by simp [go_sem, ht.are], ?_⟩
  have hW := fr2_below hk.below f0 (by omega) h1
  have := k W3 (.slice aad i.attrs.length ac) hW
  rw [eT] at this
  exact this (fun _ => rfl) ⟨hi'.attrs.next hW, ho, hn, hgr⟩ hlt
end
end Go.Proofs
set_option linter.unusedVariables false
set_option maxRecDepth 100000
namespace Go.Proofs
open Go.Sh
end Go.Proofs
namespace Go.Proofs
open Go Go.Sh Go.RowKit FdSpec TkSpec CodeSpec
set_option linter.unusedSimpArgs false
set_option linter.unusedVariables false
set_option maxRecDepth 10000
section
variable {K : Value → World → Prop} {w w0 : World} {L : List (Addr × Value)}
theorem inn_range {s : Stp} (hv : validG s.g = true) (t : Tkt) : 0 ≤ innerQ s t ∧ innerQ s t < s.g.Q := by
  have hq := (GrLaw.gv_of hv).okQ
  have key : ∀ (l : List UInt8) (o : Int), 0 ≤ o ∧ o < s.g.Q → 0 ≤ l.foldl (numStep s.g.Q) o ∧ l.foldl (numStep s.g.Q) o < s.g.Q := by
    intro l
    induction l with
    | nil => exact fun o h => h
    | cons a l ih => exact fun o _ => ih _ (addM_range _ _ _ hq)
  unfold innerQ numberM
  rw [if_pos hq]
  exact key _ 0 ⟨by omega, hq.1⟩
theorem SameBld_ok (x y : Bld) {v u : Value} (hx : BldR w x v) (hy : BldR w y u) (k : ∀ w', Below w.heap.size w w' → K (.bool (decide (x = y))) w') : callM Tryz.prog 20 #[bldV x v, bldV y u] K w := by
  apply sh_20_ok
  unfold sh_20
  have hx' := hx.ys
  have hy' := hy.ys
  obtain ⟨ad, c, rfl⟩ := hx.ys.isSlice
  obtain ⟨ad2, c2, rfl⟩ := hy.ys.isSlice
  refine box_kn (cs := bldC x (.slice ad x.ys.length c)) rfl (.start w) fun b1 W hk hb1 hbb => ?_
  refine box_kn (cs := bldC y (.slice ad2 y.ys.length c2)) rfl hk fun b2 W2 hk hb2 hbb => ?_
  have e : decide (x = y) = (decide (x.s = y.s) && (decide (x.u = y.u) && (decide (x.v = y.v) && decide (x.ys = y.ys)))) := by
    obtain ⟨a, b, c, d⟩ := x
    obtain ⟨a', b', c', d'⟩ := y
    rw [Bool.eq_iff_iff]
    simp
  rw [e] at k
  by_cases h1 : x.s = y.s
  rotate_left
  · rw [decide_eq_false h1, Bool.false_and] at k
    refine Xa (An2 hk.cells @h1) ?_
    exact k _ hk.below
  rw [decide_eq_true h1, Bool.true_and] at k
  by_cases h2 : x.u = y.u
  rotate_left
  · rw [decide_eq_false h2, Bool.false_and] at k
    refine Xa (An3 hk.cells @h1 @h2) ?_
    exact k _ hk.below
  rw [decide_eq_true h2, Bool.true_and] at k
  by_cases h3 : x.v = y.v
  rotate_left
  · rw [decide_eq_false h3, Bool.false_and] at k
    refine Xa (An4 hk.cells @h1 @h2 @h3) ?_
    exact k _ hk.below
  rw [decide_eq_true h3, Bool.true_and] at k
  refine Xa (An4 hk.cells @h1 @h2 @h3) ?_
  refine Same_ok (hx'.next hk.below) (hy'.next hk.below) (fun w3 h => ?_)
  have k := k _ (hk.next h).below
  generalize decide (x.ys = y.ys) = q at *
  refine Xa0 ?_
  exact k
end
end Go.Proofs
namespace Go.Proofs
open Go Go.Sh Go.RowKit FdSpec TkSpec CodeSpec
set_option linter.unusedSimpArgs false
set_option linter.unusedVariables false
set_option maxRecDepth 10000
section
open TpA
theorem tset_md {c : Isu} (h : (tsetM c).2 = true) : Md (makeG c.q).1 c.m (tsetM c).1 ∧ mirrorsM (tsetM c).1 c.m = true := by
  unfold tsetM at h ⊢
  split at h
  · rename_i h0
    rw [if_pos h0]
    exact ⟨made_md h, make_mirrors h⟩
  · cases h
variable {g : Grp} {m : Mir} {s : Stp} {x : Int}
structure TsH (g : Grp) (m : Mir) (s : Stp) (x : Int) (i : Isg) : Prop where
  hon : Hon g m s i.attrs i.b x i.w
  inn : innerQ s (askTkt s i.attrs (proposeM s x i.attrs i.w).1 i.b) ≠ 0
  e : tissM s x i = (hSes s i.attrs i.b x i.w, hT s i.attrs i.b x i.w, true)
theorem tiss_hon {i : Isg} (h1 : Md g m s) (h : (tissM s x i).2.2 = true) : TsH g m s x i := by
  have e : (askM s (publicM s x) i.attrs (proposeM s x i.attrs i.w).1 i.b).2 = askErr s (publicM s x) i.attrs (proposeM s x i.attrs i.w).1 i.b := rfl
  by_cases h9 : 9 < i.attrs.length ∨ 9 < i.b.ys.length
  · unfold tissM at h; rw [if_pos h9] at h; cases h
  rcases askErr_cases s (publicM s x) i.attrs (proposeM s x i.attrs i.w).1 i.b with ⟨hf, he⟩ | ⟨hf, hi, he⟩ | ⟨hf, hi, he⟩
  · unfold tissM at h; rw [if_neg h9, e, he, if_pos (.inr (by decide))] at h; cases h
  · unfold tissM at h; rw [if_neg h9, e, he, if_pos (.inr (by decide))] at h; cases h
  obtain ⟨hh, hp⟩ := fine_hon h1 hf
  have ea : (askM s (publicM s x) i.attrs (proposeM s x i.attrs i.w).1 i.b).1 = askC s i.attrs (proposeM s x i.attrs i.w).1 i.b := by
    unfold askM; dsimp only; rw [if_pos he]
  refine ⟨hh, hi, ?_⟩
  unfold tissM
  rw [if_neg h9, if_neg (by rw [e, he, hp]; simp), ea, hh.finish hi, if_pos (hh.grant hh.chal.2).2, if_pos rfl]
  rfl
theorem ts_oth {i : Isg} (h : TsH g m s x i) : Oth g m s i.attrs i.w (askC s i.attrs (proposeM s x i.attrs i.w).1 i.b) := by
  refine ⟨h.hon.us, h.hon.hw, ?_⟩
  obtain ⟨hd, h0, hq⟩ := h.hon.chal
  refine ⟨?_, hq⟩
  have hr := inn_range h.hon.md.v (askTkt s i.attrs (proposeM s x i.attrs i.w).1 i.b)
  have hi := h.inn
  generalize askC s i.attrs (proposeM s x i.attrs i.w).1 i.b = c at *
  generalize innerQ s (askTkt s i.attrs (proposeM s x i.attrs i.w).1 i.b) = n at *
  by_cases hc : c = 0
  · exfalso
    subst hc
    rw [Int.zero_mul, Int.zero_sub] at hd
    have hd2 : s.g.Q ∣ n := (Int.dvd_neg).mp hd
    have := Int.le_of_dvd (by omega) hd2
    omega
  · omega
def prB (m : Mir) (s : Stp) (x dare : Int) (i k : Isg) : Bld := eB s m i.attrs k.attrs i.b x i.w k.w (askC s k.attrs (proposeM s x k.attrs k.w).1 k.b) dare
theorem pair_all {i k : Isg} (hi : TsH g m s x i) (hk : TsH g m s x k) (hm : mirrorsM s m = true) {dare : Int} (hd : 1 ≤ dare ∧ dare < s.g.Q) :
    explainM s m (publicM s x) (hSes s i.attrs i.b x i.w) i.b (hSes s k.attrs k.b x k.w) dare = (prB m s x dare i k, true) ∧
    (askM s (publicM s x) k.attrs (proposeM s x k.attrs k.w).1 (prB m s x dare i k)).2 = 0 ∧ (askM s (publicM s x) k.attrs (proposeM s x k.attrs k.w).1 (prB m s x dare i k)).1 = askC s k.attrs (proposeM s x k.attrs k.w).1 k.b ∧
    (finishM s (publicM s x) k.attrs (proposeM s x k.attrs k.w).1 (prB m s x dare i k) (hSes s k.attrs k.b x k.w).r).2 = 0 ∧ (finishM s (publicM s x) k.attrs (proposeM s x k.attrs k.w).1 (prB m s x dare i k) (hSes s k.attrs k.b x k.w).r).1 = hT s i.attrs i.b x i.w ∧
    useM s k.attrs (prB m s x dare i k) dare = useM s i.attrs i.b dare ∧ (useM s i.attrs i.b dare).2 = true := by
  have o := ts_oth hk
  have hir := inn_range hi.hon.md.v (askTkt s i.attrs (proposeM s x i.attrs i.w).1 i.b)
  have hbl := eB_blinds hi.hon o hi.inn hir hd
  obtain ⟨h1, _⟩ := blind_all hi.hon o hi.inn hir hd
  unfold obtainsM at h1
  simp only [Bool.and_eq_true, decide_eq_true_eq] at h1
  obtain ⟨⟨a1, a2⟩, ⟨⟨f1, f2⟩, u1⟩, u2, u3⟩ := h1
  exact ⟨expl_yes hi.hon o hm hi.inn hir hd, a1, a2, f1, f2, eB_spend hi.hon o hd hbl, by rw [hi.hon.use_ok hd]⟩
theorem pair_same {i : Isg} (hi : TsH g m s x i) {dare : Int} (hd : 1 ≤ dare ∧ dare < s.g.Q) : prB m s x dare i i = i.b := by
  have o := ts_oth hi
  have hir := inn_range hi.hon.md.v (askTkt s i.attrs (proposeM s x i.attrs i.w).1 i.b)
  refine ((blind_all hi.hon o hi.inn hir hd).2 i.b (obtains_eq.mpr ⟨own_obtained hi.hon hi.inn, ?_⟩)).symm
  have ed : (useM s i.attrs i.b dare).1.dare = dare := by rw [hi.hon.use_ok hd]
  rw [ed]
  show (useM s i.attrs i.b dare).2 = true ∧ (useM s i.attrs i.b dare).1.dare = dare ∧ _
  exact ⟨by rw [hi.hon.use_ok hd], ed, rfl⟩
end
end Go.Proofs
set_option linter.unusedVariables false
set_option maxRecDepth 100000
namespace Go.Proofs
open Go.Sh
def sh_3_t1 (v8_7 : Value) (p18_113 : Value) (p21_148 : Value) (v46_16 : Value) (a2 : Value) (p22_149 : Value) (p13_39 : Value) (p15_73 : Value) (l_19 : List Value) (l_94 : List Value) (a1 : Value) (J_92 : List Value → World → Prop) (p20_115 : Value) (m_93 : List Value → World → Nat) (w0_l_94 : World) (K : Value → World → Prop) (w : World) : Prop :=
 oM Tryz.prog (.load 32 (.tmp 0)) 32 [v8_7] (fun v125_166 w =>
 oM Tryz.prog (.fieldAddr 39 (.tmp 0) 0) 0 [p18_113] (fun v127_167 w =>
 oM Tryz.prog (.load 22 (.tmp 0)) 22 [v127_167] (fun v128_168 w =>
 oM Tryz.prog (.fieldAddr 39 (.tmp 0) 1) 0 [p18_113] (fun v129_169 w =>
 oM Tryz.prog (.load 37 (.tmp 0)) 37 [v129_169] (fun v130_170 w =>
 oM Tryz.prog (.load 45 (.tmp 0)) 45 [p21_148] (fun v131_171 w =>
 callM Tryz.prog 17 #[v125_166, v46_16, v128_168, v130_170, v131_171] (fun v132_172 w =>
 oM Tryz.prog (.extract (.tmp 0) 0) 3 [v132_172] (fun v133_173 w =>
 oM Tryz.prog (.extract (.tmp 0) 1) 54 [v132_172] (fun v134_174 w =>
 oM Tryz.prog (.load 32 (.tmp 0)) 32 [v8_7] (fun v136_175 w =>
 oM Tryz.prog (.fieldAddr 39 (.tmp 0) 0) 0 [p18_113] (fun v138_176 w =>
 oM Tryz.prog (.load 22 (.tmp 0)) 22 [v138_176] (fun v139_177 w =>
 oM Tryz.prog (.fieldAddr 39 (.tmp 0) 1) 0 [p18_113] (fun v140_178 w =>
 oM Tryz.prog (.load 37 (.tmp 0)) 37 [v140_178] (fun v141_179 w =>
 oM Tryz.prog (.load 45 (.tmp 0)) 45 [p21_148] (fun v142_180 w =>
 oM Tryz.prog (.fieldAddr 39 (.tmp 0) 3) 0 [p18_113] (fun v143_181 w =>
 oM Tryz.prog (.load 3 (.tmp 0)) 3 [v143_181] (fun v144_182 w =>
 callM Tryz.prog 18 #[v136_175, v46_16, v139_177, v141_179, v142_180, v144_182] (fun v145_183 w =>
 oM Tryz.prog (.extract (.tmp 0) 0) 41 [v145_183] (fun v146_184 w =>
 oM Tryz.prog (.extract (.tmp 0) 1) 54 [v145_183] (fun v147_185 w =>
 oM Tryz.prog (.alloc 41) 0 [] (fun v25_186 w =>
 oM Tryz.prog (.store 41 (.tmp 0) (.tmp 1)) 0 [v25_186, v146_184] (fun _ w =>
 oM Tryz.prog (.load 32 (.tmp 0)) 32 [v8_7] (fun v149_187 w =>
 oM Tryz.prog (.fieldAddr 39 (.tmp 0) 0) 0 [p18_113] (fun v150_188 w =>
 oM Tryz.prog (.load 22 (.tmp 0)) 22 [v150_188] (fun v151_189 w =>
 oM Tryz.prog (.load 45 (.tmp 0)) 45 [p21_148] (fun v152_190 w =>
 callM Tryz.prog 15 #[v149_187, v151_189, v152_190, a2] (fun v154_191 w =>
 oM Tryz.prog (.extract (.tmp 0) 0) 49 [v154_191] (fun v155_192 w =>
 oM Tryz.prog (.extract (.tmp 0) 1) 4 [v154_191] (fun v156_193 w =>
 oM Tryz.prog (.alloc 49) 0 [] (fun v27_194 w =>
 oM Tryz.prog (.store 49 (.tmp 0) (.tmp 1)) 0 [v27_194, v155_192] (fun _ w =>
 oM Tryz.prog (.unOp .not 4 (.tmp 0)) 4 [p22_149] (fun v158_195 w =>
 gdM (gd v158_195 false) (pureM v134_174) (fun v160_196 w =>
 gdM (gd v158_195 false) (oM Tryz.prog (.binOp .neq 54 (.tmp 0) (.const (.int .i64 0)) 54) 4 [v160_196]) (fun v161_197 w =>
 oM Tryz.prog (.pick (.tmp 0) (.tmp 1) (.tmp 2)) 4 [v158_195, (.bool true), v161_197] (fun v162_198 w =>
 gdM (gd v162_198 false) (pureM v147_185) (fun v164_199 w =>
 gdM (gd v162_198 false) (oM Tryz.prog (.binOp .neq 54 (.tmp 0) (.const (.int .i64 0)) 54) 4 [v164_199]) (fun v165_200 w =>
 oM Tryz.prog (.pick (.tmp 0) (.tmp 1) (.tmp 2)) 4 [v162_198, (.bool true), v165_200] (fun v166_201 w =>
 gdM (gd v166_201 false) (pureM v156_193) (fun v168_202 w =>
 gdM (gd v166_201 false) (oM Tryz.prog (.unOp .not 4 (.tmp 0)) 4 [v168_202]) (fun v169_203 w =>
 oM Tryz.prog (.pick (.tmp 0) (.tmp 1) (.tmp 2)) 4 [v166_201, (.bool true), v169_203] (fun v170_204 w =>
 gdM (gd v170_204 false) (pureM v133_173) (fun v172_205 w =>
 gdM (gd v170_204 false) (oM Tryz.prog (.fieldAddr 39 (.tmp 0) 2) 0 [p18_113]) (fun v173_206 w =>
 gdM (gd v170_204 false) (oM Tryz.prog (.load 3 (.tmp 0)) 3 [v173_206]) (fun v174_207 w =>
 gdM (gd v170_204 false) (oM Tryz.prog (.binOp .neq 3 (.tmp 0) (.tmp 1) 3) 4 [v172_205, v174_207]) (fun v175_208 w =>
 oM Tryz.prog (.pick (.tmp 0) (.tmp 1) (.tmp 2)) 4 [v170_204, (.bool true), v175_208] (fun v176_209 w =>
 gdM (gd v176_209 false) (oM Tryz.prog (.load 41 (.tmp 0)) 41 [v25_186]) (fun v178_210 w =>
 gdM (gd v176_209 false) (oM Tryz.prog (.load 41 (.tmp 0)) 41 [p13_39]) (fun v179_211 w =>
 gdM (gd v176_209 false) (oM Tryz.prog (.binOp .neq 41 (.tmp 0) (.tmp 1) 41) 4 [v178_210, v179_211]) (fun v180_212 w =>
 oM Tryz.prog (.pick (.tmp 0) (.tmp 1) (.tmp 2)) 4 [v176_209, (.bool true), v180_212] (fun v181_213 w =>
 gdM (gd v181_213 false) (oM Tryz.prog (.load 49 (.tmp 0)) 49 [p15_73]) (fun v183_214 w =>
 gdM (gd v181_213 false) (oM Tryz.prog (.load 49 (.tmp 0)) 49 [v27_194]) (fun v184_215 w =>
 gdM (gd v181_213 false) (callM Tryz.prog 19 #[v183_214, v184_215]) (fun v185_216 w =>
 gdM (gd v181_213 false) (oM Tryz.prog (.unOp .not 4 (.tmp 0)) 4 [v185_216]) (fun v186_217 w =>
 oM Tryz.prog (.pick (.tmp 0) (.tmp 1) (.tmp 2)) 4 [v181_213, (.bool true), v186_217] (fun v187_218 w =>
 condM v187_218
 (K (.bool false) w)
 (heldM w (fun C_219 w => (((true : Bool) = true) ∧ (pureH (l_19.getD 10 undef) C_219 (fun v188_220 =>
 pureH (l_94.getD 7 undef) C_219 (fun v189_221 =>
 oH Tryz.prog (.binOp .eql 3 (.tmp 0) (.tmp 1) 3) 4 [v188_220, v189_221] C_219 (fun v190_222 =>
 pureH v190_222 C_219 (fun v191_223 =>
 gdH (gd v191_223 true) (oH Tryz.prog (.load 45 (.tmp 0)) 45 [p21_148]) C_219 (fun v192_224 =>
 gdH (gd v191_223 true) (pureH a1) C_219 (fun v193_225 =>
 gdH (gd v191_223 true) (pureH (l_19.getD 10 undef)) C_219 (fun v194_226 =>
 gdH (gd v191_223 true) (oH Tryz.prog (.indexAddr 27 (.tmp 0) (.tmp 1)) 0 [v193_225, v194_226]) C_219 (fun v195_227 =>
 gdH (gd v191_223 true) (oH Tryz.prog (.fieldAddr 47 (.tmp 0) 2) 0 [v195_227]) C_219 (fun v196_228 =>
 gdH (gd v191_223 true) (oH Tryz.prog (.load 45 (.tmp 0)) 45 [v196_228]) C_219 (fun v197_229 =>
 ∃ S_230 : World → World → Prop, ∀ w, C_219 w → (
 gdM (gd v191_223 true) (callM Tryz.prog 20 #[v192_224, v197_229]) (fun v198_231 w =>
 gdM (gd v191_223 true) (oM Tryz.prog (.unOp .not 4 (.tmp 0)) 4 [v198_231]) (fun v199_232 w =>
 oM Tryz.prog (.pick (.tmp 0) (.tmp 1) (.tmp 2)) 4 [v191_223, v199_232, (.bool false)] (fun v200_233 w =>
 condM v200_233
 (K (.bool false) w)
 (oM Tryz.prog (.binOp .add 3 (.tmp 0) (.tmp 1) 3) 3 [(l_94.getD 7 undef), (.int .i64 1)] (fun v92_234 w =>
 J_92 [p20_115, (l_94.getD 1 undef), p22_149, v133_173, v134_174, v147_185, v156_193, v92_234] w ∧ m_93 [p20_115, (l_94.getD 1 undef), p22_149, v133_173, v134_174, v147_185, v156_193, v92_234] w < m_93 l_94 w0_l_94) w)) w) w) w)))))))))))))))) w) w) w) w) w) w) w) w) w) w) w) w) w) w) w) w) w) w) w) w) w) w) w) w) w) w) w) w) w) w) w) w) w) w) w) w) w) w) w) w) w) w) w) w) w) w) w) w) w) w) w) w) w) w) w
def sh_3_t2 (p20_115 : Value) (v29_2 : Value) (v8_7 : Value) (v3_1 : Value) (v46_16 : Value) (p12_38 : Value) (a1 : Value) (l_19 : List Value) (p18_113 : Value) (a2 : Value) (p13_39 : Value) (p15_73 : Value) (l_94 : List Value) (J_92 : List Value → World → Prop) (m_93 : List Value → World → Nat) (w0_l_94 : World) (K : Value → World → Prop) (w : World) : Prop :=
 oM Tryz.prog (.unOp .not 4 (.tmp 0)) 4 [p20_115] (fun v106_128 w =>
 condM v106_128
 (K v29_2 w)
 (heldM w (fun C_129 w => (oH Tryz.prog (.load 32 (.tmp 0)) 32 [v8_7] C_129 (fun v109_130 =>
 oH Tryz.prog (.fieldAddr 26 (.tmp 0) 1) 0 [v3_1] C_129 (fun v110_131 =>
 oH Tryz.prog (.load 24 (.tmp 0)) 24 [v110_131] C_129 (fun v111_132 =>
 pureH v46_16 C_129 (fun v112_133 =>
 oH Tryz.prog (.load 39 (.tmp 0)) 39 [p12_38] C_129 (fun v113_134 =>
 pureH a1 C_129 (fun v114_135 =>
 pureH (l_19.getD 10 undef) C_129 (fun v115_136 =>
 oH Tryz.prog (.indexAddr 27 (.tmp 0) (.tmp 1)) 0 [v114_135, v115_136] C_129 (fun v116_137 =>
 oH Tryz.prog (.fieldAddr 47 (.tmp 0) 2) 0 [v116_137] C_129 (fun v117_138 =>
 oH Tryz.prog (.load 45 (.tmp 0)) 45 [v117_138] C_129 (fun v118_139 =>
 oH Tryz.prog (.load 39 (.tmp 0)) 39 [p18_113] C_129 (fun v119_140 =>
 pureH a2 C_129 (fun v120_141 =>
 (callM Tryz.prog 16 #[v109_130, v111_132, v112_133, v113_134, v118_139, v119_140, v120_141] (fun v121_142 w => C_129 w ∧ (
 pureH v121_142 C_129 (fun v108_143 =>
 oH Tryz.prog (.extract (.tmp 0) 0) 45 [v108_143] C_129 (fun v122_144 =>
 oH Tryz.prog (.extract (.tmp 0) 1) 4 [v108_143] C_129 (fun v123_145 =>
 oM Tryz.prog (.alloc 45) 0 [] (fun v21_146 w => C_129 w ∧ (
 oM Tryz.prog (.store 45 (.tmp 0) (.tmp 1)) 0 [v21_146, v122_144] (fun _ w => C_129 w ∧ (
 C_129 w ∧ (sh_3_t1 v8_7 p18_113 (v21_146) v46_16 a2 (v123_145) p13_39 p15_73 l_19 l_94 a1 J_92 p20_115 m_93 w0_l_94 K w))) w)) w))))) w) ∧
 (oM Tryz.prog (.alloc 45) 0 [] (fun v21_235 w => C_129 w ∧ (
 callM Tryz.prog 16 #[v109_130, v111_132, v112_133, v113_134, v118_139, v119_140, v120_141] (fun v121_236 w => C_129 w ∧ (
 pureH v121_236 C_129 (fun v108_237 =>
 oH Tryz.prog (.extract (.tmp 0) 0) 45 [v108_237] C_129 (fun v122_238 =>
 oH Tryz.prog (.extract (.tmp 0) 1) 4 [v108_237] C_129 (fun v123_239 =>
 oM Tryz.prog (.store 45 (.tmp 0) (.tmp 1)) 0 [v21_235, v122_238] (fun _ w => C_129 w ∧ (
 C_129 w ∧ (sh_3_t1 v8_7 p18_113 (v21_235) v46_16 a2 (v123_239) p13_39 p15_73 l_19 l_94 a1 J_92 p20_115 m_93 w0_l_94 K w))) w))))) w)) w))))))))))))))))) w
def sh_3_t3 (p16_74 : Value) (v29_2 : Value) (l_19 : List Value) (a1 : Value) (v8_7 : Value) (v3_1 : Value) (v46_16 : Value) (p12_38 : Value) (a2 : Value) (p13_39 : Value) (p15_73 : Value) (J_17 : List Value → World → Prop) (p14_40 : Value) (m_18 : List Value → World → Nat) (w0_l_19 : World) (K : Value → World → Prop) (w : World) : Prop :=
 oM Tryz.prog (.unOp .not 4 (.tmp 0)) 4 [p16_74] (fun v85_91 w =>
 condM v85_91
 (K v29_2 w)
 (loopM [(l_19.getD 4 undef), (l_19.getD 1 undef), (l_19.getD 5 undef), (l_19.getD 6 undef), (l_19.getD 7 undef), (l_19.getD 8 undef), (l_19.getD 9 undef), (.int .i64 0)] w (fun J_92 m_93 l_94 u_l_94 w0_l_94 => (fun w => (
 oM Tryz.prog (.call (Go.Call.mk (.builtin .len) #[(.tmp 0)] #[27])) 3 [a1] (fun v89_95 w =>
 oM Tryz.prog (.binOp .lss 3 (.tmp 0) (.tmp 1) 3) 4 [(l_94.getD 7 undef), v89_95] (fun v90_96 w =>
 condM v90_96
 (heldM w (fun C_97 w => (oH Tryz.prog (.load 32 (.tmp 0)) 32 [v8_7] C_97 (fun v94_98 =>
 oH Tryz.prog (.fieldAddr 26 (.tmp 0) 2) 0 [v3_1] C_97 (fun v95_99 =>
 oH Tryz.prog (.load 3 (.tmp 0)) 3 [v95_99] C_97 (fun v96_100 =>
 pureH a1 C_97 (fun v97_101 =>
 pureH (l_94.getD 7 undef) C_97 (fun v98_102 =>
 oH Tryz.prog (.indexAddr 27 (.tmp 0) (.tmp 1)) 0 [v97_101, v98_102] C_97 (fun v99_103 =>
 oH Tryz.prog (.load 47 (.tmp 0)) 47 [v99_103] C_97 (fun v100_104 =>
 (callM Tryz.prog 14 #[v94_98, v96_100, v100_104] (fun v101_105 w => C_97 w ∧ (
 pureH v101_105 C_97 (fun v93_106 =>
 oH Tryz.prog (.extract (.tmp 0) 0) 39 [v93_106] C_97 (fun v102_107 =>
 oH Tryz.prog (.extract (.tmp 0) 1) 41 [v93_106] C_97 (fun v103_108 =>
 oH Tryz.prog (.extract (.tmp 0) 2) 4 [v93_106] C_97 (fun v104_109 =>
 (oM Tryz.prog (.alloc 39) 0 [] (fun v18_110 w => C_97 w ∧ (
 oM Tryz.prog (.alloc 41) 0 [] (fun v19_111 w => C_97 w ∧ (
 oM Tryz.prog (.store 39 (.tmp 0) (.tmp 1)) 0 [v18_110, v102_107] (fun _ w => C_97 w ∧ (
 oM Tryz.prog (.store 41 (.tmp 0) (.tmp 1)) 0 [v19_111, v103_108] (fun _ w => C_97 w ∧ (
 C_97 w ∧ (sh_3_t2 (v104_109) v29_2 v8_7 v3_1 v46_16 p12_38 a1 l_19 (v18_110) a2 p13_39 p15_73 l_94 J_92 m_93 w0_l_94 K w))) w)) w)) w)) w) ∧
 (oM Tryz.prog (.alloc 41) 0 [] (fun v19_241 w => C_97 w ∧ (
 oM Tryz.prog (.alloc 39) 0 [] (fun v18_242 w => C_97 w ∧ (
 oM Tryz.prog (.store 39 (.tmp 0) (.tmp 1)) 0 [v18_242, v102_107] (fun _ w => C_97 w ∧ (
 oM Tryz.prog (.store 41 (.tmp 0) (.tmp 1)) 0 [v19_241, v103_108] (fun _ w => C_97 w ∧ (
 C_97 w ∧ (sh_3_t2 (v104_109) v29_2 v8_7 v3_1 v46_16 p12_38 a1 l_19 (v18_242) a2 p13_39 p15_73 l_94 J_92 m_93 w0_l_94 K w))) w)) w)) w)) w))))))) w) ∧
 (oM Tryz.prog (.alloc 39) 0 [] (fun v18_244 w => C_97 w ∧ (
 (callM Tryz.prog 14 #[v94_98, v96_100, v100_104] (fun v101_245 w => C_97 w ∧ (
 pureH v101_245 C_97 (fun v93_246 =>
 oH Tryz.prog (.extract (.tmp 0) 0) 39 [v93_246] C_97 (fun v102_247 =>
 oH Tryz.prog (.extract (.tmp 0) 1) 41 [v93_246] C_97 (fun v103_248 =>
 oH Tryz.prog (.extract (.tmp 0) 2) 4 [v93_246] C_97 (fun v104_249 =>
 oM Tryz.prog (.alloc 41) 0 [] (fun v19_250 w => C_97 w ∧ (
 oM Tryz.prog (.store 39 (.tmp 0) (.tmp 1)) 0 [v18_244, v102_247] (fun _ w => C_97 w ∧ (
 oM Tryz.prog (.store 41 (.tmp 0) (.tmp 1)) 0 [v19_250, v103_248] (fun _ w => C_97 w ∧ (
 C_97 w ∧ (sh_3_t2 (v104_249) v29_2 v8_7 v3_1 v46_16 p12_38 a1 l_19 (v18_244) a2 p13_39 p15_73 l_94 J_92 m_93 w0_l_94 K w))) w)) w)) w)))))) w) ∧
 (oM Tryz.prog (.alloc 41) 0 [] (fun v19_252 w => C_97 w ∧ (
 callM Tryz.prog 14 #[v94_98, v96_100, v100_104] (fun v101_253 w => C_97 w ∧ (
 pureH v101_253 C_97 (fun v93_254 =>
 oH Tryz.prog (.extract (.tmp 0) 0) 39 [v93_254] C_97 (fun v102_255 =>
 oH Tryz.prog (.extract (.tmp 0) 1) 41 [v93_254] C_97 (fun v103_256 =>
 oH Tryz.prog (.extract (.tmp 0) 2) 4 [v93_254] C_97 (fun v104_257 =>
 oM Tryz.prog (.store 39 (.tmp 0) (.tmp 1)) 0 [v18_244, v102_255] (fun _ w => C_97 w ∧ (
 oM Tryz.prog (.store 41 (.tmp 0) (.tmp 1)) 0 [v19_252, v103_256] (fun _ w => C_97 w ∧ (
 C_97 w ∧ (sh_3_t2 (v104_257) v29_2 v8_7 v3_1 v46_16 p12_38 a1 l_19 (v18_244) a2 p13_39 p15_73 l_94 J_92 m_93 w0_l_94 K w))) w)) w)))))) w)) w))) w) ∧
 (oM Tryz.prog (.alloc 41) 0 [] (fun v19_259 w => C_97 w ∧ (
 (callM Tryz.prog 14 #[v94_98, v96_100, v100_104] (fun v101_260 w => C_97 w ∧ (
 pureH v101_260 C_97 (fun v93_261 =>
 oH Tryz.prog (.extract (.tmp 0) 0) 39 [v93_261] C_97 (fun v102_262 =>
 oH Tryz.prog (.extract (.tmp 0) 1) 41 [v93_261] C_97 (fun v103_263 =>
 oH Tryz.prog (.extract (.tmp 0) 2) 4 [v93_261] C_97 (fun v104_264 =>
 oM Tryz.prog (.alloc 39) 0 [] (fun v18_265 w => C_97 w ∧ (
 oM Tryz.prog (.store 39 (.tmp 0) (.tmp 1)) 0 [v18_265, v102_262] (fun _ w => C_97 w ∧ (
 oM Tryz.prog (.store 41 (.tmp 0) (.tmp 1)) 0 [v19_259, v103_263] (fun _ w => C_97 w ∧ (
 C_97 w ∧ (sh_3_t2 (v104_264) v29_2 v8_7 v3_1 v46_16 p12_38 a1 l_19 (v18_265) a2 p13_39 p15_73 l_94 J_92 m_93 w0_l_94 K w))) w)) w)) w)))))) w) ∧
 (oM Tryz.prog (.alloc 39) 0 [] (fun v18_267 w => C_97 w ∧ (
 callM Tryz.prog 14 #[v94_98, v96_100, v100_104] (fun v101_268 w => C_97 w ∧ (
 pureH v101_268 C_97 (fun v93_269 =>
 oH Tryz.prog (.extract (.tmp 0) 0) 39 [v93_269] C_97 (fun v102_270 =>
 oH Tryz.prog (.extract (.tmp 0) 1) 41 [v93_269] C_97 (fun v103_271 =>
 oH Tryz.prog (.extract (.tmp 0) 2) 4 [v93_269] C_97 (fun v104_272 =>
 oM Tryz.prog (.store 39 (.tmp 0) (.tmp 1)) 0 [v18_267, v102_270] (fun _ w => C_97 w ∧ (
 oM Tryz.prog (.store 41 (.tmp 0) (.tmp 1)) 0 [v19_259, v103_271] (fun _ w => C_97 w ∧ (
 C_97 w ∧ (sh_3_t2 (v104_272) v29_2 v8_7 v3_1 v46_16 p12_38 a1 l_19 (v18_267) a2 p13_39 p15_73 l_94 J_92 m_93 w0_l_94 K w))) w)) w)))))) w)) w))) w)))))))))))
 (oM Tryz.prog (.binOp .add 3 (.tmp 0) (.tmp 1) 3) 3 [(l_19.getD 10 undef), (.int .i64 1)] (fun v52_274 w =>
 J_17 [p14_40, (l_94.getD 1 undef), p16_74, (l_94.getD 7 undef), (l_94.getD 0 undef), (l_94.getD 2 undef), (l_94.getD 3 undef), (l_94.getD 4 undef), (l_94.getD 5 undef), (l_94.getD 6 undef), v52_274] w ∧ m_18 [p14_40, (l_94.getD 1 undef), p16_74, (l_94.getD 7 undef), (l_94.getD 0 undef), (l_94.getD 2 undef), (l_94.getD 3 undef), (l_94.getD 4 undef), (l_94.getD 5 undef), (l_94.getD 6 undef), v52_274] w < m_18 l_19 w0_l_19) w)) w) w)) w0_l_94))) w
def sh_3_t4 (p14_40 : Value) (v29_2 : Value) (v8_7 : Value) (a1 : Value) (l_19 : List Value) (a2 : Value) (v3_1 : Value) (v46_16 : Value) (p12_38 : Value) (p13_39 : Value) (J_17 : List Value → World → Prop) (m_18 : List Value → World → Nat) (w0_l_19 : World) (K : Value → World → Prop) (w : World) : Prop :=
 oM Tryz.prog (.unOp .not 4 (.tmp 0)) 4 [p14_40] (fun v66_53 w =>
 condM v66_53
 (K v29_2 w)
 (heldM w (fun C_54 w => (oH Tryz.prog (.load 32 (.tmp 0)) 32 [v8_7] C_54 (fun v69_55 =>
 pureH a1 C_54 (fun v70_56 =>
 pureH (l_19.getD 10 undef) C_54 (fun v71_57 =>
 oH Tryz.prog (.indexAddr 27 (.tmp 0) (.tmp 1)) 0 [v70_56, v71_57] C_54 (fun v72_58 =>
 oH Tryz.prog (.fieldAddr 47 (.tmp 0) 1) 0 [v72_58] C_54 (fun v73_59 =>
 oH Tryz.prog (.load 22 (.tmp 0)) 22 [v73_59] C_54 (fun v74_60 =>
 pureH a1 C_54 (fun v75_61 =>
 pureH (l_19.getD 10 undef) C_54 (fun v76_62 =>
 oH Tryz.prog (.indexAddr 27 (.tmp 0) (.tmp 1)) 0 [v75_61, v76_62] C_54 (fun v77_63 =>
 oH Tryz.prog (.fieldAddr 47 (.tmp 0) 2) 0 [v77_63] C_54 (fun v78_64 =>
 oH Tryz.prog (.load 45 (.tmp 0)) 45 [v78_64] C_54 (fun v79_65 =>
 pureH a2 C_54 (fun v80_66 =>
 (callM Tryz.prog 15 #[v69_55, v74_60, v79_65, v80_66] (fun v81_67 w => C_54 w ∧ (
 pureH v81_67 C_54 (fun v68_68 =>
 oH Tryz.prog (.extract (.tmp 0) 0) 49 [v68_68] C_54 (fun v82_69 =>
 oH Tryz.prog (.extract (.tmp 0) 1) 4 [v68_68] C_54 (fun v83_70 =>
 oM Tryz.prog (.alloc 49) 0 [] (fun v15_71 w => C_54 w ∧ (
 oM Tryz.prog (.store 49 (.tmp 0) (.tmp 1)) 0 [v15_71, v82_69] (fun _ w => C_54 w ∧ (
 C_54 w ∧ (sh_3_t3 (v83_70) v29_2 l_19 a1 v8_7 v3_1 v46_16 p12_38 a2 p13_39 (v15_71) J_17 p14_40 m_18 w0_l_19 K w))) w)) w))))) w) ∧
 (oM Tryz.prog (.alloc 49) 0 [] (fun v15_275 w => C_54 w ∧ (
 callM Tryz.prog 15 #[v69_55, v74_60, v79_65, v80_66] (fun v81_276 w => C_54 w ∧ (
 pureH v81_276 C_54 (fun v68_277 =>
 oH Tryz.prog (.extract (.tmp 0) 0) 49 [v68_277] C_54 (fun v82_278 =>
 oH Tryz.prog (.extract (.tmp 0) 1) 4 [v68_277] C_54 (fun v83_279 =>
 oM Tryz.prog (.store 49 (.tmp 0) (.tmp 1)) 0 [v15_275, v82_278] (fun _ w => C_54 w ∧ (
 C_54 w ∧ (sh_3_t3 (v83_279) v29_2 l_19 a1 v8_7 v3_1 v46_16 p12_38 a2 p13_39 (v15_275) J_17 p14_40 m_18 w0_l_19 K w))) w))))) w)) w))))))))))))))))) w
def sh_3 (a0 : Value) (a1 : Value) (a2 : Value) (K : Value → World → Prop) (w : World) : Prop :=
 oM Tryz.prog (.box 26 (.tmp 0)) 0 [a0] (fun v3_1 w =>
 callM Tryz.prog 11 #[] (fun v29_2 w =>
 oM Tryz.prog (.load 26 (.tmp 0)) 26 [v3_1] (fun v31_3 w =>
 callM Tryz.prog 12 #[v31_3] (fun v32_4 w =>
 oM Tryz.prog (.extract (.tmp 0) 0) 32 [v32_4] (fun v33_5 w =>
 oM Tryz.prog (.extract (.tmp 0) 1) 4 [v32_4] (fun v34_6 w =>
 oM Tryz.prog (.alloc 32) 0 [] (fun v8_7 w =>
 oM Tryz.prog (.store 32 (.tmp 0) (.tmp 1)) 0 [v8_7, v33_5] (fun _ w =>
 oM Tryz.prog (.unOp .not 4 (.tmp 0)) 4 [v34_6] (fun v36_8 w =>
 gdM (gd v36_8 false) (pureM a1) (fun v38_9 w =>
 gdM (gd v36_8 false) (oM Tryz.prog (.call (Go.Call.mk (.builtin .len) #[(.tmp 0)] #[27])) 3 [v38_9]) (fun v39_10 w =>
 gdM (gd v36_8 false) (oM Tryz.prog (.binOp .gtr 3 (.tmp 0) (.tmp 1) 3) 4 [v39_10, (.int .i64 4)]) (fun v40_11 w =>
 oM Tryz.prog (.pick (.tmp 0) (.tmp 1) (.tmp 2)) 4 [v36_8, (.bool true), v40_11] (fun v41_12 w =>
 condM v41_12
 (K v29_2 w)
 (oM Tryz.prog (.load 32 (.tmp 0)) 32 [v8_7] (fun v43_13 w =>
 oM Tryz.prog (.fieldAddr 26 (.tmp 0) 2) 0 [v3_1] (fun v44_14 w =>
 oM Tryz.prog (.load 3 (.tmp 0)) 3 [v44_14] (fun v45_15 w =>
 callM Tryz.prog 13 #[v43_13, v45_15] (fun v46_16 w =>
 loopM [undef, (.bool false), undef, undef, undef, undef, undef, undef, undef, undef, (.int .i64 0)] w (fun J_17 m_18 l_19 u_l_19 w0_l_19 => (fun w => (
 oM Tryz.prog (.call (Go.Call.mk (.builtin .len) #[(.tmp 0)] #[27])) 3 [a1] (fun v49_20 w =>
 oM Tryz.prog (.binOp .lss 3 (.tmp 0) (.tmp 1) 3) 4 [(l_19.getD 10 undef), v49_20] (fun v50_21 w =>
 condM v50_21
 (heldM w (fun C_22 w => (oH Tryz.prog (.load 32 (.tmp 0)) 32 [v8_7] C_22 (fun v54_23 =>
 oH Tryz.prog (.fieldAddr 26 (.tmp 0) 2) 0 [v3_1] C_22 (fun v55_24 =>
 oH Tryz.prog (.load 3 (.tmp 0)) 3 [v55_24] C_22 (fun v56_25 =>
 pureH a1 C_22 (fun v57_26 =>
 pureH (l_19.getD 10 undef) C_22 (fun v58_27 =>
 oH Tryz.prog (.indexAddr 27 (.tmp 0) (.tmp 1)) 0 [v57_26, v58_27] C_22 (fun v59_28 =>
 oH Tryz.prog (.load 47 (.tmp 0)) 47 [v59_28] C_22 (fun v60_29 =>
 (callM Tryz.prog 14 #[v54_23, v56_25, v60_29] (fun v61_30 w => C_22 w ∧ (
 pureH v61_30 C_22 (fun v53_31 =>
 oH Tryz.prog (.extract (.tmp 0) 0) 39 [v53_31] C_22 (fun v62_32 =>
 oH Tryz.prog (.extract (.tmp 0) 1) 41 [v53_31] C_22 (fun v63_33 =>
 oH Tryz.prog (.extract (.tmp 0) 2) 4 [v53_31] C_22 (fun v64_34 =>
 (oM Tryz.prog (.alloc 39) 0 [] (fun v12_35 w => C_22 w ∧ (
 oM Tryz.prog (.alloc 41) 0 [] (fun v13_36 w => C_22 w ∧ (
 oM Tryz.prog (.store 39 (.tmp 0) (.tmp 1)) 0 [v12_35, v62_32] (fun _ w => C_22 w ∧ (
 oM Tryz.prog (.store 41 (.tmp 0) (.tmp 1)) 0 [v13_36, v63_33] (fun _ w => C_22 w ∧ (
 C_22 w ∧ (sh_3_t4 (v64_34) v29_2 v8_7 a1 l_19 a2 v3_1 v46_16 (v12_35) (v13_36) J_17 m_18 w0_l_19 K w))) w)) w)) w)) w) ∧
 (oM Tryz.prog (.alloc 41) 0 [] (fun v13_281 w => C_22 w ∧ (
 oM Tryz.prog (.alloc 39) 0 [] (fun v12_282 w => C_22 w ∧ (
 oM Tryz.prog (.store 39 (.tmp 0) (.tmp 1)) 0 [v12_282, v62_32] (fun _ w => C_22 w ∧ (
 oM Tryz.prog (.store 41 (.tmp 0) (.tmp 1)) 0 [v13_281, v63_33] (fun _ w => C_22 w ∧ (
 C_22 w ∧ (sh_3_t4 (v64_34) v29_2 v8_7 a1 l_19 a2 v3_1 v46_16 (v12_282) (v13_281) J_17 m_18 w0_l_19 K w))) w)) w)) w)) w))))))) w) ∧
 (oM Tryz.prog (.alloc 39) 0 [] (fun v12_284 w => C_22 w ∧ (
 (callM Tryz.prog 14 #[v54_23, v56_25, v60_29] (fun v61_285 w => C_22 w ∧ (
 pureH v61_285 C_22 (fun v53_286 =>
 oH Tryz.prog (.extract (.tmp 0) 0) 39 [v53_286] C_22 (fun v62_287 =>
 oH Tryz.prog (.extract (.tmp 0) 1) 41 [v53_286] C_22 (fun v63_288 =>
 oH Tryz.prog (.extract (.tmp 0) 2) 4 [v53_286] C_22 (fun v64_289 =>
 oM Tryz.prog (.alloc 41) 0 [] (fun v13_290 w => C_22 w ∧ (
 oM Tryz.prog (.store 39 (.tmp 0) (.tmp 1)) 0 [v12_284, v62_287] (fun _ w => C_22 w ∧ (
 oM Tryz.prog (.store 41 (.tmp 0) (.tmp 1)) 0 [v13_290, v63_288] (fun _ w => C_22 w ∧ (
 C_22 w ∧ (sh_3_t4 (v64_289) v29_2 v8_7 a1 l_19 a2 v3_1 v46_16 (v12_284) (v13_290) J_17 m_18 w0_l_19 K w))) w)) w)) w)))))) w) ∧
 (oM Tryz.prog (.alloc 41) 0 [] (fun v13_292 w => C_22 w ∧ (
 callM Tryz.prog 14 #[v54_23, v56_25, v60_29] (fun v61_293 w => C_22 w ∧ (
 pureH v61_293 C_22 (fun v53_294 =>
 oH Tryz.prog (.extract (.tmp 0) 0) 39 [v53_294] C_22 (fun v62_295 =>
 oH Tryz.prog (.extract (.tmp 0) 1) 41 [v53_294] C_22 (fun v63_296 =>
 oH Tryz.prog (.extract (.tmp 0) 2) 4 [v53_294] C_22 (fun v64_297 =>
 oM Tryz.prog (.store 39 (.tmp 0) (.tmp 1)) 0 [v12_284, v62_295] (fun _ w => C_22 w ∧ (
 oM Tryz.prog (.store 41 (.tmp 0) (.tmp 1)) 0 [v13_292, v63_296] (fun _ w => C_22 w ∧ (
 C_22 w ∧ (sh_3_t4 (v64_297) v29_2 v8_7 a1 l_19 a2 v3_1 v46_16 (v12_284) (v13_292) J_17 m_18 w0_l_19 K w))) w)) w)))))) w)) w))) w) ∧
 (oM Tryz.prog (.alloc 41) 0 [] (fun v13_299 w => C_22 w ∧ (
 (callM Tryz.prog 14 #[v54_23, v56_25, v60_29] (fun v61_300 w => C_22 w ∧ (
 pureH v61_300 C_22 (fun v53_301 =>
 oH Tryz.prog (.extract (.tmp 0) 0) 39 [v53_301] C_22 (fun v62_302 =>
 oH Tryz.prog (.extract (.tmp 0) 1) 41 [v53_301] C_22 (fun v63_303 =>
 oH Tryz.prog (.extract (.tmp 0) 2) 4 [v53_301] C_22 (fun v64_304 =>
 oM Tryz.prog (.alloc 39) 0 [] (fun v12_305 w => C_22 w ∧ (
 oM Tryz.prog (.store 39 (.tmp 0) (.tmp 1)) 0 [v12_305, v62_302] (fun _ w => C_22 w ∧ (
 oM Tryz.prog (.store 41 (.tmp 0) (.tmp 1)) 0 [v13_299, v63_303] (fun _ w => C_22 w ∧ (
 C_22 w ∧ (sh_3_t4 (v64_304) v29_2 v8_7 a1 l_19 a2 v3_1 v46_16 (v12_305) (v13_299) J_17 m_18 w0_l_19 K w))) w)) w)) w)))))) w) ∧
 (oM Tryz.prog (.alloc 39) 0 [] (fun v12_307 w => C_22 w ∧ (
 callM Tryz.prog 14 #[v54_23, v56_25, v60_29] (fun v61_308 w => C_22 w ∧ (
 pureH v61_308 C_22 (fun v53_309 =>
 oH Tryz.prog (.extract (.tmp 0) 0) 39 [v53_309] C_22 (fun v62_310 =>
 oH Tryz.prog (.extract (.tmp 0) 1) 41 [v53_309] C_22 (fun v63_311 =>
 oH Tryz.prog (.extract (.tmp 0) 2) 4 [v53_309] C_22 (fun v64_312 =>
 oM Tryz.prog (.store 39 (.tmp 0) (.tmp 1)) 0 [v12_307, v62_310] (fun _ w => C_22 w ∧ (
 oM Tryz.prog (.store 41 (.tmp 0) (.tmp 1)) 0 [v13_299, v63_311] (fun _ w => C_22 w ∧ (
 C_22 w ∧ (sh_3_t4 (v64_312) v29_2 v8_7 a1 l_19 a2 v3_1 v46_16 (v12_307) (v13_299) J_17 m_18 w0_l_19 K w))) w)) w)))))) w)) w))) w)))))))))))
 (K v29_2 w)) w) w)) w0_l_19)) w) w) w) w)) w) w) w) w) w) w) w) w) w) w) w) w) w
theorem sh_3_eq (a0 : Value) (a1 : Value) (a2 : Value) (K : Value → World → Prop) (w : World) : sh_3 a0 a1 a2 K w = code Tryz.prog (fun i => bif Nat.beq i 9 then .tree (.look 0 (.look 1 (.look 2 (.look 3 (.look 4 (.look 5 (.look 6 (.alt 7 (.look 8 (.look 9 (.look 10 (.look 11 (.alt 12 (.only 13 (.only 14 (.only 15 (.only 16 (.done))))) (.only 13 (.only 12 (.only 14 (.only 15 (.only 16 (.done))))))))))) (.alt 12 (.alt 7 (.look 8 (.look 9 (.look 10 (.look 11 (.only 13 (.only 14 (.only 15 (.only 16 (.done))))))))) (.only 13 (.only 7 (.look 8 (.look 9 (.look 10 (.look 11 (.only 14 (.only 15 (.only 16 (.done))))))))))) (.only 13 (.alt 7 (.look 8 (.look 9 (.look 10 (.look 11 (.only 12 (.only 14 (.only 15 (.only 16 (.done))))))))) (.only 12 (.only 7 (.look 8 (.look 9 (.look 10 (.look 11 (.only 14 (.only 15 (.only 16 (.done))))))))))))))))))))) else bif Nat.beq i 12 then .tree (.look 0 (.look 1 (.look 2 (.look 3 (.look 4 (.look 5 (.look 6 (.look 7 (.look 8 (.look 9 (.look 10 (.look 11 (.alt 12 (.look 13 (.look 14 (.look 15 (.only 16 (.only 17 (.only 18 (.done))))))) (.only 16 (.only 12 (.look 13 (.look 14 (.look 15 (.only 17 (.only 18 (.done))))))))))))))))))))) else bif Nat.beq i 18 then .tree (.look 0 (.look 1 (.look 2 (.look 3 (.look 4 (.look 5 (.look 6 (.alt 7 (.look 8 (.look 9 (.look 10 (.look 11 (.alt 12 (.only 13 (.only 14 (.only 15 (.only 16 (.done))))) (.only 13 (.only 12 (.only 14 (.only 15 (.only 16 (.done))))))))))) (.alt 12 (.alt 7 (.look 8 (.look 9 (.look 10 (.look 11 (.only 13 (.only 14 (.only 15 (.only 16 (.done))))))))) (.only 13 (.only 7 (.look 8 (.look 9 (.look 10 (.look 11 (.only 14 (.only 15 (.only 16 (.done))))))))))) (.only 13 (.alt 7 (.look 8 (.look 9 (.look 10 (.look 11 (.only 12 (.only 14 (.only 15 (.only 16 (.done))))))))) (.only 12 (.only 7 (.look 8 (.look 9 (.look 10 (.look 11 (.only 14 (.only 15 (.only 16 (.done))))))))))))))))))))) else bif Nat.beq i 21 then .tree (.look 0 (.look 1 (.look 2 (.look 3 (.look 4 (.look 5 (.look 6 (.look 7 (.look 8 (.look 9 (.look 10 (.look 11 (.alt 12 (.look 13 (.look 14 (.look 15 (.only 16 (.only 17 (.only 18 (.done))))))) (.only 16 (.only 12 (.look 13 (.look 14 (.look 15 (.only 17 (.only 18 (.done))))))))))))))))))))) else bif Nat.beq i 27 then .free [0, 1, 2, 3, 4, 5, 6, 7, 8, 9] [] [10, 11, 12] else 0) 202 (Tryz.f3.body.getD .skip) (slotsAt [a0, a1, a2]) (retK Tryz.prog [.tmp 6] K) w := by kernel_rfl
theorem sh_3_ok {a0 a1 a2 : Value} {K : Value → World → Prop} {w : World} (h : sh_3 a0 a1 a2 K w) : callM Tryz.prog 3 #[a0, a1, a2] K w :=
  calls_of_code (fun i => bif Nat.beq i 9 then .tree (.look 0 (.look 1 (.look 2 (.look 3 (.look 4 (.look 5 (.look 6 (.alt 7 (.look 8 (.look 9 (.look 10 (.look 11 (.alt 12 (.only 13 (.only 14 (.only 15 (.only 16 (.done))))) (.only 13 (.only 12 (.only 14 (.only 15 (.only 16 (.done))))))))))) (.alt 12 (.alt 7 (.look 8 (.look 9 (.look 10 (.look 11 (.only 13 (.only 14 (.only 15 (.only 16 (.done))))))))) (.only 13 (.only 7 (.look 8 (.look 9 (.look 10 (.look 11 (.only 14 (.only 15 (.only 16 (.done))))))))))) (.only 13 (.alt 7 (.look 8 (.look 9 (.look 10 (.look 11 (.only 12 (.only 14 (.only 15 (.only 16 (.done))))))))) (.only 12 (.only 7 (.look 8 (.look 9 (.look 10 (.look 11 (.only 14 (.only 15 (.only 16 (.done))))))))))))))))))))) else bif Nat.beq i 12 then .tree (.look 0 (.look 1 (.look 2 (.look 3 (.look 4 (.look 5 (.look 6 (.look 7 (.look 8 (.look 9 (.look 10 (.look 11 (.alt 12 (.look 13 (.look 14 (.look 15 (.only 16 (.only 17 (.only 18 (.done))))))) (.only 16 (.only 12 (.look 13 (.look 14 (.look 15 (.only 17 (.only 18 (.done))))))))))))))))))))) else bif Nat.beq i 18 then .tree (.look 0 (.look 1 (.look 2 (.look 3 (.look 4 (.look 5 (.look 6 (.alt 7 (.look 8 (.look 9 (.look 10 (.look 11 (.alt 12 (.only 13 (.only 14 (.only 15 (.only 16 (.done))))) (.only 13 (.only 12 (.only 14 (.only 15 (.only 16 (.done))))))))))) (.alt 12 (.alt 7 (.look 8 (.look 9 (.look 10 (.look 11 (.only 13 (.only 14 (.only 15 (.only 16 (.done))))))))) (.only 13 (.only 7 (.look 8 (.look 9 (.look 10 (.look 11 (.only 14 (.only 15 (.only 16 (.done))))))))))) (.only 13 (.alt 7 (.look 8 (.look 9 (.look 10 (.look 11 (.only 12 (.only 14 (.only 15 (.only 16 (.done))))))))) (.only 12 (.only 7 (.look 8 (.look 9 (.look 10 (.look 11 (.only 14 (.only 15 (.only 16 (.done))))))))))))))))))))) else bif Nat.beq i 21 then .tree (.look 0 (.look 1 (.look 2 (.look 3 (.look 4 (.look 5 (.look 6 (.look 7 (.look 8 (.look 9 (.look 10 (.look 11 (.alt 12 (.look 13 (.look 14 (.look 15 (.only 16 (.only 17 (.only 18 (.done))))))) (.only 16 (.only 12 (.look 13 (.look 14 (.look 15 (.only 17 (.only 18 (.done))))))))))))))))))))) else bif Nat.beq i 27 then .free [0, 1, 2, 3, 4, 5, 6, 7, 8, 9] [] [10, 11, 12] else 0) (fn := Tryz.f3) (rs := [.tmp 6]) Tryz.func3 rfl rfl (by kernel_rfl) (Nat.le_of_ble_eq_true rfl) ((sh_3_eq a0 a1 a2 K w).mp h)
end Go.Proofs
namespace Go.Proofs
open Go Go.Sh Go.RowKit FdSpec TkSpec CodeSpec
set_option linter.unusedSimpArgs false
set_option linter.unusedVariables false
set_option maxRecDepth 10000
section
variable {K : Value → World → Prop} {w w0 : World} {L : List (Addr × Value)}
theorem fin1 {R : World → Prop} {P : Program} {T T' : TypeId} {n g : Nat} {xs cur : List Value} {x : Value} {w1 : World} (hT : ∀ w, (sizeOf T).run P w = .ok n w) (hx : x.cells = xs.toArray) (hl : xs.length = n) (h1 : ∀ u ∈ xs, u.oneCell' = true)
    (hk : Kn w0 L w) (hb : Below w.heap.size w w1) (hg : w.heap.size ≤ g) (hh : Holds w1 g T cur) (hc : cur.length = n)
    (k : ∀ W, Kn w0 (cellsOf L g 0 xs) W → Kn w0 L W → Below w.heap.size w W → R W) :
    oM P (.store T (.tmp 0) (.tmp 1)) T' [ptr g 0, x] (fun _ w => Kn w0 L w ∧ (Kn w0 L w ∧ (R w))) w1 := by
  refine arr_store hT hx hl h1 hh hc (fun W1 hq1 hh1 => ?_)
  have hb := grown_below hb hq1 hg
  have hk := hk.next hb
  refine ⟨hk, hk, k W1 ⟨hk.below, ?_⟩ hk hb⟩
  exact cellsOf_are (xs := xs) hk.cells (fun i v hi => by
    obtain ⟨hl, rfl⟩ := List.getElem?_eq_some_iff.1 hi
    exact hh1.cell i hl) xs 0 rfl
theorem fin2 {R : World → Prop} {T1 T2 : TypeId} {g1 g2 : Nat} {c1 c2 : List Value} {w1 : World} (x : Ses) (ad : Option Addr) (n c : Nat) (t : Tkt) (hk : Kn w0 L w) (hb : Below w.heap.size w w1) (hg1 : w.heap.size ≤ g1) (hg2 : w.heap.size ≤ g2) (hne : g1 ≠ g2)
    (hh1 : Holds w1 g1 39 c1) (l1 : c1.length = 6) (hh2 : Holds w1 g2 41 c2) (l2 : c2.length = 6)
    (k : ∀ W, Kn w0 (cellsOf (cellsOf L g1 0 (sesC x (.slice ad n c))) g2 0 (tktC t)) W → Kn w0 L W → Below w.heap.size w W → R W) :
    oM Tryz.prog (.store 39 (.tmp 0) (.tmp 1)) T1 [ptr g1 0, sesV x (.slice ad n c)] (fun _ w => Kn w0 L w ∧ (
      oM Tryz.prog (.store 41 (.tmp 0) (.tmp 1)) T2 [ptr g2 0, tktV t] (fun _ w => Kn w0 L w ∧ (Kn w0 L w ∧ (R w))) w)) w1 := by
  refine arr_store sz_ses rfl rfl (ses_one x ad n c) hh1 l1 (fun W1 hq1 hh1 => ?_)
  have hb := grown_below hb hq1 hg1
  refine ⟨hk.next hb, ?_⟩
  refine arr_store sz_tkt rfl rfl (tkt_one t) (hh2.other hq1 (fun e => hne e.symm)) l2 (fun W2 hq2 hh2 => ?_)
  have hb := grown_below hb hq2 hg2
  have hh1 := hh1.other hq2 hne
  have hk := hk.next hb
  refine ⟨hk, hk, k W2 ⟨hk.below, ?_⟩ hk hb⟩
  have A := fun {vs : List Value} {g : Nat} {T : TypeId} {L : List (Addr × Value)} (h : Holds W2 g T vs) (hL : cellsAre W2 L) => cellsOf_are (xs := vs) hL (fun i v hi => by
    obtain ⟨hl, rfl⟩ := List.getElem?_eq_some_iff.1 hi
    exact h.cell i hl) vs 0 rfl
  exact A hh2 (A hh1 hk.cells)
theorem spd_fr {g : Nat} {w1 w2 : World} {x : Spd} {v : Value} (h : SpdR w1 x v) (hq : w1.grownBy w2 (some g)) (hne : ∀ i, Value.inBlock v = some i → i ≠ g) : SpdR w2 x v :=
  ⟨h.dare, ⟨h.answers.row.keep hq.size (fun i e hlt => hq.block i hlt (fun e2 => hne i e (Option.some.inj e2))), h.answers.rng, h.answers.len⟩⟩
theorem fin1k {R : World → Prop} {P : Program} {T T' : TypeId} {n g : Nat} {xs cur : List Value} {x : Value} {w1 : World} (hT : ∀ w, (sizeOf T).run P w = .ok n w) (hx : x.cells = xs.toArray) (hl : xs.length = n) (h1 : ∀ u ∈ xs, u.oneCell' = true)
    (hk : Kn w0 L w) (hb : Below w.heap.size w w1) (hg : w.heap.size ≤ g) (hh : Holds w1 g T cur) (hc : cur.length = n)
    (k : ∀ W, Kn w0 (cellsOf L g 0 xs) W → Kn w0 L W → Below w.heap.size w W → w1.grownBy W (some g) → R W) :
    oM P (.store T (.tmp 0) (.tmp 1)) T' [ptr g 0, x] (fun _ w => Kn w0 L w ∧ (Kn w0 L w ∧ (R w))) w1 := by
  refine arr_store hT hx hl h1 hh hc (fun W1 hq1 hh1 => ?_)
  have hb := grown_below hb hq1 hg
  have hk := hk.next hb
  refine ⟨hk, hk, k W1 ⟨hk.below, ?_⟩ hk hb hq1⟩
  exact cellsOf_are (xs := xs) hk.cells (fun i v hi => by
    obtain ⟨hl, rfl⟩ := List.getElem?_eq_some_iff.1 hi
    exact hh1.cell i hl) xs 0 rfl
theorem tree_use (s : Stp) (b : Bld) (dare : Int) {v bv lv : Value} {l : List Int} {R : Value → Value → World → Prop} (hd : I64 dare) (hs : SetR w s v) (hl : Ints w lv l) (hb : BldR w b bv) (hk : Kn w0 L w)
    (k : ∀ g W uad uc, Kn w0 (cellsOf L g 0 (spdC (useM s l b dare).1 (.slice uad (useM s l b dare).1.answers.length uc))) W → Below w.heap.size w W → SpdR W (useM s l b dare).1 (.slice uad (useM s l b dare).1.answers.length uc) → R (.bool (useM s l b dare).2) (ptr g 0) W) :
    (callM Tryz.prog 15 #[stpV s v, lv, bldV b bv, .int .i64 dare] (fun v81_67 w => Kn w0 L w ∧ (
 pureH v81_67 (Kn w0 L) (fun v68_68 =>
 oH Tryz.prog (Go.Op.extract (.tmp 0) 0) 49 [v68_68] (Kn w0 L) (fun v82_69 =>
 oH Tryz.prog (Go.Op.extract (.tmp 0) 1) 4 [v68_68] (Kn w0 L) (fun v83_70 =>
 oM Tryz.prog (Go.Op.alloc 49) 0 [] (fun v15_71 w => Kn w0 L w ∧ (
 oM Tryz.prog (Go.Op.store 49 (.tmp 0) (.tmp 1)) 0 [v15_71, v82_69] (fun _ w => Kn w0 L w ∧ (
 Kn w0 L w ∧ (R v83_70 v15_71 w))) w)) w))))) w) ∧
 (oM Tryz.prog (Go.Op.alloc 49) 0 [] (fun v15_275 w => Kn w0 L w ∧ (
 callM Tryz.prog 15 #[stpV s v, lv, bldV b bv, .int .i64 dare] (fun v81_276 w => Kn w0 L w ∧ (
 pureH v81_276 (Kn w0 L) (fun v68_277 =>
 oH Tryz.prog (Go.Op.extract (.tmp 0) 0) 49 [v68_277] (Kn w0 L) (fun v82_278 =>
 oH Tryz.prog (Go.Op.extract (.tmp 0) 1) 4 [v68_277] (Kn w0 L) (fun v83_279 =>
 oM Tryz.prog (Go.Op.store 49 (.tmp 0) (.tmp 1)) 0 [v15_275, v82_278] (fun _ w => Kn w0 L w ∧ (
 Kn w0 L w ∧ (R v83_279 v15_275 w))) w))))) w)) w) := by
  constructor
  · refine Use_okF s b dare hd hs hl hb (fun w1 uv h hu hf => ⟨hk.next h, ?_⟩)
    obtain ⟨uad, uc, rfl⟩ := hu.isSlice
    iterate 3 (any_goals (first
    | (with_reducible refine pureH_in ?_)
    | ((with_reducible refine idOH ?_); (with_reducible refine oH_of ⟨_, rfl⟩ (fun W0 hW0 => by (refine oM_gen (fun Kv hK => ?_)); simp [go_sem, hW0.cells]; (first | exact hK _ _ ⟨rfl, rfl⟩ | exact ⟨by omega, hK _ _ ⟨rfl, rfl⟩⟩)) ?_))))
    refine arr_alloc al_spd fun g w2 h2 hg hh => ⟨hk.next (h.on h2), ?_⟩
    refine fin1k sz_spd rfl rfl (spd_one _ uad _ uc) hk (h.on h2) (Nat.le_trans h.size hg) hh rfl (fun W hk2 _ hb hq => k g W uad uc hk2 hb ((spd_R hd hu).next (grown_below h2 hq hg)))
  · refine arr_alloc al_spd fun g w2 h2 hg hh => ⟨hk.next h2, ?_⟩
    refine Use_okF s b dare hd (hs.next h2) (hl.next h2) (hb.next h2) (fun w1 uv h hu hf => ⟨hk.next (h2.on h), ?_⟩)
    obtain ⟨uad, uc, rfl⟩ := hu.isSlice
    iterate 3 (any_goals (first
    | (with_reducible refine pureH_in ?_)
    | ((with_reducible refine idOH ?_); (with_reducible refine oH_of ⟨_, rfl⟩ (fun W0 hW0 => by (refine oM_gen (fun Kv hK => ?_)); simp [go_sem, hW0.cells]; (first | exact hK _ _ ⟨rfl, rfl⟩ | exact ⟨by omega, hK _ _ ⟨rfl, rfl⟩⟩)) ?_))))
    have hgl := hh.lt
    refine fin1k sz_spd rfl rfl (spd_one _ uad _ uc) hk (h2.on h) hg (hh.next h) rfl (fun W hk2 _ hb hq => k g W uad uc hk2 hb (spd_fr (spd_R hd hu) hq (fun i e => ?_)))
    have := hf i e
    omega
theorem bld_fr {g : Nat} {w1 w2 : World} {x : Bld} {v : Value} (h : BldR w1 x v) (hq : w1.grownBy w2 (some g)) (hne : ∀ i, Value.inBlock v = some i → i ≠ g) : BldR w2 x v :=
  ⟨h.s, h.u, h.v, ⟨h.ys.row.keep hq.size (fun i e hlt => hq.block i hlt (fun e2 => hne i e (Option.some.inj e2))), h.ys.rng, h.ys.len⟩⟩
theorem tree_exp (s : Stp) (m : Mir) (key dare : Int) (x : Ses) (b : Bld) (y : Ses) {v mv xv bv yv : Value} {R : Value → Value → World → Prop} (hkey : I64 key) (hd : I64 dare) (hs : SetR w s v) (hm : MirR w m mv) (hx : SesR w x xv) (hb : BldR w b bv) (hy : SesR w y yv) (hL : Cd.Laid w) (hk : Kn w0 L w)
    (k : ∀ g W uad uc, Kn w0 (cellsOf L g 0 (bldC (explainM s m key x b y dare).1 (.slice uad (explainM s m key x b y dare).1.ys.length uc))) W → Below w.heap.size w W → BldR W (explainM s m key x b y dare).1 (.slice uad (explainM s m key x b y dare).1.ys.length uc) → R (.bool (explainM s m key x b y dare).2) (ptr g 0) W) :
    (callM Tryz.prog 16 #[stpV s v, mirV m mv, .int .i64 key, sesV x xv, bldV b bv, sesV y yv, .int .i64 dare] (fun v121_142 w => Kn w0 L w ∧ (
 pureH v121_142 (Kn w0 L) (fun v108_143 =>
 oH Tryz.prog (Go.Op.extract (.tmp 0) 0) 45 [v108_143] (Kn w0 L) (fun v122_144 =>
 oH Tryz.prog (Go.Op.extract (.tmp 0) 1) 4 [v108_143] (Kn w0 L) (fun v123_145 =>
 oM Tryz.prog (Go.Op.alloc 45) 0 [] (fun v21_146 w => Kn w0 L w ∧ (
 oM Tryz.prog (Go.Op.store 45 (.tmp 0) (.tmp 1)) 0 [v21_146, v122_144] (fun _ w => Kn w0 L w ∧ (
 Kn w0 L w ∧ (R v123_145 v21_146 w))) w)) w))))) w) ∧
 (oM Tryz.prog (Go.Op.alloc 45) 0 [] (fun v21_235 w => Kn w0 L w ∧ (
 callM Tryz.prog 16 #[stpV s v, mirV m mv, .int .i64 key, sesV x xv, bldV b bv, sesV y yv, .int .i64 dare] (fun v121_236 w => Kn w0 L w ∧ (
 pureH v121_236 (Kn w0 L) (fun v108_237 =>
 oH Tryz.prog (Go.Op.extract (.tmp 0) 0) 45 [v108_237] (Kn w0 L) (fun v122_238 =>
 oH Tryz.prog (Go.Op.extract (.tmp 0) 1) 4 [v108_237] (Kn w0 L) (fun v123_239 =>
 oM Tryz.prog (Go.Op.store 45 (.tmp 0) (.tmp 1)) 0 [v21_235, v122_238] (fun _ w => Kn w0 L w ∧ (
 Kn w0 L w ∧ (R v123_239 v21_235 w))) w))))) w)) w) := by
  constructor
  · refine Explain_okF s m key dare x b y hkey hd hs hm hx hb hy hL (fun w1 uv h hu hf => ⟨hk.next h, ?_⟩)
    obtain ⟨uad, uc, rfl⟩ := hu.ys.isSlice
    iterate 3 (any_goals (first
    | (with_reducible refine pureH_in ?_)
    | ((with_reducible refine idOH ?_); (with_reducible refine oH_of ⟨_, rfl⟩ (fun W0 hW0 => by (refine oM_gen (fun Kv hK => ?_)); simp [go_sem, hW0.cells]; (first | exact hK _ _ ⟨rfl, rfl⟩ | exact ⟨by omega, hK _ _ ⟨rfl, rfl⟩⟩)) ?_))))
    refine arr_alloc al_bld fun g w2 h2 hg hh => ⟨hk.next (h.on h2), ?_⟩
    exact fin1k sz_bld rfl rfl (bld_one _ uad _ uc) hk (h.on h2) (Nat.le_trans h.size hg) hh rfl (fun W hk2 _ hb hq => k g W uad uc hk2 hb (hu.next (grown_below h2 hq hg)))
  · refine arr_alloc al_bld fun g w2 h2 hg hh => ⟨hk.next h2, ?_⟩
    refine Explain_okF s m key dare x b y hkey hd (hs.next h2) (hm.next h2) (hx.next h2) (hb.next h2) (hy.next h2) (hL.below h2 hL.size) (fun w1 uv h hu hf => ⟨hk.next (h2.on h), ?_⟩)
    obtain ⟨uad, uc, rfl⟩ := hu.ys.isSlice
    iterate 3 (any_goals (first
    | (with_reducible refine pureH_in ?_)
    | ((with_reducible refine idOH ?_); (with_reducible refine oH_of ⟨_, rfl⟩ (fun W0 hW0 => by (refine oM_gen (fun Kv hK => ?_)); simp [go_sem, hW0.cells]; (first | exact hK _ _ ⟨rfl, rfl⟩ | exact ⟨by omega, hK _ _ ⟨rfl, rfl⟩⟩)) ?_))))
    have hgl := hh.lt
    refine fin1k sz_bld rfl rfl (bld_one _ uad _ uc) hk (h2.on h) hg (hh.next h) rfl (fun W hk2 _ hb hq => k g W uad uc hk2 hb (bld_fr hu hq (fun i e => ?_)))
    have := hf i e
    omega
theorem tree_iss (s : Stp) (x : Int) (i : Isg) {v av yv : Value} {R : Value → Value → Value → World → Prop} (hx : I64 x) (hL : Cd.Laid w) (hs : SetR w s v) (hi : IsgR w i av yv) (hk : Kn w0 L w)
    (k : ∀ g1 g2 W xad xc, Kn w0 (cellsOf (cellsOf L g1 0 (sesC (tissM s x i).1 (.slice xad (tissM s x i).1.attrs.length xc))) g2 0 (tktC (tissM s x i).2.1)) W → Below w.heap.size w W → ((tissM s x i).2.2 = true → Value.slice xad (tissM s x i).1.attrs.length xc = av) → TktR (tissM s x i).2.1 → (tissM s x i).1.offer = (tissM s x i).1.offer → R (.bool (tissM s x i).2.2) (ptr g1 0) (ptr g2 0) W) :
    (callM Tryz.prog 14 #[stpV s v, .int .i64 x, isgV i av yv] (fun v61_30 w => Kn w0 L w ∧ (
 pureH v61_30 (Kn w0 L) (fun v53_31 =>
 oH Tryz.prog (Go.Op.extract (.tmp 0) 0) 39 [v53_31] (Kn w0 L) (fun v62_32 =>
 oH Tryz.prog (Go.Op.extract (.tmp 0) 1) 41 [v53_31] (Kn w0 L) (fun v63_33 =>
 oH Tryz.prog (Go.Op.extract (.tmp 0) 2) 4 [v53_31] (Kn w0 L) (fun v64_34 =>
 (oM Tryz.prog (Go.Op.alloc 39) 0 [] (fun v12_35 w => Kn w0 L w ∧ (
 oM Tryz.prog (Go.Op.alloc 41) 0 [] (fun v13_36 w => Kn w0 L w ∧ (
 oM Tryz.prog (Go.Op.store 39 (.tmp 0) (.tmp 1)) 0 [v12_35, v62_32] (fun _ w => Kn w0 L w ∧ (
 oM Tryz.prog (Go.Op.store 41 (.tmp 0) (.tmp 1)) 0 [v13_36, v63_33] (fun _ w => Kn w0 L w ∧ (
 Kn w0 L w ∧ (R v64_34 v12_35 v13_36 w))) w)) w)) w)) w) ∧
 (oM Tryz.prog (Go.Op.alloc 41) 0 [] (fun v13_281 w => Kn w0 L w ∧ (
 oM Tryz.prog (Go.Op.alloc 39) 0 [] (fun v12_282 w => Kn w0 L w ∧ (
 oM Tryz.prog (Go.Op.store 39 (.tmp 0) (.tmp 1)) 0 [v12_282, v62_32] (fun _ w => Kn w0 L w ∧ (
 oM Tryz.prog (Go.Op.store 41 (.tmp 0) (.tmp 1)) 0 [v13_281, v63_33] (fun _ w => Kn w0 L w ∧ (
 Kn w0 L w ∧ (R v64_34 v12_282 v13_281 w))) w)) w)) w)) w))))))) w) ∧
 (oM Tryz.prog (Go.Op.alloc 39) 0 [] (fun v12_284 w => Kn w0 L w ∧ (
 (callM Tryz.prog 14 #[stpV s v, .int .i64 x, isgV i av yv] (fun v61_285 w => Kn w0 L w ∧ (
 pureH v61_285 (Kn w0 L) (fun v53_286 =>
 oH Tryz.prog (Go.Op.extract (.tmp 0) 0) 39 [v53_286] (Kn w0 L) (fun v62_287 =>
 oH Tryz.prog (Go.Op.extract (.tmp 0) 1) 41 [v53_286] (Kn w0 L) (fun v63_288 =>
 oH Tryz.prog (Go.Op.extract (.tmp 0) 2) 4 [v53_286] (Kn w0 L) (fun v64_289 =>
 oM Tryz.prog (Go.Op.alloc 41) 0 [] (fun v13_290 w => Kn w0 L w ∧ (
 oM Tryz.prog (Go.Op.store 39 (.tmp 0) (.tmp 1)) 0 [v12_284, v62_287] (fun _ w => Kn w0 L w ∧ (
 oM Tryz.prog (Go.Op.store 41 (.tmp 0) (.tmp 1)) 0 [v13_290, v63_288] (fun _ w => Kn w0 L w ∧ (
 Kn w0 L w ∧ (R v64_289 v12_284 v13_290 w))) w)) w)) w)))))) w) ∧
 (oM Tryz.prog (Go.Op.alloc 41) 0 [] (fun v13_292 w => Kn w0 L w ∧ (
 callM Tryz.prog 14 #[stpV s v, .int .i64 x, isgV i av yv] (fun v61_293 w => Kn w0 L w ∧ (
 pureH v61_293 (Kn w0 L) (fun v53_294 =>
 oH Tryz.prog (Go.Op.extract (.tmp 0) 0) 39 [v53_294] (Kn w0 L) (fun v62_295 =>
 oH Tryz.prog (Go.Op.extract (.tmp 0) 1) 41 [v53_294] (Kn w0 L) (fun v63_296 =>
 oH Tryz.prog (Go.Op.extract (.tmp 0) 2) 4 [v53_294] (Kn w0 L) (fun v64_297 =>
 oM Tryz.prog (Go.Op.store 39 (.tmp 0) (.tmp 1)) 0 [v12_284, v62_295] (fun _ w => Kn w0 L w ∧ (
 oM Tryz.prog (Go.Op.store 41 (.tmp 0) (.tmp 1)) 0 [v13_292, v63_296] (fun _ w => Kn w0 L w ∧ (
 Kn w0 L w ∧ (R v64_297 v12_284 v13_292 w))) w)) w)))))) w)) w))) w) ∧
 (oM Tryz.prog (Go.Op.alloc 41) 0 [] (fun v13_299 w => Kn w0 L w ∧ (
 (callM Tryz.prog 14 #[stpV s v, .int .i64 x, isgV i av yv] (fun v61_300 w => Kn w0 L w ∧ (
 pureH v61_300 (Kn w0 L) (fun v53_301 =>
 oH Tryz.prog (Go.Op.extract (.tmp 0) 0) 39 [v53_301] (Kn w0 L) (fun v62_302 =>
 oH Tryz.prog (Go.Op.extract (.tmp 0) 1) 41 [v53_301] (Kn w0 L) (fun v63_303 =>
 oH Tryz.prog (Go.Op.extract (.tmp 0) 2) 4 [v53_301] (Kn w0 L) (fun v64_304 =>
 oM Tryz.prog (Go.Op.alloc 39) 0 [] (fun v12_305 w => Kn w0 L w ∧ (
 oM Tryz.prog (Go.Op.store 39 (.tmp 0) (.tmp 1)) 0 [v12_305, v62_302] (fun _ w => Kn w0 L w ∧ (
 oM Tryz.prog (Go.Op.store 41 (.tmp 0) (.tmp 1)) 0 [v13_299, v63_303] (fun _ w => Kn w0 L w ∧ (
 Kn w0 L w ∧ (R v64_304 v12_305 v13_299 w))) w)) w)) w)))))) w) ∧
 (oM Tryz.prog (Go.Op.alloc 39) 0 [] (fun v12_307 w => Kn w0 L w ∧ (
 callM Tryz.prog 14 #[stpV s v, .int .i64 x, isgV i av yv] (fun v61_308 w => Kn w0 L w ∧ (
 pureH v61_308 (Kn w0 L) (fun v53_309 =>
 oH Tryz.prog (Go.Op.extract (.tmp 0) 0) 39 [v53_309] (Kn w0 L) (fun v62_310 =>
 oH Tryz.prog (Go.Op.extract (.tmp 0) 1) 41 [v53_309] (Kn w0 L) (fun v63_311 =>
 oH Tryz.prog (Go.Op.extract (.tmp 0) 2) 4 [v53_309] (Kn w0 L) (fun v64_312 =>
 oM Tryz.prog (Go.Op.store 39 (.tmp 0) (.tmp 1)) 0 [v12_307, v62_310] (fun _ w => Kn w0 L w ∧ (
 oM Tryz.prog (Go.Op.store 41 (.tmp 0) (.tmp 1)) 0 [v13_299, v63_311] (fun _ w => Kn w0 L w ∧ (
 Kn w0 L w ∧ (R v64_312 v12_307 v13_299 w))) w)) w)))))) w)) w))) w) := by
  refine ⟨?_, ?_, ?_⟩
  · refine ticketIssued_ok s x i hx hL hs hi (fun w1 xv h hav hsx ht => ⟨hk.next h, ?_⟩)
    obtain ⟨xad, xc, rfl⟩ := hsx.attrs.isSlice
    iterate 4 (any_goals (first
    | (with_reducible refine pureH_in ?_)
    | ((with_reducible refine idOH ?_); (with_reducible refine oH_of ⟨_, rfl⟩ (fun W0 hW0 => by (refine oM_gen (fun Kv hK => ?_)); simp [go_sem, hW0.cells]; (first | exact hK _ _ ⟨rfl, rfl⟩ | exact ⟨by omega, hK _ _ ⟨rfl, rfl⟩⟩)) ?_))))
    constructor
    · refine arr_alloc al_ses fun g1 w2 h2 hg1 hh1 => ⟨hk.next (h.on h2), ?_⟩
      refine arr_alloc al_tkt fun g2 w3 h3 hg2 hh2 => ⟨hk.next ((h.on h2).on h3), ?_⟩
      have := hh1.lt
      have := h.size
      exact fin2 _ _ _ _ _ hk ((h.on h2).on h3) (by omega) (by omega) (by omega) (hh1.next h3) rfl hh2 rfl (fun W hk2 _ hb => k g1 g2 W xad xc hk2 hb hav ht rfl)
    · refine arr_alloc al_tkt fun g2 w2 h2 hg2 hh2 => ⟨hk.next (h.on h2), ?_⟩
      refine arr_alloc al_ses fun g1 w3 h3 hg1 hh1 => ⟨hk.next ((h.on h2).on h3), ?_⟩
      have := hh2.lt
      have := h.size
      exact fin2 _ _ _ _ _ hk ((h.on h2).on h3) (by omega) (by omega) (by omega) hh1 rfl (hh2.next h3) rfl (fun W hk2 _ hb => k g1 g2 W xad xc hk2 hb hav ht rfl)
  · refine arr_alloc al_ses fun g1 w2 h2 hg1 hh1 => ⟨hk.next h2, ?_⟩
    have hl1 := hh1.lt
    constructor
    · refine ticketIssued_ok s x i hx (hL.below h2 hL.size) (hs.next h2) (hi.next h2) (fun w1 xv h hav hsx ht => ⟨hk.next (h2.on h), ?_⟩)
      obtain ⟨xad, xc, rfl⟩ := hsx.attrs.isSlice
      iterate 4 (any_goals (first
      | (with_reducible refine pureH_in ?_)
      | ((with_reducible refine idOH ?_); (with_reducible refine oH_of ⟨_, rfl⟩ (fun W0 hW0 => by (refine oM_gen (fun Kv hK => ?_)); simp [go_sem, hW0.cells]; (first | exact hK _ _ ⟨rfl, rfl⟩ | exact ⟨by omega, hK _ _ ⟨rfl, rfl⟩⟩)) ?_))))
      refine arr_alloc al_tkt fun g2 w3 h3 hg2 hh2 => ⟨hk.next ((h2.on h).on h3), ?_⟩
      have := h.size
      have := h2.size
      exact fin2 _ _ _ _ _ hk ((h2.on h).on h3) (by omega) (by omega) (by omega) ((hh1.next h).next h3) rfl hh2 rfl (fun W hk2 _ hb => k g1 g2 W xad xc hk2 hb hav ht rfl)
    · refine arr_alloc al_tkt fun g2 w3 h3 hg2 hh2 => ⟨hk.next (h2.on h3), ?_⟩
      refine ticketIssued_ok s x i hx (hL.below (h2.on h3) hL.size) (hs.next (h2.on h3)) (hi.next (h2.on h3)) (fun w1 xv h hav hsx ht => ⟨hk.next ((h2.on h3).on h), ?_⟩)
      obtain ⟨xad, xc, rfl⟩ := hsx.attrs.isSlice
      iterate 4 (any_goals (first
      | (with_reducible refine pureH_in ?_)
      | ((with_reducible refine idOH ?_); (with_reducible refine oH_of ⟨_, rfl⟩ (fun W0 hW0 => by (refine oM_gen (fun Kv hK => ?_)); simp [go_sem, hW0.cells]; (first | exact hK _ _ ⟨rfl, rfl⟩ | exact ⟨by omega, hK _ _ ⟨rfl, rfl⟩⟩)) ?_))))
      have := h2.size
      exact fin2 _ _ _ _ _ hk ((h2.on h3).on h) (by omega) (by omega) (by omega) ((hh1.next h3).next h) rfl (hh2.next h) rfl (fun W hk2 _ hb => k g1 g2 W xad xc hk2 hb hav ht rfl)
  · refine arr_alloc al_tkt fun g2 w2 h2 hg2 hh2 => ⟨hk.next h2, ?_⟩
    have hl1 := hh2.lt
    constructor
    · refine ticketIssued_ok s x i hx (hL.below h2 hL.size) (hs.next h2) (hi.next h2) (fun w1 xv h hav hsx ht => ⟨hk.next (h2.on h), ?_⟩)
      obtain ⟨xad, xc, rfl⟩ := hsx.attrs.isSlice
      iterate 4 (any_goals (first
      | (with_reducible refine pureH_in ?_)
      | ((with_reducible refine idOH ?_); (with_reducible refine oH_of ⟨_, rfl⟩ (fun W0 hW0 => by (refine oM_gen (fun Kv hK => ?_)); simp [go_sem, hW0.cells]; (first | exact hK _ _ ⟨rfl, rfl⟩ | exact ⟨by omega, hK _ _ ⟨rfl, rfl⟩⟩)) ?_))))
      refine arr_alloc al_ses fun g1 w3 h3 hg1 hh1 => ⟨hk.next ((h2.on h).on h3), ?_⟩
      have := h.size
      have := h2.size
      exact fin2 _ _ _ _ _ hk ((h2.on h).on h3) (by omega) (by omega) (by omega) hh1 rfl ((hh2.next h).next h3) rfl (fun W hk2 _ hb => k g1 g2 W xad xc hk2 hb hav ht rfl)
    · refine arr_alloc al_ses fun g1 w3 h3 hg1 hh1 => ⟨hk.next (h2.on h3), ?_⟩
      refine ticketIssued_ok s x i hx (hL.below (h2.on h3) hL.size) (hs.next (h2.on h3)) (hi.next (h2.on h3)) (fun w1 xv h hav hsx ht => ⟨hk.next ((h2.on h3).on h), ?_⟩)
      obtain ⟨xad, xc, rfl⟩ := hsx.attrs.isSlice
      iterate 4 (any_goals (first
      | (with_reducible refine pureH_in ?_)
      | ((with_reducible refine idOH ?_); (with_reducible refine oH_of ⟨_, rfl⟩ (fun W0 hW0 => by (refine oM_gen (fun Kv hK => ?_)); simp [go_sem, hW0.cells]; (first | exact hK _ _ ⟨rfl, rfl⟩ | exact ⟨by omega, hK _ _ ⟨rfl, rfl⟩⟩)) ?_))))
      have := h2.size
      exact fin2 _ _ _ _ _ hk ((h2.on h3).on h) (by omega) (by omega) (by omega) (hh1.next h) rfl ((hh2.next h3).next h) rfl (fun W hk2 _ hb => k g1 g2 W xad xc hk2 hb hav ht rfl)
end
end Go.Proofs
namespace Go.Proofs
open Go Go.Sh Go.RowKit FdSpec TkSpec CodeSpec
set_option linter.unusedSimpArgs false
set_option linter.unusedVariables false
set_option maxRecDepth 10000
section
variable {K : Value → World → Prop} {w w0 : World} {L : List (Addr × Value)}
def IAt (w : World) (b p : Nat) (x : Isg) : Prop := ∃ av yv, IsgR w x av yv ∧ w.cell? ⟨b, p, none⟩ = some (.int .i64 x.w) ∧ w.cell? ⟨b, p + 1, none⟩ = some av ∧ w.cell? ⟨b, p + 2, none⟩ = some (.int .i64 x.b.s) ∧ w.cell? ⟨b, p + 3, none⟩ = some (.int .i64 x.b.u) ∧
  w.cell? ⟨b, p + 4, none⟩ = some (.int .i64 x.b.v) ∧ w.cell? ⟨b, p + 5, none⟩ = some yv
@[go_sem] theorem idx_isg (T : TypeId) (b o n c : Nat) (x : Int) : oM Tryz.prog (.indexAddr 27 (.tmp 0) (.tmp 1)) T [.slice (some ⟨b, o, none⟩) n c, .int .i64 x] = onM (0 ≤ x ∧ x < n) (.pointer (some ⟨b, o + x.toNat * 6, none⟩)) :=
  idx_row (K := fun _ _ => True) _ T (by kernel_rfl) (fun w => by kernel_rfl) b o n c x
def TmJ1 (w0 : World) (L : List (Addr × Value)) (s : Stp) (sv : Value) (n : Nat) (vs : List Value) (w' : World) : Prop := Kn w0 L w' ∧ SetR w' s sv ∧ ∃ (a b c d e f g h i j : Value) (k : Nat), vs = [a, b, c, d, e, f, g, h, i, j, .int .i64 (k : Int)] ∧ k ≤ n
def tmMu1 (n : Nat) (l : List Value) (_ : World) : Nat := match l with | [_, _, _, _, _, _, _, _, _, _, .int _ i] => n - i.toNat | _ => 0
theorem tmMu1_eq (n : Nat) (a b c d e f g h i j : Value) (k : IntKind) (x : Int) (w : World) : tmMu1 n [a, b, c, d, e, f, g, h, i, j, .int k x] w = n - x.toNat := rfl
def TmJ2 (w0 : World) (L : List (Addr × Value)) (s : Stp) (sv : Value) (p : Spd) (pv : Value) (n : Nat) (vs : List Value) (w' : World) : Prop := Kn w0 L w' ∧ SetR w' s sv ∧ SpdR w' p pv ∧ ∃ (a b c d e f g : Value) (k : Nat), vs = [a, b, c, d, e, f, g, .int .i64 (k : Int)] ∧ k ≤ n
def tmMu2 (n : Nat) (l : List Value) (_ : World) : Nat := match l with | [_, _, _, _, _, _, _, .int _ i] => n - i.toNat | _ => 0
theorem tmMu2_eq (n : Nat) (a b c d e f g : Value) (k : IntKind) (x : Int) (w : World) : tmMu2 n [a, b, c, d, e, f, g, .int k x] w = n - x.toNat := rfl
theorem matchings_law (c : Isu) (l : List Isg) (dare : Int) {mv lv : Value} (hd : I64 dare) (hT : DbT w) (hL : Cd.Laid w) (hc : IsuR w c mv) (hl : SRow 6 IAt w lv l) (k : ∀ w', Below w.heap.size w w' → K (.bool true) w') :
    callM Tryz.prog 3 #[isuV c mv, lv, .int .i64 dare] K w := by
  apply sh_3_ok
  unfold sh_3
  have hc' := hc
  obtain ⟨mad, mc, rfl⟩ := hc.m.ints.isSlice
  obtain ⟨lad, lc, rfl⟩ := hl.isSlice
  refine box_kn (cs := isuC c (.slice mad c.m.bases.length mc)) rfl (.start w) fun b1 W hk hb1 hbb => ?_
  clear hb1
  refine saneT_ok (hT.next hk.below) (fun w1 h => ?_)
  have hk := hk.next h
  clear h
  repeat (any_goals ((with_reducible refine idO ?_); (with_reducible refine oM_gen fun Kv hK=>?_); simp [go_sem, hk.cells]; refine hK _ _ ?_; clear hK; clear Kv))
  refine ticketSetup_ok c (hT.next hk.below) (hc'.next hk.below) (fun w2 sv h hs => ?_)
  have hk := hk.next h
  clear h
  obtain ⟨sad, sc, rfl⟩ := hs.ints.isSlice
  iterate 2 (any_goals ((with_reducible refine idO ?_); (with_reducible refine oM_gen fun Kv hK=>?_); simp [go_sem]; refine hK _ _ ?_; clear hK; clear Kv))
  refine local_stpK _ _ _ _ hk (fun g1 w3 hk h hg1 => ?_)
  have hs := hs.next h
  clear h
  cases hok : (tsetM c).2 with
  | false =>
    repeat (any_goals (first
    | (with_reducible first|((refine idGd ?_); refine zD ?_)|((refine idPick ?_); refine yB ?_)|((refine idCond ?_); refine yL ?_))
    | ((with_reducible refine idO ?_); (with_reducible refine oM_gen fun Kv hK=>?_); simp [go_sem]; refine hK _ _ ?_; clear hK; clear Kv)))
    exact k _ hk.below
  | true =>
  obtain ⟨hmd, hmir⟩ := tset_md hok
  generalize (tsetM c).1 = s at *
  by_cases hl4 : (4 : Int) < l.length
  · repeat (any_goals (first
    | (with_reducible first|refine pureM_in ?_|((refine idGd ?_); refine zC ?_)|((refine idPick ?_); refine yC ?_)|((refine idCond ?_); refine yL ?_))
    | ((with_reducible refine idO ?_); (with_reducible refine oM_gen fun Kv hK=>?_); simp [go_sem, hl4]; refine hK _ _ ?_; clear hK; clear Kv)))
    exact k _ hk.below
  repeat (any_goals (first
  | (with_reducible first|refine pureM_in ?_|((refine idGd ?_); refine zC ?_)|((refine idPick ?_); refine yC ?_)|((refine idCond ?_); refine yM ?_))
  | ((with_reducible refine idO ?_); (with_reducible refine oM_gen fun Kv hK=>?_); simp [go_sem, hl4, hk.cells]; refine hK _ _ ?_; clear hK; clear Kv)))
  refine Public_ok s c.x hc'.x hs (fun w4 h => ?_)
  have hk := hk.next h
  have hs0 := hs
  have hs := hs.next h
  clear h
  refine ⟨TmJ1 w _ s (.slice sad s.bases.length sc) l.length, tmMu1 l.length, ⟨hk, hs, _, _, _, _, _, _, _, _, _, _, 0, rfl, by omega⟩, ?_⟩
  clear hs hs0 hk
  rintro _ _ w6 ⟨hk, hs, u0, u1, u2, u3, u4, u5, u6, u7, u8, u9, i, rfl, hi⟩
  simp only [List.getD_cons_zero, List.getD_cons_succ]
  by_cases hin : i = l.length
  · repeat (any_goals (first
    | (with_reducible ((refine idCond ?_); refine yM ?_))
    | ((with_reducible refine idO ?_); (with_reducible refine oM_gen fun Kv hK=>?_); simp [go_sem, hin]; refine hK _ _ ?_; clear hK; clear Kv)))
    exact k _ hk.below
  have hil : (i : Int) < l.length := by omega
  obtain ⟨b8, o8, rfl, hb8, av, yv, hx, cs⟩ := hl.at (i := i) (by omega)
  have ca : ∀ w', Below w.heap.size w w' → _ := fun w' hb => by
    have e : ∀ k, w'.cell? ⟨b8, k, none⟩ = w.cell? ⟨b8, k, none⟩ := fun k => by rw [hb.cell hb8]
    have cs := cs
    simp only [← e] at cs
    exact cs
  generalize hxi : l[i] = x at *
  repeat (any_goals (first
  | (with_reducible ((refine idCond ?_); refine yL ?_))
  | ((with_reducible refine idO ?_); (with_reducible refine oM_gen fun Kv hK=>?_); simp [go_sem, hil]; refine hK _ _ ?_; clear hK; clear Kv)))
  refine ⟨Kn w _, hk.drew, ?_⟩
  have hk := hk.drew
  have hs : SetR { w6 with drawn := w6.drawn + 1 } _ _ := hs.next (Below.refl _ w6).drew
  generalize ({ w6 with drawn := w6.drawn + 1 } : World) = W at hk hs ⊢
  repeat (any_goals (first
  | (with_reducible refine pureH_in ?_)
  | ((with_reducible refine idOH ?_); (with_reducible refine oH_of ⟨_, rfl⟩ (fun W0 hW0 => by (refine oM_gen (fun Kv hK => ?_)); simp [go_sem, hW0.cells, ca _ hW0.below]; (first | exact hK _ _ ⟨rfl, rfl⟩ | exact ⟨by omega, hK _ _ ⟨rfl, rfl⟩⟩)) ?_))))
  refine tree_iss s c.x x hc'.x (hL.below hk.below hL.size) hs (hx.next hk.below) hk (fun g2 g3 W6 xad xc hk2 hb hav ht _ => ?_)
  have hk := hk2
  have hs := hs.next hb
  clear hk2 hb
  unfold sh_3_t4
  cases hok1 : (tissM s c.x x).2.2 with
  | false =>
    repeat (any_goals (first
    | (with_reducible ((refine idCond ?_); refine yL ?_))
    | ((with_reducible refine idO ?_); (with_reducible refine oM_gen fun Kv hK=>?_); simp [go_sem]; refine hK _ _ ?_; clear hK; clear Kv)))
    exact k _ hk.below
  | true =>
  have hav := hav hok1
  have H := tiss_hon hmd hok1
  rw [H.e] at hk ht hav
  dsimp only at hk ht hav
  have hxs : ∀ w', Below w.heap.size w w' → SesR w' (TpA.hSes s x.attrs x.b c.x x.w) (.slice xad x.attrs.length xc) := fun w' hb => ⟨by rw [show (Value.slice xad x.attrs.length xc) = av from hav]; exact hx.attrs.next hb, propose_R _ _ _ _, mulQ_I64 _ _ _ (by simp), grantM_I64 _ _ _ _⟩
  repeat (any_goals (first
  | (with_reducible ((refine idCond ?_); refine yM ?_))
  | ((with_reducible refine idO ?_); (with_reducible refine oM_gen fun Kv hK=>?_); simp [go_sem]; refine hK _ _ ?_; clear hK; clear Kv)))
  refine ⟨Kn w _, hk.drew, ?_⟩
  have hk := hk.drew
  have hs : SetR { W6 with drawn := W6.drawn + 1 } _ _ := hs.next (Below.refl _ W6).drew
  generalize ({ W6 with drawn := W6.drawn + 1 } : World) = W at hk hs ⊢
  repeat (any_goals (first
  | (with_reducible refine pureH_in ?_)
  | ((with_reducible refine idOH ?_); (with_reducible refine oH_of ⟨_, rfl⟩ (fun W0 hW0 => by (refine oM_gen (fun Kv hK => ?_)); simp [go_sem, hW0.cells, ca _ hW0.below, hil]; (first | exact hK _ _ ⟨rfl, rfl⟩ | exact ⟨by omega, hK _ _ ⟨rfl, rfl⟩⟩)) ?_))))
  refine tree_use s x.b dare hd hs (hx.attrs.next hk.below) (hx.b.next hk.below) hk (fun g4 W7 uad uc hk2 hb hu => ?_)
  have hk := hk2
  have hs := hs.next hb
  clear hk2 hb
  unfold sh_3_t3
  by_cases hdr : 1 ≤ dare ∧ dare < s.g.Q
  rotate_left
  · have e := H.hon.use_no hdr
    repeat (any_goals (first
    | (with_reducible ((refine idCond ?_); refine yL ?_))
    | ((with_reducible refine idO ?_); (with_reducible refine oM_gen fun Kv hK=>?_); simp [go_sem, e]; refine hK _ _ ?_; clear hK; clear Kv)))
    exact k _ hk.below
  have e1 : (useM s x.attrs x.b dare).2 = true := by rw [H.hon.use_ok hdr]
  repeat (any_goals (first
  | (with_reducible ((refine idCond ?_); refine yM ?_))
  | ((with_reducible refine idO ?_); (with_reducible refine oM_gen fun Kv hK=>?_); simp [go_sem, e1]; refine hK _ _ ?_; clear hK; clear Kv)))
  refine ⟨TmJ2 w _ s (.slice sad s.bases.length sc) (useM s x.attrs x.b dare).1 (.slice uad (useM s x.attrs x.b dare).1.answers.length uc) l.length, tmMu2 l.length, ⟨hk, hs, hu, _, _, _, _, _, _, _, 0, rfl, by omega⟩, ?_⟩
  clear hk hs hu
  rintro _ _ w7 ⟨hk, hs, hu, r0, r1, r2, r3, r4, r5, r6, j, rfl, hj⟩
  simp only [List.getD_cons_zero, List.getD_cons_succ]
  by_cases hjn : j = l.length
  · repeat (any_goals (first
    | (with_reducible ((refine idCond ?_); refine yM ?_))
    | ((with_reducible refine idO ?_); (with_reducible refine oM_gen fun Kv hK=>?_); simp [go_sem, hjn]; (try simp (disch := omega) only [wrapI64, wrapU8, wrapU32, wrapU64]); refine hK _ _ ?_; clear hK; clear Kv)))
    refine ⟨⟨⟨hk.below, hk.cells.2.2.2.2.2.2.2.2.2.2.2.2.2.2⟩, hs, _, _, _, _, _, _, _, _, _, _, i + 1, rfl, by omega⟩, ?_⟩
    rw [tmMu1_eq, tmMu1_eq]
    omega
  have hjl : (j : Int) < l.length := by omega
  obtain ⟨b9, o9, e9, hb9, av2, yv2, hy, cs2⟩ := hl.at (i := j) (by omega)
  cases e9
  have cb : ∀ w', Below w.heap.size w w' → _ := fun w' hb => by
    have e : ∀ k, w'.cell? ⟨b8, k, none⟩ = w.cell? ⟨b8, k, none⟩ := fun k => by rw [hb.cell hb8]
    have cs := cs2
    simp only [← e] at cs
    exact cs
  generalize hyi : l[j] = y at *
  repeat (any_goals (first
  | (with_reducible ((refine idCond ?_); refine yL ?_))
  | ((with_reducible refine idO ?_); (with_reducible refine oM_gen fun Kv hK=>?_); simp [go_sem, hjl]; refine hK _ _ ?_; clear hK; clear Kv)))
  refine ⟨Kn w _, hk.drew, ?_⟩
  have hk := hk.drew
  have hs : SetR { w7 with drawn := w7.drawn + 1 } _ _ := hs.next (Below.refl _ w7).drew
  have hu : SpdR { w7 with drawn := w7.drawn + 1 } _ _ := hu.next (Below.refl _ w7).drew
  generalize ({ w7 with drawn := w7.drawn + 1 } : World) = W at hk hs hu ⊢
  repeat (any_goals (first
  | (with_reducible refine pureH_in ?_)
  | ((with_reducible refine idOH ?_); (with_reducible refine oH_of ⟨_, rfl⟩ (fun W0 hW0 => by (refine oM_gen (fun Kv hK => ?_)); simp [go_sem, hW0.cells, cb _ hW0.below]; (first | exact hK _ _ ⟨rfl, rfl⟩ | exact ⟨by omega, hK _ _ ⟨rfl, rfl⟩⟩)) ?_))))
  refine tree_iss s c.x y hc'.x (hL.below hk.below hL.size) hs (hy.next hk.below) hk (fun g5 g6 W8 yad yc hk2 hb hav2 ht2 _ => ?_)
  have hk := hk2
  have hs := hs.next hb
  have hu := hu.next hb
  clear hk2 hb
  unfold sh_3_t2
  cases hok2 : (tissM s c.x y).2.2 with
  | false =>
    repeat (any_goals (first
    | (with_reducible ((refine idCond ?_); refine yL ?_))
    | ((with_reducible refine idO ?_); (with_reducible refine oM_gen fun Kv hK=>?_); simp [go_sem]; refine hK _ _ ?_; clear hK; clear Kv)))
    exact k _ hk.below
  | true =>
  have hav2 := hav2 hok2
  have G := tiss_hon hmd hok2
  rw [G.e] at hk hav2
  dsimp only at hk hav2
  have hys : ∀ w', Below w.heap.size w w' → SesR w' (TpA.hSes s y.attrs y.b c.x y.w) (.slice yad y.attrs.length yc) := fun w' hb => ⟨by rw [show (Value.slice yad y.attrs.length yc) = av2 from hav2]; exact hy.attrs.next hb, propose_R _ _ _ _, mulQ_I64 _ _ _ (by simp), grantM_I64 _ _ _ _⟩
  obtain ⟨px, pa2, pa1, pf2, pf1, pu, _⟩ := pair_all H G hmir hdr
  repeat (any_goals (first
  | (with_reducible ((refine idCond ?_); refine yM ?_))
  | ((with_reducible refine idO ?_); (with_reducible refine oM_gen fun Kv hK=>?_); simp [go_sem]; refine hK _ _ ?_; clear hK; clear Kv)))
  refine ⟨Kn w _, hk.drew, ?_⟩
  have hk := hk.drew
  have hs : SetR { W8 with drawn := W8.drawn + 1 } _ _ := hs.next (Below.refl _ W8).drew
  have hu : SpdR { W8 with drawn := W8.drawn + 1 } _ _ := hu.next (Below.refl _ W8).drew
  generalize ({ W8 with drawn := W8.drawn + 1 } : World) = W at hk hs hu ⊢
  repeat (any_goals (first
  | (with_reducible refine pureH_in ?_)
  | ((with_reducible refine idOH ?_); (with_reducible refine oH_of ⟨_, rfl⟩ (fun W0 hW0 => by (refine oM_gen (fun Kv hK => ?_)); simp [go_sem, hW0.cells, ca _ hW0.below, hil]; (first | exact hK _ _ ⟨rfl, rfl⟩ | exact ⟨by omega, hK _ _ ⟨rfl, rfl⟩⟩)) ?_))))
  refine tree_exp s c.m (publicM s c.x) dare _ x.b _ (publicM_I64 _ _) hd hs (hc'.m.next hk.below) (hxs _ hk.below) (hx.b.next hk.below) (hys _ hk.below) (hL.below hk.below hL.size) hk (fun g7 W9 fad fc hk2 hb hB => ?_)
  have hk := hk2
  have hs := hs.next hb
  have hu := hu.next hb
  clear hk2 hb
  rw [px] at hk hB ⊢
  dsimp only at hk hB ⊢
  have same : i = j → prB c.m s c.x dare x y = x.b := fun e => by
    subst e
    rw [show y = x from hyi.symm.trans hxi]
    exact pair_same H hdr
  generalize prB c.m s c.x dare x y = B at *
  unfold sh_3_t1
  repeat (any_goals ((with_reducible refine idO ?_); (with_reducible refine oM_gen fun Kv hK=>?_); simp [go_sem, hk.cells]; refine hK _ _ ?_; clear hK; clear Kv))
  have hgI : I64 (TpA.hSes s y.attrs y.b c.x y.w).r := grantM_I64 _ _ _ _
  refine Ask_ok (l := y.attrs) s (publicM s c.x) (proposeM s c.x y.attrs y.w).1 B (publicM_I64 _ _) (propose_R _ _ _ _) hs (hys _ hk.below).attrs hB (hL.below hk.below hL.size) (fun w10 h => ?_)
  have hk := hk.next h
  have hs := hs.next h
  have hu := hu.next h
  have hB := hB.next h
  clear h
  rw [pa1, pa2]
  repeat (any_goals ((with_reducible refine idO ?_); (with_reducible refine oM_gen fun Kv hK=>?_); simp [go_sem, hk.cells]; refine hK _ _ ?_; clear hK; clear Kv))
  refine Finish_ok (l := y.attrs) s (publicM s c.x) (TpA.hSes s y.attrs y.b c.x y.w).r (proposeM s c.x y.attrs y.w).1 B (publicM_I64 _ _) hgI (propose_R _ _ _ _) hs (hys _ hk.below).attrs hB (hL.below hk.below hL.size) (fun w11 h => ?_)
  have hk := hk.next h
  have hs := hs.next h
  have hu := hu.next h
  have hB := hB.next h
  clear h
  rw [pf1, pf2]
  iterate 2 (any_goals ((with_reducible refine idO ?_); (with_reducible refine oM_gen fun Kv hK=>?_); simp [go_sem]; refine hK _ _ ?_; clear hK; clear Kv))
  refine local_tkt _ hk (fun g8 w12 hk h hg8 => ?_)
  have hs := hs.next h
  have hu := hu.next h
  have hB := hB.next h
  clear h
  repeat (any_goals ((with_reducible refine idO ?_); (with_reducible refine oM_gen fun Kv hK=>?_); simp [go_sem, hk.cells]; refine hK _ _ ?_; clear hK; clear Kv))
  refine Use_ok (l := y.attrs) s B dare hd hs (hys _ hk.below).attrs hB (fun w13 zv h hz => ?_)
  have hk := hk.next h
  have hs := hs.next h
  have hu := hu.next h
  have hB := hB.next h
  clear h
  rw [pu] at hz ⊢
  obtain ⟨zad, zc, rfl⟩ := hz.isSlice
  iterate 2 (any_goals ((with_reducible refine idO ?_); (with_reducible refine oM_gen fun Kv hK=>?_); simp [go_sem]; refine hK _ _ ?_; clear hK; clear Kv))
  refine local_spdK _ _ _ _ hk (fun g9 w14 hk h hg9 => ?_)
  have hs := hs.next h
  have hu := hu.next h
  have hB := hB.next h
  have hz := spd_R hd (hz.next h)
  clear h
  have en := fun T => neq_tkt T (TpA.hT s x.attrs x.b c.x x.w) (TpA.hT s x.attrs x.b c.x x.w)
  simp only [decide_true, Bool.not_true] at en
  have ec : (TpA.hSes s y.attrs y.b c.x y.w).c = askC s y.attrs (proposeM s c.x y.attrs y.w).1 y.b := rfl
  repeat (any_goals (first
  | (with_reducible first|refine pureM_in ?_|((refine idGd ?_); refine zC ?_)|((refine idPick ?_); refine yC ?_))
  | ((with_reducible refine idO ?_); (with_reducible refine oM_gen fun Kv hK=>?_); simp [go_sem, hk.cells, e1, en, ec]; refine hK _ _ ?_; clear hK; clear Kv)))
  refine SameSpend_ok _ _ hu hz (fun w15 h => ?_)
  have hk := hk.next h
  have hs := hs.next h
  have hu := hu.next h
  have hB := hB.next h
  clear h
  simp only [decide_true, Bool.and_self]
  repeat (any_goals (first
  | (with_reducible first|((refine idGd ?_); refine zC ?_)|((refine idPick ?_); refine yC ?_)|((refine idCond ?_); refine yM ?_))
  | ((with_reducible refine idO ?_); (with_reducible refine oM_gen fun Kv hK=>?_); simp [go_sem]; refine hK _ _ ?_; clear hK; clear Kv)))
  simp only [List.getD_cons_zero, List.getD_cons_succ]
  have hk := hk.drew
  have hs : SetR { w15 with drawn := w15.drawn + 1 } _ _ := hs.next (Below.refl _ w15).drew
  have hu : SpdR { w15 with drawn := w15.drawn + 1 } _ _ := hu.next (Below.refl _ w15).drew
  have hB : BldR { w15 with drawn := w15.drawn + 1 } _ _ := hB.next (Below.refl _ w15).drew
  refine ⟨Nx { w15 with drawn := w15.drawn + 1 }, Below.refl _ _, trivial, ?_⟩
  generalize ({ w15 with drawn := w15.drawn + 1 } : World) = W at hk hs hu hB ⊢
  have back : ∀ W', Below W.heap.size W W' → ∀ q0 q1 q2 q3 q4 q5 q6 : Value, TmJ2 w (cellsOf (cellsOf (cellsOf (cellsOf (cellsOf [] b1 0 (isuC c (Value.slice mad c.m.bases.length mc))) g1 0 (stpC s (Value.slice sad s.bases.length sc))) g2 0 (sesC (TpA.hSes s x.attrs x.b c.x x.w) (Value.slice xad (TpA.hSes s x.attrs x.b c.x x.w).attrs.length xc))) g3 0 (tktC (TpA.hT s x.attrs x.b c.x x.w))) g4 0 (spdC (useM s x.attrs x.b dare).1 (Value.slice uad (useM s x.attrs x.b dare).1.answers.length uc)))
      s (Value.slice sad s.bases.length sc) (useM s x.attrs x.b dare).1 (Value.slice uad (useM s x.attrs x.b dare).1.answers.length uc) l.length [q0, q1, q2, q3, q4, q5, q6, .int .i64 ((j : Int) + 1)] W' := fun W' hb q0 q1 q2 q3 q4 q5 q6 => by
    have hk := hk.next hb
    exact ⟨⟨hk.below, hk.cells.2.2.2.2.2.2.2.2.2.2.2.2.2.2.2.2.2.2.2.2.2.2.2.2⟩, hs.next hb, hu.next hb, _, _, _, _, _, _, _, j + 1, rfl, by omega⟩
  have hmu : ∀ (q0 q1 q2 q3 q4 q5 q6 p0 p1 p2 p3 p4 p5 p6 : Value) (W1 W2 : World), tmMu2 l.length [q0, q1, q2, q3, q4, q5, q6, .int .i64 ((j : Int) + 1)] W1 < tmMu2 l.length [p0, p1, p2, p3, p4, p5, p6, .int .i64 (j : Int)] W2 := fun q0 q1 q2 q3 q4 q5 q6 p0 p1 p2 p3 p4 p5 p6 W1 W2 => by
    rw [tmMu2_eq, tmMu2_eq]
    omega
  by_cases hij : i = j
  · have eB := same hij
    subst hij
    repeat (any_goals (first
    | (with_reducible first|refine pureH_in ?_|((refine idGdH ?_); refine gdH_conv fun _=>?_)|((refine idGd ?_); refine zA ?_))
    | ((with_reducible refine idOH ?_); (with_reducible refine oH_of ⟨_, rfl⟩ (fun W0 hW0 => by (refine oM_gen (fun Kv hK => ?_)); simp [go_sem, (hk.next hW0).cells, ca _ (hk.next hW0).below, hil]; (first | exact hK _ _ ⟨rfl, rfl⟩ | exact ⟨by omega, hK _ _ ⟨rfl, rfl⟩⟩)) ?_))))
    refine ⟨Nx, fun w16 h16 => ?_⟩
    repeat (any_goals (with_reducible ((refine idGd ?_); refine zA ?_)))
    refine SameBld_ok B x.b (hB.next h16) (hx.b.next (hk.next h16).below) (fun w17 h => ?_)
    rw [decide_eq_true eB]
    repeat (any_goals (first
    | (with_reducible first|((refine idGd ?_); refine zA ?_)|((refine idPick ?_); refine yB ?_)|((refine idCond ?_); refine yM ?_))
    | ((with_reducible refine idO ?_); (with_reducible refine oM_gen fun Kv hK=>?_); simp [go_sem]; (try simp (disch := omega) only [wrapI64, wrapU8, wrapU32, wrapU64]); refine hK _ _ ?_; clear hK; clear Kv)))
    exact ⟨back _ (h16.on h) _ _ _ _ _ _ _, hmu _ _ _ _ _ _ _ _ _ _ _ _ _ _ _ _⟩
  · have hij2 : ¬ (i : Int) = j := by omega
    repeat (any_goals (first
    | (with_reducible first|refine pureH_in ?_|((refine idGdH ?_); refine gdH_conv fun _=>?_)|((refine idGd ?_); refine zB ?_))
    | ((with_reducible refine idOH ?_); (with_reducible refine oH_of ⟨_, rfl⟩ (fun W0 hW0 => by (refine oM_gen (fun Kv hK => ?_)); simp [go_sem, (hk.next hW0).cells, ca _ (hk.next hW0).below, hil, hij2]; (first | exact hK _ _ ⟨rfl, rfl⟩ | exact ⟨by omega, hK _ _ ⟨rfl, rfl⟩⟩)) ?_))))
    refine ⟨Nx, fun w16 h16 => ?_⟩
    repeat (any_goals (first
    | (with_reducible first|((refine idGd ?_); refine zB ?_)|((refine idPick ?_); refine yC ?_)|((refine idCond ?_); refine yM ?_))
    | ((with_reducible refine idO ?_); (with_reducible refine oM_gen fun Kv hK=>?_); simp [go_sem]; (try simp (disch := omega) only [wrapI64, wrapU8, wrapU32, wrapU64]); refine hK _ _ ?_; clear hK; clear Kv)))
    exact ⟨back _ h16 _ _ _ _ _ _ _, hmu _ _ _ _ _ _ _ _ _ _ _ _ _ _ _ _⟩
end
end Go.Proofs
namespace Go.Proofs
open Go Go.Sh Go.RowKit Go.Lib CodeSpec TkSpec FdSpec Go.ChangeShapes Go.WideShapes Go.ChangeAt Go.Deep
set_option linter.unusedSimpArgs false
set_option maxRecDepth 100000
section
variable {H : Type} {enc : TypeId × Value → H} {w : World} {sp : Nat → Bool} {hd : Bool}
theorem rowsOpen {P : Program} {α : Type} {n : Nat} {At : World → Nat → Nat → α → Prop} {t e : TypeId} {v : Value} {m0 : Nat} {D : DataW H × List MemPlace} (ht : P.underlying t = some (.slice e)) (hC : P.cellsOf e = n) (hn : 0 < n)
    (hrd : ∀ (cs : List Value) (b p m : Nat) (D : DataW H × List MemPlace), cs.length = n → (∀ (j : Nat) (u : Value), cs[j]? = some u → w.cell? ⟨b, p + j, none⟩ = some u) → DataW.trod enc P w 0 sp hd m e cs = some D → ∃ x, At w b p x)
    (h : DataW.trod enc P w 0 sp hd m0 t [v] = some D) : ∃ l : List α, SRow n At w v l := by
  rcases open_slice ht h with ⟨hcs, _⟩ | ⟨a', len, cap, m, n', D', Pl, hcs, _, hl, hm, hmm, _, hi⟩
  · simp only [List.cons.injEq, and_true] at hcs
    subst hcs
    exact ⟨[], ⟨none, 0, rfl, .inl rfl⟩, by simp⟩
  · simp only [List.cons.injEq, and_true] at hcs
    subst hcs
    subst hC
    have hml : len ≤ m := by rw [hmm]; split <;> omega
    by_cases h0 : len = 0
    · subst h0
      exact ⟨[], ⟨some a', cap, rfl, .inl rfl⟩, by simp⟩
    obtain ⟨cs0, hc0, _⟩ := hi 0 (by omega)
    obtain ⟨_, hl0, h00⟩ := World.cells?_some hc0
    have h00 := h00 0 hn
    rw [Nat.zero_mul] at h00
    have e0 : (a'.add 0).add 0 = a' := by simp [Addr.add]
    rw [e0, List.getElem?_eq_getElem (by omega)] at h00
    obtain ⟨hb, hs⟩ := cell_lt h00
    obtain ⟨b, o, s⟩ := a'
    simp only at hs hb
    subst hs
    have key : ∀ i : Fin len, ∃ x, At w b (o + i * P.cellsOf e) x := fun i => by
      obtain ⟨cs, hc, ht2⟩ := hi i (by have := i.2; omega)
      obtain ⟨_, hcl, hat⟩ := World.cells?_some hc
      refine hrd cs b (o + i * P.cellsOf e) _ _ hcl (fun j u hj => ?_) ht2
      have hjl := (List.getElem?_eq_some_iff.1 hj).1
      have := hat j (by omega)
      rw [addr_add', addr_add'] at this
      rw [this, hj]
    refine ⟨List.ofFn (fun i => (key i).choose), ⟨some ⟨b, o, none⟩, cap, by rw [List.length_ofFn], .inr ⟨b, o, rfl, hb, fun i hil => ?_⟩⟩, by rw [List.length_ofFn]; simp only [maxLen] at hm; omega⟩
    rw [List.length_ofFn] at hil
    rw [List.getElem_ofFn]
    exact (key ⟨i, hil⟩).choose_spec
theorem cells_isu : Tryz.prog.cellsOf 26 = 4 := by kernel_rfl
theorem cells_isg : Tryz.prog.cellsOf 47 = 6 := by kernel_rfl
theorem open_isu {b0 : Nat} {v : Value} {d : DataW H} {ps : List MemPlace} (hval : Value.okWide Tryz.prog w .any b0 26 v) (h : DataW.Trod enc Tryz.prog w 0 sp hd 26 v d ps) : ∃ c mv, v = isuV c mv ∧ IsuR w c mv := by
  obtain ⟨cs, rfl, hs⟩ := okWide_struct Tryz.underlying26 hval
  obtain ⟨fuel, hf⟩ := h
  have hf : DataW.trod enc Tryz.prog w 0 sp hd fuel 26 cs.toList = some (d, ps) := hf
  obtain ⟨xs, m, _, _, hcl, hxl, hf⟩ := DataW.trod_struct Tryz.underlying26 hf
  rw [cells_isu] at hcl
  have hcs : cs = cs.toList.toArray := by simp
  rw [hcs]
  clear hs hcs
  generalize cs.toList = l at *
  have hxl : xs.length = 3 := hxl
  match l, hcl, xs, hxl with
  | [x0, x1, x2, x3], _, [y0, y1, y2], _ =>
    have f0 : DataW.trod enc Tryz.prog w 0 sp hd m 3 (([x0, x1, x2, x3].drop 0).take (Tryz.prog.cellsOf 3)) = some y0 := hf 0 _ rfl
    have f1 : DataW.trod enc Tryz.prog w 0 sp hd m 24 (([x0, x1, x2, x3].drop 1).take (Tryz.prog.cellsOf 24)) = some y1 := hf 1 _ rfl
    have f2 : DataW.trod enc Tryz.prog w 0 sp hd m 3 (([x0, x1, x2, x3].drop 3).take (Tryz.prog.cellsOf 3)) = some y2 := hf 2 _ rfl
    rw [cells_int] at f0 f2
    rw [cells_mir] at f1
    obtain ⟨k0, e0, _, w0⟩ := DataW.trod_int Tryz.underlying3 f0
    obtain ⟨mi, mv, em, hm⟩ := open_mir f1
    obtain ⟨k2, e2, _, w2⟩ := DataW.trod_int Tryz.underlying3 f2
    simp only [List.drop_zero, List.take_succ_cons, List.take_zero, List.drop_succ_cons, List.cons.injEq, and_true] at e0 em e2
    obtain ⟨em0, em1⟩ := em
    exact ⟨⟨k0, mi, k2⟩, mv, by rw [e0, em0, em1, e2], ⟨intR w0, hm, intR w2⟩⟩
theorem open_isgs {b0 : Nat} {v : Value} {d : DataW H} {ps : List MemPlace} (hval : Value.okWide Tryz.prog w .any b0 27 v) (h : DataW.Trod enc Tryz.prog w 0 sp hd 27 v d ps) : ∃ l, SRow 6 IAt w v l := by
  obtain ⟨a, n, c, rfl⟩ := okWide_slice Tryz.underlying27 hval
  obtain ⟨fuel, hf⟩ := h
  have hf : DataW.trod enc Tryz.prog w 0 sp hd fuel 27 [.slice a n c] = some (d, ps) := hf
  exact rowsOpen (At := IAt) Tryz.underlying27 cells_isg (by decide) (fun cs b p m0 D hl hc ht => by
    obtain ⟨xs, m, _, _, hcl, hxl, hf⟩ := DataW.trod_struct Tryz.underlying47 ht
    have hxl : xs.length = 3 := hxl
    match cs, hl, xs, hxl with
    | [x0, x1, x2, x3, x4, x5], _, [y0, y1, y2], _ =>
      have f0 : DataW.trod enc Tryz.prog w 0 sp hd m 3 (([x0, x1, x2, x3, x4, x5].drop 0).take (Tryz.prog.cellsOf 3)) = some y0 := hf 0 _ rfl
      have f1 : DataW.trod enc Tryz.prog w 0 sp hd m 22 (([x0, x1, x2, x3, x4, x5].drop 1).take (Tryz.prog.cellsOf 22)) = some y1 := hf 1 _ rfl
      have f2 : DataW.trod enc Tryz.prog w 0 sp hd m 45 (([x0, x1, x2, x3, x4, x5].drop 2).take (Tryz.prog.cellsOf 45)) = some y2 := hf 2 _ rfl
      rw [cells_int] at f0
      rw [cells_ints] at f1
      rw [cells_bld] at f2
      obtain ⟨k0, e0, _, w0⟩ := DataW.trod_int Tryz.underlying3 f0
      obtain ⟨l1, h1⟩ := open_ints f1
      obtain ⟨bl, bv, eb, hb⟩ := open_bldC f2
      simp only [List.drop_zero, List.take_succ_cons, List.take_zero, List.drop_succ_cons, List.cons.injEq, and_true] at e0 eb h1
      obtain ⟨eb0, eb1, eb2, eb3⟩ := eb
      subst eb3
      refine ⟨⟨k0, l1, bl⟩, x1, x5, ⟨intR w0, h1, hb⟩, ?_, ?_, ?_, ?_, ?_, ?_⟩
      · rw [← e0]; exact hc 0 _ rfl
      · exact hc 1 _ rfl
      · rw [← eb0]; exact hc 2 _ rfl
      · rw [← eb1]; exact hc 3 _ rfl
      · rw [← eb2]; exact hc 4 _ rfl
      · exact hc 5 _ rfl) hf
end
end Go.Proofs
