/- Parts of the proof of the seat's statements (LawKit, OpenKit, OpenKit2, RK, PrEnc, GrH, RK2, GrI, GrJ, ShGr2, GrK, PrDec, GrM, HLs, GrN, GrO, HL9, GrP, HL8, PrOpen, GrV, RK3, GrW): lemmas about the given translation and plain laws. No condition of their own. -/
import Derived.Test.YtlmhhgemiknhdaaGreatDoorPod
import Derived.ProofKit
import Derived.LaidMore
import Derived.OpenShut
import Derived.Carry
import Derived.SizedLaws
import Derived.Stop.Joined
import Derived.Deep.Slices
import Derived.Deep.Fields
import Derived.LaidSub
import Derived.Test.YtlmhhgemiknhdaaGreatDoorRows
import Derived.Test.YtlmhhgemiknhdaaGreatDoorCards
import Derived.Test.YtlmhhgemiknhdaaGreatDoorTie
import Derived.SevenTiedAt
import Derived.Test.YtlmhhgemiknhdaaGreatDoorProg
set_option linter.all false
namespace Go.Sh
open Go Go.ChangeShapes Go.WideShapes Go.ChangeAt Go.RowKit
section
variable {H : Type} {enc : TypeId × Value → H} {P : Program}
theorem trodAll_below (hl : laidOutB P = true) {W W' : World} (hb : Below W.heap.size W W') :
    ∀ (ts : List TypeId) (vs : List Value) (ds : List (DataW H)) (ps : List MemPlace), (ts.all fun t => P.readableRec t && decide (t < P.types.size)) = true →
    DataW.TrodAll enc P W 0 (fun _ => true) true ts vs ds ps → (∀ x ∈ ps, x.block < W.heap.size) → DataW.TrodAll enc P W' 0 (fun b => decide (b < W.heap.size)) true ts vs ds ps
  | [], [], [], _, _, h, _ => h
  | t :: ts, v :: vs, d :: ds, ps, ht, h, hlt => by
    obtain ⟨p, q, h1, h2, rfl⟩ := h
    simp only [List.all_cons, Bool.and_eq_true, decide_eq_true_eq] at ht
    exact ⟨p, q, Below.trod hl ht.1.1 ht.1.2 h1 hb (fun x hx => hlt x (by simp [hx])), trodAll_below hl hb ts vs ds q ht.2 h2 (fun x hx => hlt x (by simp [hx])), rfl⟩
  | [], _ :: _, _, _, _, h, _ => h.elim
  | [], [], _ :: _, _, _, h, _ => h.elim
  | _ :: _, [], _, _, _, h, _ => h.elim
  | _ :: _, _ :: _, [], _, _, h, _ => h.elim
theorem trodAll_length {W : World} {b : Nat} {sp : Nat → Bool} {hd : Bool} : ∀ (ts : List TypeId) (vs : List Value) (ds : List (DataW H)) (ps : List MemPlace), DataW.TrodAll enc P W b sp hd ts vs ds ps → ds.length = ts.length ∧ vs.length = ts.length
  | [], [], [], _, _ => ⟨rfl, rfl⟩
  | t :: ts, v :: vs, d :: ds, ps, h => by
    obtain ⟨p, q, h1, h2, rfl⟩ := h
    have := trodAll_length ts vs ds q h2
    simp [this]
  | [], _ :: _, _, _, h => h.elim
  | [], [], _ :: _, _, h => h.elim
  | _ :: _, [], _, _, h => h.elim
  | _ :: _, _ :: _, [], _, h => h.elim
theorem trodL_cons {W : World} {b : Nat} {sp : Nat → Bool} {hd : Bool} {t : TypeId} {ts : List TypeId} {vs : List Value} {ds : List (DataW H)} {ps : List MemPlace} (h : DataW.TrodAll enc P W b sp hd (t :: ts) vs ds ps) :
    ∃ v d vs' ds' p q, vs = v :: vs' ∧ ds = d :: ds' ∧ DataW.Trod enc P W b sp hd t v d p ∧ DataW.TrodAll enc P W b sp hd ts vs' ds' q ∧ ps = p ++ q := by
  match vs, ds, h with
  | v :: vs, d :: ds, h =>
    obtain ⟨p, q, h1, h2, rfl⟩ := h
    exact ⟨v, d, vs, ds, p, q, rfl, rfl, h1, h2, rfl⟩
  | [], _, h => exact h.elim
  | _ :: _, [], h => exact h.elim
theorem trodL0 {W : World} {b : Nat} {sp : Nat → Bool} {hd : Bool} {vs : List Value} {ds : List (DataW H)} {ps : List MemPlace} (h : DataW.TrodAll enc P W b sp hd [] vs ds ps) : vs = [] ∧ ds = [] ∧ ps = [] := by
  match vs, ds, h with
  | [], [], h => exact ⟨rfl, rfl, h⟩
theorem law_post {fn : Func} {s : ChangeSpec} {tb : TypeId} {apart : Bool} {W W' : World} {args : Array Value} {ds gs : List (DataW H)} {before : List MemPlace} (hl : laidOutB P = true)
    (hrt : fn.resultTypes = #[tb]) (hub : P.underlying tb = some .bool) (hpar : (fn.params.toList.all fun t => P.readableRec t && decide (t < P.types.size)) = true) (hvars : s.vars = [])
    (hspec : ∀ ds : List (DataW H), ds.length = fn.params.toList.length → s.fn H ds = { results := [.lit (.bool true)], args := ds })
    (hW : DataW.Whole enc P fn.params.toList s.vars apart W args.toList ds gs before) (hb : Below W.heap.size W W') : s.post enc P fn apart true false false W args (.bool true) W' := by
  have hW0 := hW
  have hlt := hW.lt
  obtain ⟨p, q, hA, hV, rfl, _, _⟩ := hW
  rw [hvars] at hV
  obtain ⟨rfl, rfl⟩ := trodVars_none hV
  have hlen := (trodAll_length _ _ _ _ hA).1
  have hs := hspec ds hlen
  rw [List.append_nil] at hlt hW0
  refine ⟨ds, [], p, [], p, [], hW0, ?_, ?_, ?_, hb.frame _, fun h => by cases h⟩
  · rw [List.append_nil, hs, hrt]
    exact trodAll_mk1 (shut_bool hub true)
  · rw [List.append_nil, hs]
    exact trodAll_below hl hb _ _ _ _ hpar hA hlt
  · rw [hvars, List.append_nil, hs]
    rfl
theorem law_lifted_laid {C : Checked} {os : Os} {f : FuncId} {fn : Func} {s : ChangeSpec} {tb : TypeId} {L : List (String × DataW Unit)} (own : ownKnob C.prog.godebug = none) (started : os.Started) (noInit : C.prog.inits.idxOf? f = none) (hfn : C.prog.funcs[f]? = some fn)
    (hl : laidOutB C.prog = true) (hrt : fn.resultTypes = #[tb]) (hub : C.prog.underlying tb = some .bool) (hpar : (fn.params.toList.all fun t => C.prog.readableRec t && decide (t < C.prog.types.size)) = true) (hvars : s.vars = [])
    (hspec : ∀ ds : List (DataW H), ds.length = fn.params.toList.length → s.fn H ds = { results := [.lit (.bool true)], args := ds })
    (witness : ∃ (w : World) (tape : Tape) (i : Input), w.os = os ∧ (w.forCall tape i).Shaped C.prog ∧ i.vars = [] ∧ Input.okWide C.prog (w.forCall tape i) .any w.heap.size f i ∧
      ((s.pre enc C.prog fn [] false (w.forCall tape i).memory i.args ∧ laidMetH C.prog L (w.forCall tape i).memory) ∧ sizedMet enc C.prog fn (OpenSpec.ofChange s) false (w.forCall tape i).memory i.args) ∧ ({} : Assume).holds C.prog (lone (Frame.enter C.prog f i.args .normal) [] (w.forCall tape i)))
    (contract : ∀ (W : World) (base : Nat) (args : List Value) (ds : List (DataW H)) (p : List MemPlace), (∀ (j : Nat) t v, fn.params.toList[j]? = some t → args[j]? = some v → Value.okWide C.prog W .any base t v) →
      DataW.TrodAll enc C.prog W 0 (fun _ => true) true fn.params.toList args ds p → (DataW.weightsEach C.prog fn.params.toList ds).all (· ≤ reachBytes) = true → (∀ x ∈ p, x.block < W.heap.size) →
      laidMetH C.prog L W →
      callM C.prog f args.toArray (fun v W' => v = .bool true ∧ Below W.heap.size W W') W) :
    ReturnsInHanded {} C os f .any (fun w args => (s.pre enc C.prog fn [] false w args ∧ laidMetH C.prog L w) ∧ sizedMet enc C.prog fn (OpenSpec.ofChange s) false w args)
      (s.post enc C.prog fn false true false false) := by
  refine returnsInHanded_of_change_and (X := fun w _ => laidMetH C.prog L w) (fun _ _ _ hh h => h.of_heap hh) own started noInit hfn witness ?_
  intro W base args ds gs before hval hW _ hsz hX _
  have hW0 := hW
  have hlt := hW.lt
  obtain ⟨p, q, hA, hV, rfl, _, _⟩ := hW
  rw [hvars] at hV
  obtain ⟨rfl, rfl⟩ := trodVars_none hV
  have hsz' : (DataW.weightsEach C.prog fn.params.toList ds).all (· ≤ reachBytes) = true := by
    simpa [hvars, ChangeSpec.plain, DataSpec.varTypes] using hsz
  have hc := contract W base args.toList ds p (fun j t v h1 h2 => hval j t v (by simpa using h1) (by simpa using h2)) hA hsz' (fun x hx => hlt x (by simp [hx])) hX
  refine hc.mono fun e W' h => ?_
  obtain ⟨v, rfl, rfl, hb⟩ := h
  exact ⟨_, rfl, law_post hl hrt hub hpar hvars hspec hW0 hb⟩
end
end Go.Sh
namespace Go.Sh
open Go Go.ChangeShapes Go.WideShapes Go.ChangeAt Go.RowKit Go.Deep
section
variable {H : Type} {enc : TypeId × Value → H} {P : Program} {w : World} {sp : Nat → Bool} {hd : Bool}
theorem addr_add' (b o k : Nat) : (⟨b, o, none⟩ : Addr).add k = ⟨b, o + k, none⟩ := by
  unfold Addr.add
  split
  · rename_i h; rw [h]; rfl
  · rfl
theorem cell_lt {a : Addr} {v : Value} (h : w.cell? a = some v) : a.block < w.heap.size ∧ a.spot = none := by
  unfold World.cell? at h
  split at h
  · rename_i c t f hh
    refine ⟨(Array.getElem?_eq_some_iff.1 hh).1, ?_⟩
    split at h
    · cases h
    · rename_i hs
      cases hsp : a.spot with
      | none => rfl
      | some x => rw [hsp] at hs; exact absurd rfl hs
  · cases h
theorem open_elems {b0 : Nat} {t e : TypeId} {v : Value} {d : DataW H} {ps : List MemPlace} (ht : P.underlying t = some (.slice e)) (hC : 0 < P.cellsOf e) (hval : Value.okWide P w .any b0 t v) (h : DataW.Trod enc P w 0 sp hd t v d ps) :
    ∃ a len cap, v = .slice a len cap ∧ len ≤ cap ∧ cap ≤ maxLen ∧ (0 < len → ∃ b o, a = some ⟨b, o, none⟩ ∧ b < w.heap.size ∧
      ∀ i, i < len → ∃ (cs : List Value) (D : DataW H × List MemPlace) (n : Nat), cs.length = P.cellsOf e ∧ (∀ j, j < P.cellsOf e → w.cell? ⟨b, o + i * P.cellsOf e + j, none⟩ = cs[j]?) ∧ DataW.trod enc P w 0 sp hd n e cs = some D) := by
  obtain ⟨a, len, cap, rfl⟩ := okWide_slice ht hval
  obtain ⟨fuel, hf⟩ := h
  rcases open_slice ht hf with ⟨hcs, _⟩ | ⟨a', len', cap', m, n, D, Pl, hcs, _, hl, hm, hmm, _, hi⟩
  · simp only [Value.cells, List.cons.injEq, Value.slice.injEq, and_true] at hcs
    obtain ⟨rfl, rfl, rfl⟩ := hcs
    exact ⟨none, 0, 0, rfl, Nat.le_refl _, Nat.zero_le _, fun h => absurd h (by omega)⟩
  · simp only [Value.cells, List.cons.injEq, Value.slice.injEq, and_true] at hcs
    obtain ⟨rfl, rfl, rfl⟩ := hcs
    refine ⟨_, _, _, rfl, hl, hm, fun hpos => ?_⟩
    have hml : len ≤ m := by rw [hmm]; split <;> omega
    obtain ⟨cs0, hc0, _⟩ := hi 0 (by omega)
    obtain ⟨_, hl0, h0⟩ := World.cells?_some hc0
    have h00 := h0 0 hC
    rw [Nat.zero_mul] at h00
    have e0 : (a'.add 0).add 0 = a' := by simp [Addr.add]
    rw [e0, List.getElem?_eq_getElem (by omega)] at h00
    obtain ⟨hb, hs⟩ := cell_lt h00
    obtain ⟨b, o, s⟩ := a'
    simp only at hs hb
    subst hs
    refine ⟨b, o, rfl, hb, fun i hil => ?_⟩
    obtain ⟨cs, hc, ht2⟩ := hi i (by omega)
    obtain ⟨_, hcl, hat⟩ := World.cells?_some hc
    refine ⟨cs, _, n, hcl, fun j hj => ?_, ht2⟩
    have := hat j hj
    rw [addr_add', addr_add'] at this
    exact this
theorem open_fields {e : TypeId} {fs : Array Field} {n : Nat} {cs : List Value} {D : DataW H × List MemPlace} (he : P.underlying e = some (.struct fs)) (hone : oneCellFields P fs = true) (hC : P.cellsOf e = fs.size)
    (h : DataW.trod enc P w 0 sp hd n e cs = some D) :
    cs.length = fs.size ∧ ∀ (j : Nat) (f : Field), fs[j]? = some f → ∃ (v : Value) (y : DataW H × List MemPlace) (m : Nat), cs[j]? = some v ∧ DataW.trod enc P w 0 sp hd m f.type [v] = some y := by
  obtain ⟨xs, m, _, _, hcl, hxl, hf⟩ := DataW.trod_struct he h
  rw [hC] at hcl
  refine ⟨hcl, fun j f hj => ?_⟩
  obtain ⟨ho, hk⟩ := hone_of hone j f hj
  have hjl : j < fs.size := (Array.getElem?_eq_some_iff.1 hj).1
  have h1 := hf j f hj
  rw [ho, hk, List.drop_eq_getElem_cons (by omega), List.getElem?_eq_getElem (by omega : j < xs.length)] at h1
  exact ⟨_, _, m, List.getElem?_eq_getElem (by omega), h1⟩
end
end Go.Sh
namespace Go.Sh
open Go Go.ChangeShapes Go.WideShapes Go.ChangeAt Go.RowKit Go.Deep
section
variable {H : Type} {enc : TypeId × Value → H} {P : Program} {w : World} {sp : Nat → Bool} {hd : Bool}
theorem rowOpen {α : Type} (mk : α → Value) (Q : α → Prop) {t e : TypeId} {v : Value} {n : Nat} {D : DataW H × List MemPlace} (ht : P.underlying t = some (.slice e)) (hC : P.cellsOf e = 1)
    (hrd : ∀ (V : Value) (n : Nat) (D : DataW H × List MemPlace), DataW.trod enc P w 0 sp hd n e [V] = some D → ∃ x, V = mk x ∧ Q x) (h : DataW.trod enc P w 0 sp hd n t [v] = some D) :
    ∃ l : List α, (∃ ad c, v = .slice ad l.length c ∧ (l = [] ∨ ∃ b o, ad = some ⟨b, o, none⟩ ∧ b < w.heap.size ∧ ∀ (i : Nat) (h : i < l.length), w.cell? ⟨b, o + i, none⟩ = some (mk l[i]))) ∧ l.length ≤ maxLen ∧ ∀ x ∈ l, Q x := by
  rcases open_slice1 ht hC h with ⟨hcs, _⟩ | ⟨a', len, cap, m, n', V, D', Pl, hcs, _, hl, hm, hmm, _, hi⟩
  · simp only [List.cons.injEq, and_true] at hcs
    subst hcs
    exact ⟨[], ⟨none, 0, rfl, .inl rfl⟩, by simp, by simp⟩
  · simp only [List.cons.injEq, and_true] at hcs
    subst hcs
    have hml : len ≤ m := by rw [hmm]; split <;> omega
    have key : ∀ i : Fin len, ∃ x, V i = mk x ∧ Q x := fun i => hrd _ _ _ (hi i (by have := i.2; omega)).2
    refine ⟨List.ofFn (fun i => (key i).choose), ⟨some a', cap, by rw [List.length_ofFn], ?_⟩, by rw [List.length_ofFn]; omega, ?_⟩
    · by_cases h0 : len = 0
      · left; subst h0; rfl
      · right
        have h00 := (hi 0 (by omega)).1
        have e0 : a'.add 0 = a' := by simp [Addr.add]
        rw [e0] at h00
        obtain ⟨hb, hs⟩ := cell_lt h00
        obtain ⟨b, o, s⟩ := a'
        simp only at hs hb
        subst hs
        refine ⟨b, o, rfl, hb, fun i hil => ?_⟩
        rw [List.length_ofFn] at hil
        have h1 := (hi i (by omega)).1
        rw [addr_add'] at h1
        rw [h1, List.getElem_ofFn]
        have := (key ⟨i, hil⟩).choose_spec.1
        exact congrArg some this
    · intro x hx
      rw [List.mem_ofFn] at hx
      obtain ⟨i, rfl⟩ := hx
      exact (key i).choose_spec.2
theorem trodIface {t : TypeId} {ms : Array (String × TypeId)} {cs : List Value} {n : Nat} {nm : String} {d : DataW H} {ps : List MemPlace} (ht : P.underlying t = some (.interface ms)) (h : DataW.trod enc P w 0 sp false n t cs = some (.iface nm d, ps)) : ∃ u v, cs = [.iface u v] := by
  cases n with
  | zero => simp [DataW.trod] at h
  | succ n =>
    unfold DataW.trod at h
    rw [ht] at h
    match cs, h with
    | [.iface u v], _ => exact ⟨u, v, rfl⟩
    | [.nilIface], h => simp at h
    | [], h => simp at h
    | [.int _ _], h => simp at h
    | [.bool _], h => simp at h
    | [.string _], h => simp at h
    | [.pointer _], h => simp at h
    | [.slice _ _ _], h => simp at h
    | [.map _], h => simp at h
    | [.float _ _], h => simp at h
    | [.complex _ _ _], h => simp at h
    | [.agg _], h => simp at h
    | [.tuple _], h => simp at h
    | [.func _ _ _], h => simp at h
    | [.nilFunc], h => simp at h
    | [.chan _], h => simp at h
    | _ :: _ :: _, h => simp at h
end
end Go.Sh
namespace Go.Proofs
open Go Go.Sh Go.RowKit Go.Lib CodeSpec TkSpec FdSpec PrSpec Go.ChangeShapes Go.WideShapes Go.ChangeAt Go.Deep
set_option linter.unusedSimpArgs false
set_option maxRecDepth 100000
abbrev laidList : List (String × DataW Unit) := YtlmhhgemiknhdaaGreatDoor.Rows.proofSignsRow.laid
abbrev lname (i : Nat) : String := (laidList.map (·.1)).getD i default
theorem var_of_laid {W : World} {nm : String} {d : DataW Unit} (hf : (laidList.filter fun x => x.1 == nm) = [(nm, d)]) (h : laidMetH Tryz.prog laidList W) : laidMet Tryz.prog [(nm, d)] W := by
  rw [MakeChecks.laidMetH_plain _ _ _ (by kernel_rfl)] at h
  have := h.filter (fun x => x.1 == nm)
  rwa [hf] at this
theorem tab_laid {W : World} (h : laidMetH Tryz.prog laidList W) : TabIs Tryz.prog W tabName .u64 pow10Tab :=
  tabIs_of_head (rest := []) (t := 261) (e := 150) (n := 20) Cd.gTab (by kernel_rfl) Tryz.underlying261 Tryz.underlying150 (by kernel_rfl) (by kernel_rfl)
    (var_of_laid (d := tabData .u64 pow10Tab) (by kernel_rfl) h)
theorem gDb : Tryz.prog.globalNamed (lname 1) = some 2 := by kernel_rfl
theorem db_laid {W : World} (h : laidMetH Tryz.prog laidList W) : TabIs Tryz.prog W (lname 1) .u8 (Lib.deBruijn64tab.map (fun n : Nat => (n : Int))) :=
  tabIs_of_head (rest := []) (t := 244) (e := 5) (n := 64) gDb (by kernel_rfl) Tryz.underlying244 Tryz.underlying5 (by kernel_rfl) (by kernel_rfl)
    (var_of_laid (d := tabData .u8 (Lib.deBruijn64tab.map (fun n : Nat => (n : Int)))) (by kernel_rfl) h)
theorem db_of {W : World} (h : laidMetH Tryz.prog laidList W) : DbT W := by
  have ht := db_laid h
  have hl : (Lib.deBruijn64tab.map (fun n : Nat => (n : Int))).length = 64 := by decide +kernel
  have hc : ∀ j, j < 64 → W.cell? ⟨2, j, none⟩ = some (.int .u8 (Lib.deBruijn64tab.getD j 0 : Nat)) := fun j hj => by
    rw [ht.cell gDb j (by omega)]
    have : (Lib.deBruijn64tab.map (fun n : Nat => (n : Int))).getD j 0 = ((Lib.deBruijn64tab.getD j 0 : Nat) : Int) := by
      rw [List.getD_eq_getElem?_getD, List.getD_eq_getElem?_getD, List.getElem?_map]
      cases Lib.deBruijn64tab[j]? <;> rfl
    rw [this]
  refine ⟨?_, hc⟩
  have h0 := hc 0 (by omega)
  by_cases hlt : 2 < W.heap.size
  · exact hlt
  · unfold World.cell? at h0
    rw [Array.getElem?_eq_none (by show W.heap.size ≤ 2; omega)] at h0
    simp at h0
theorem err_laid {W : World} {nm : String} {x : DataW Unit} {g : Nat} (hg : Tryz.prog.globalNamed nm = some g) (hty : (Tryz.prog.globals[g]?).map (·.type) = some 215) (hf : (laidList.filter fun x => x.1 == nm) = [(nm, x)]) (hx : ∃ nt d, x = .iface nt d) (h : laidMetH Tryz.prog laidList W) :
    ∃ te pe, W.cell? ⟨g, 0, none⟩ = some (.iface te pe) := by
  obtain ⟨nt, d, rfl⟩ := hx
  obtain ⟨ps, ⟨g0, t0, cs0, f0, p0, q0, hg0, ht0, hv0, hd0, _, _⟩, _, _⟩ := var_of_laid hf h
  obtain rfl := Option.some.inj (hg.symm.trans hg0)
  obtain rfl := Option.some.inj (hty.symm.trans ht0)
  obtain ⟨u, y, hcs⟩ := trodIface Tryz.underlying215 hd0
  have := World.var?_cell hg hv0 0
  refine ⟨u, y, ?_⟩
  rw [this]
  have e : cs0[0]? = cs0.toList[0]? := by simp
  rw [e, hcs]; rfl
theorem heap8 {W : World} (h : laidMetH Tryz.prog laidList W) : 8 ≤ W.heap.size := by
  obtain ⟨ps, ⟨g0, t0, cs0, f0, p0, q0, hg0, ht0, hv0, hd0, _, _⟩, _, _⟩ := var_of_laid (nm := lname 0) (d := YtlmhhgemiknhdaaGreatDoor.Rows.laid_math_bits_deBruijn32tab) (by kernel_rfl) h
  have hg : Tryz.prog.globalNamed (lname 0) = some 7 := by kernel_rfl
  unfold World.var? at hv0
  rw [hg] at hv0
  simp only [Option.bind_some] at hv0
  split at hv0
  · rename_i cs t f hh
    have := (Array.getElem?_eq_some_iff.1 hh).1
    omega
  · cases hv0
theorem laid_of {W : World} (h : laidMetH Tryz.prog laidList W) : Cd.LaidE W :=
  ⟨⟨tab_laid h, heap8 h⟩, err_laid (nm := lname 4) (x := YtlmhhgemiknhdaaGreatDoor.Rows.laid_strconv_ErrSyntax) (by kernel_rfl) (by kernel_rfl) (by kernel_rfl) ⟨_, _, rfl⟩ h, err_laid (nm := lname 3) (x := YtlmhhgemiknhdaaGreatDoor.Rows.laid_strconv_ErrRange) (by kernel_rfl) (by kernel_rfl) (by kernel_rfl) ⟨_, _, rfl⟩ h⟩
theorem own : ownKnob Tryz.prog.godebug = none := by kernel_rfl
theorem laidOut : laidOutB Tryz.prog = true := by kernel_rfl
theorem door_met (os : Os) (args : Array Value) : laidMetH Tryz.prog laidList ((World.doorLaid Tryz.prog 400 os).forCall (fun _ _ => 0) ⟨#[], args, []⟩).memory :=
  laidMetH_of_parts3 (fuel := 8) (laidMet_of_run' 8 (by kernel_rfl) (by kernel_rfl)) (by kernel_rfl) (by kernel_rfl)
theorem intR {n : Int} (h : (Lit.int .i64 n).wf = true) : I64 n := by
  simp only [Lit.wf, Bool.and_eq_true, decide_eq_true_eq] at h
  exact (InR_iff n).1 h
section
variable {H : Type} {enc : TypeId × Value → H} {w : World} {sp : Nat → Bool} {hd : Bool}
theorem ints_of_row {v : Value} {l : List Int} (h : ∃ ad c, v = .slice ad l.length c ∧ (l = [] ∨ ∃ b o, ad = some ⟨b, o, none⟩ ∧ b < w.heap.size ∧ ∀ (i : Nat) (h : i < l.length), w.cell? ⟨b, o + i, none⟩ = some (Value.int .i64 l[i]))) (h0 : ∀ c, v = .slice none l.length c → l.length = 0 ∧ c = 0) (hl : l.length ≤ maxLen) (hr : ∀ x ∈ l, I64 x) : Ints w v l := by
  obtain ⟨ad, c, rfl, h⟩ := h
  refine ⟨⟨ad, c, rfl, fun e => ?_, ?_⟩, hr, hl⟩
  · subst e
    exact h0 c rfl
  · rcases h with h | ⟨b, o, rfl, hlt, hc⟩
    · exact .inl h
    · refine .inr ⟨b, o, rfl, hlt, fun k x hk => ?_⟩
      rw [flat_int] at hk
      obtain ⟨hk1, hk2⟩ := List.getElem?_eq_some_iff.1 hk
      have hk1 : k < l.length := by rw [List.length_map] at hk1; exact hk1
      rw [hc k hk1, ← hk2, List.getElem_map]
theorem nil_len {t : TypeId} {n m : Nat} {c : Nat} {D : DataW H × List MemPlace} (ht : Tryz.prog.underlying t = some (.slice 3)) (h : DataW.trod enc Tryz.prog w 0 sp hd n t [.slice none m c] = some D) : m = 0 ∧ c = 0 := by
  rcases open_slice1 ht (by kernel_rfl) h with ⟨hcs, _⟩ | ⟨a', len, cap, m, n', V, D', Pl, hcs, _⟩
  · simp only [List.cons.injEq, and_true, Value.slice.injEq] at hcs
    exact hcs.2
  · simp only [List.cons.injEq, and_true, Value.slice.injEq] at hcs
    exact absurd hcs.1 (by simp)
theorem open_ints {v : Value} {n : Nat} {D : DataW H × List MemPlace} (h : DataW.trod enc Tryz.prog w 0 sp hd n 24 [v] = some D) : ∃ l, Ints w v l := by
  have h' := h
  obtain ⟨l, h1, h2, h3⟩ := rowOpen (Value.int .i64) I64 Tryz.underlying24 (by kernel_rfl) (fun V n D h => by
    obtain ⟨k, e, _, hw⟩ := DataW.trod_int Tryz.underlying3 h
    simp only [List.cons.injEq, and_true] at e
    exact ⟨k, e, intR hw⟩) h
  exact ⟨l, ints_of_row h1 (fun c e => by subst e; exact nil_len Tryz.underlying24 h') h2 h3⟩
theorem open_list {b0 : Nat} {v : Value} {d : DataW H} {ps : List MemPlace} (hval : Value.okWide Tryz.prog w .any b0 24 v) (h : DataW.Trod enc Tryz.prog w 0 sp hd 24 v d ps) : ∃ l, Ints w v l := by
  obtain ⟨a, n, c, rfl⟩ := okWide_slice Tryz.underlying24 hval
  obtain ⟨fu, hf⟩ := h
  exact open_ints hf
theorem open_grp {cs : List Value} {n : Nat} {D : DataW H × List MemPlace} (h : DataW.trod enc Tryz.prog w 0 sp hd n 23 cs = some D) : ∃ g : Grp, cs = [.int .i64 g.P, .int .i64 g.Q, .int .i64 g.G] ∧ GrpR g := by
  obtain ⟨hcl, hf⟩ := open_fields Tryz.underlying23 (by kernel_rfl) (by kernel_rfl) h
  obtain ⟨v0, y0, m0, c0, f0⟩ := hf 0 _ rfl
  obtain ⟨v1, y1, m1, c1, f1⟩ := hf 1 _ rfl
  obtain ⟨v2, y2, m2, c2, f2⟩ := hf 2 _ rfl
  obtain ⟨k0, e0, _, w0⟩ := DataW.trod_int Tryz.underlying3 f0
  obtain ⟨k1, e1, _, w1⟩ := DataW.trod_int Tryz.underlying3 f1
  obtain ⟨k2, e2, _, w2⟩ := DataW.trod_int Tryz.underlying3 f2
  simp only [List.cons.injEq, and_true] at e0 e1 e2
  have h6 : cs.length = 3 := hcl
  refine ⟨⟨k0, k1, k2⟩, ?_, ⟨intR w0, intR w1, intR w2⟩⟩
  match cs, h6 with
  | [x0, x1, x2], _ =>
    simp only [List.getElem?_cons_zero, List.getElem?_cons_succ, Option.some.injEq] at c0 c1 c2
    rw [c0, c1, c2, e0, e1, e2]
theorem cells_stp : Tryz.prog.cellsOf 26 = 5 := by kernel_rfl
theorem cells_grp : Tryz.prog.cellsOf 23 = 3 := by kernel_rfl
theorem cells_ints : Tryz.prog.cellsOf 24 = 1 := by kernel_rfl
theorem cells_int : Tryz.prog.cellsOf 3 = 1 := by kernel_rfl
theorem open_stp {b0 : Nat} {v : Value} {d : DataW H} {ps : List MemPlace} (hT : DbT w) (hval : Value.okWide Tryz.prog w .any b0 26 v) (h : DataW.Trod enc Tryz.prog w 0 sp hd 26 v d ps) : ∃ s x, v = stpV s x ∧ SetR w s x := by
  obtain ⟨cs, rfl, hs⟩ := okWide_struct Tryz.underlying26 hval
  obtain ⟨fuel, hf⟩ := h
  have hf : DataW.trod enc Tryz.prog w 0 sp hd fuel 26 cs.toList = some (d, ps) := hf
  obtain ⟨xs, m, _, _, hcl, hxl, hf⟩ := DataW.trod_struct Tryz.underlying26 hf
  rw [cells_stp] at hcl
  have hcs : cs = cs.toList.toArray := by simp
  rw [hcs]
  clear hs hcs
  generalize cs.toList = l at *
  have hxl : xs.length = 3 := hxl
  match l, hcl, xs, hxl with
  | [x0, x1, x2, x3, x4], _, [y0, y1, y2], _ =>
    have f0 : DataW.trod enc Tryz.prog w 0 sp hd m 23 (([x0, x1, x2, x3, x4].drop 0).take (Tryz.prog.cellsOf 23)) = some y0 := hf 0 _ rfl
    have f1 : DataW.trod enc Tryz.prog w 0 sp hd m 24 (([x0, x1, x2, x3, x4].drop 3).take (Tryz.prog.cellsOf 24)) = some y1 := hf 1 _ rfl
    have f2 : DataW.trod enc Tryz.prog w 0 sp hd m 3 (([x0, x1, x2, x3, x4].drop 4).take (Tryz.prog.cellsOf 3)) = some y2 := hf 2 _ rfl
    rw [cells_grp] at f0
    rw [cells_ints] at f1
    rw [cells_int] at f2
    obtain ⟨g, eg, hg⟩ := open_grp f0
    obtain ⟨l3, h3⟩ := open_ints f1
    obtain ⟨k4, e4, _, w4⟩ := DataW.trod_int Tryz.underlying3 f2
    simp only [List.drop_zero, List.take_succ_cons, List.take_zero, List.drop_succ_cons, List.cons.injEq, and_true] at eg e4
    obtain ⟨e0, e1, e2⟩ := eg
    exact ⟨⟨g, l3, k4⟩, x3, by rw [e0, e1, e2, e4], ⟨hg, h3, intR w4, hT⟩⟩
end
end Go.Proofs
namespace PrSpec
open FdSpec TkSpec CodeSpec FdPoly GrLaw
theorem itemL_take : ∀ (d : List Int) (a : List (List Int)) (k : Nat) (x : Int) (y : List Int), d[k]? = some x → a[k]? = some y → itemL (d.take (k + 1)) (a.take (k + 1)) = itemL (d.take k) (a.take k) ++ (x :: (y.length : Int) :: y)
  | [], _, _, _, _, h, _ => by simp at h
  | _ :: _, [], _, _, _, _, h => by simp at h
  | d :: ds, a :: asx, 0, x, y, h, h2 => by
    simp at h h2
    subst h; subst h2
    simp [itemL]
  | d :: ds, a :: asx, k + 1, x, y, h, h2 => by
    have := itemL_take ds asx k x y (by simpa using h) (by simpa using h2)
    simp only [List.take_succ_cons, itemL, this, List.cons_append, List.append_assoc]
theorem clauseL_take : ∀ (d : List (List Int)) (a : List (List (List Int))) (k : Nat) (x : List Int) (y : List (List Int)), d[k]? = some x → a[k]? = some y → clauseL (d.take (k + 1)) (a.take (k + 1)) = clauseL (d.take k) (a.take k) ++ ((x.length : Int) :: itemL x y)
  | [], _, _, _, _, h, _ => by simp at h
  | _ :: _, [], _, _, _, _, h => by simp at h
  | d :: ds, a :: asx, 0, x, y, h, h2 => by
    simp at h h2
    subst h; subst h2
    simp [clauseL]
  | d :: ds, a :: asx, k + 1, x, y, h, h2 => by
    have := clauseL_take ds asx k x y (by simpa using h) (by simpa using h2)
    simp only [List.take_succ_cons, clauseL, this, List.cons_append, List.append_assoc]
theorem even_iff : ∀ (ds : List (List Int)) (asx : List (List (List Int))), evenL ds asx = true ↔ ds.length = asx.length ∧ ∀ (i : Nat) (d : List Int) (a : List (List Int)), ds[i]? = some d → asx[i]? = some a → d.length = a.length
  | [], [] => by simp [evenL]
  | [], a :: asx => by simp [evenL]
  | d :: ds, [] => by simp [evenL]
  | d :: ds, a :: asx => by
    have ih := even_iff ds asx
    simp only [evenL, Bool.and_eq_true, decide_eq_true_eq, ih, List.length_cons, Nat.add_right_cancel_iff]
    constructor
    · rintro ⟨h1, h2, h3⟩
      refine ⟨h2, fun i => ?_⟩
      cases i with
      | zero => intro d' a' e1 e2; simp at e1 e2; subst e1; subst e2; exact h1
      | succ i => intro d' a' e1 e2; exact h3 i d' a' (by simpa using e1) (by simpa using e2)
    · rintro ⟨h2, h3⟩
      exact ⟨h3 0 d a (by simp) (by simp), h2, fun i d' a' e1 e2 => h3 (i + 1) d' a' (by simpa using e1) (by simpa using e2)⟩
theorem itemL_in : ∀ (d : List Int) (a : List (List Int)), (∀ x ∈ d, InR x) → (∀ y ∈ a, (y.length : Int) ≤ 9223372036854775807 ∧ ∀ x ∈ y, InR x) → ∀ x ∈ itemL d a, InR x
  | [], _, _, _ => by simp [itemL]
  | _ :: _, [], _, _ => by simp [itemL]
  | d :: ds, a :: asx, h1, h2 => by
    intro x hx
    simp only [itemL, List.mem_cons, List.mem_append] at hx
    have h3 := h2 a (by simp)
    rcases hx with rfl | rfl | hx | hx
    · exact h1 _ (by simp)
    · unfold InR; omega
    · exact h3.2 x hx
    · exact itemL_in ds asx (fun x hx => h1 x (by simp [hx])) (fun y hy => h2 y (by simp [hy])) x hx
theorem clauseL_in : ∀ (d : List (List Int)) (a : List (List (List Int))), (∀ y ∈ d, (y.length : Int) ≤ 9223372036854775807 ∧ ∀ x ∈ y, InR x) → (∀ z ∈ a, ∀ y ∈ z, (y.length : Int) ≤ 9223372036854775807 ∧ ∀ x ∈ y, InR x) → ∀ x ∈ clauseL d a, InR x
  | [], _, _, _ => by simp [clauseL]
  | _ :: _, [], _, _ => by simp [clauseL]
  | d :: ds, a :: asx, h1, h2 => by
    intro x hx
    simp only [clauseL, List.mem_cons, List.mem_append] at hx
    have h3 := h1 d (by simp)
    rcases hx with rfl | hx | hx
    · unfold InR; omega
    · exact itemL_in d a h3.2 (fun y hy => h2 a (by simp) y hy) x hx
    · exact clauseL_in ds asx (fun y hy => h1 y (by simp [hy])) (fun z hz => h2 z (by simp [hz])) x hx
end PrSpec
namespace PrSpec
open FdSpec TkSpec CodeSpec FdPoly GrLaw
theorem itemL_le {N : Nat} : ∀ (d : List Int) (a : List (List Int)), (∀ y ∈ a, y.length ≤ N) → (itemL d a).length ≤ (N + 2) * d.length
  | [], _, _ => by simp [itemL]
  | _ :: _, [], _ => by simp [itemL]
  | d :: ds, a :: asx, h => by
    have ih := itemL_le ds asx (fun y hy => h y (by simp [hy]))
    have h1 := h a (by simp)
    simp only [itemL, List.length_cons, List.length_append, Nat.mul_add, Nat.mul_one]
    omega
theorem clauseL_le {N : Nat} : ∀ (d : List (List Int)) (a : List (List (List Int))), (∀ y ∈ d, y.length ≤ N) → (∀ z ∈ a, ∀ y ∈ z, y.length ≤ N) → (clauseL d a).length ≤ ((N + 2) * N + 1) * d.length
  | [], _, _, _ => by simp [clauseL]
  | _ :: _, [], _, _ => by simp [clauseL]
  | d :: ds, a :: asx, h, h2 => by
    have ih := clauseL_le ds asx (fun y hy => h y (by simp [hy])) (fun z hz => h2 z (by simp [hz]))
    have h1 := itemL_le d a (h2 a (by simp))
    have h3 := h d (by simp)
    have h4 : (N + 2) * d.length ≤ (N + 2) * N := Nat.mul_le_mul_left _ h3
    simp only [clauseL, List.length_cons, List.length_append, Nat.mul_add, Nat.mul_one]
    simp only [Nat.add_mul, Nat.mul_add, Nat.one_mul, Nat.mul_one] at *
    omega
structure SmallP (N : Nat) (ds : List (List Int)) (asx : List (List (List Int))) : Prop where
  n : ds.length ≤ N
  d : ∀ y ∈ ds, y.length ≤ N
  a : ∀ z ∈ asx, ∀ y ∈ z, y.length ≤ N
theorem clauseL_small {ds : List (List Int)} {asx : List (List (List Int))} (h : SmallP 1000 ds asx) (i : Nat) : (clauseL (ds.take i) (asx.take i)).length ≤ 1002001000 := by
  have := clauseL_le (N := 1000) (ds.take i) (asx.take i) (fun y hy => h.d y (List.mem_of_mem_take hy)) (fun z hz => h.a z (List.mem_of_mem_take hz))
  have h2 : (ds.take i).length ≤ 1000 := by rw [List.length_take]; have := h.n; omega
  have h3 : ((1000 + 2) * 1000 + 1) * (ds.take i).length ≤ ((1000 + 2) * 1000 + 1) * 1000 := Nat.mul_le_mul_left _ h2
  omega
end PrSpec
namespace Go.Proofs
open Go Go.Sh Go.RowKit FdSpec TkSpec CodeSpec PrSpec
set_option linter.unusedSimpArgs false
set_option linter.unusedVariables false
set_option maxRecDepth 10000
section
variable {K : Value → World → Prop} {w w' w0 W : World} {L : List (Addr × Value)}
theorem _root_.Go.Proofs.SRow.one {α : Type} {R : World → Value → α → Prop} {ad : Option Addr} {m c : Nat} {l : List α} (h : SRow 1 (AtOf 1 (VOne R)) w (.slice ad m c) l) {i : Nat} (hi : i < l.length) : ∃ b o v, ad = some ⟨b, o, none⟩ ∧ b < w.heap.size ∧ w.cell? ⟨b, o + i, none⟩ = some v ∧ R w v l[i] := by
  obtain ⟨b, o, rfl, hlt, cs, hc, h1, v, rfl, h2⟩ := h.at hi
  refine ⟨b, o, v, rfl, hlt, ?_, h2⟩
  have := h1 0 v rfl
  rwa [Nat.mul_one, Nat.add_zero] at this
theorem appendNg {B : Nat} {T : TypeId} {v xv : Value} {l m : List Int} (ho : OwnI w B v l) (hB : B ≤ w.heap.size) (hx : Ints w xv m) (hl : l.length + m.length < 1099511627776)
    (k : ∀ v' w', OwnI w' B v' (l ++ m) → w.grownBy w' v.ownBlock → (∀ i, v'.ownBlock = some i → v.ownBlock = some i ∨ w.heap.size ≤ i) → K v' w') : oM Tryz.prog (.call { callee := .builtin .append, args := #[.tmp 0, .tmp 1], argTypes := #[24, 24] }) T [v, xv] K w := by
  obtain ⟨⟨ad, c, rfl, h0, hc⟩, hr, _⟩ := hx
  have hfl : (flat intC m).length = m.length := by rw [flat_int]; simp
  refine append_at 24 T 3 ((Tryz.prog.info? 3).getD default) (.int .i64 0) 1 8 (by kernel_rfl) (by kernel_rfl) (by kernel_rfl) (by kernel_rfl) (by kernel_rfl) (by kernel_rfl) (by omega) (owns_base ho (Nat.zero_le _)) (flat intC m) (by rw [hfl]; omega) h0 ?_ ?_ (by simp only [maxLen]; omega) (by omega) ?_
  · rintro a ha j u hj
    rcases hc with hc | ⟨b, o, e, hlt, hcell⟩
    · subst hc; simp [flat] at hj
    · rw [e] at ha
      cases ha
      rw [add_none]
      exact hcell j u hj
  · intro u hu
    rw [flat_int] at hu
    obtain ⟨n, _, rfl⟩ := List.mem_map.1 hu
    rfl
  · intro v' w' ho' hg hv
    refine k v' w' ?_ hg hv
    show w'.ownsRow B 3 1 v' (l ++ m).length (flat intC (l ++ m))
    rw [List.length_append, flat_append]
    exact owns_up ho' (fun i hi => (hv i hi).elim (fun h => (owns_own ho h).2.1) (fun h => Nat.le_trans hB h))
theorem mk1o {T : TypeId} (x : Int) (k : ∀ v W, Below w.heap.size w W → OwnI W w.heap.size v [x] → K v W) : oM Tryz.prog (.buildSlice 24 1 #[(0, .tmp 0)]) T [.int .i64 x] K w := by
  rw [oM_buildSlice1]
  have e : (Instr.buildSlice 24 1 #[(0, .int .i64 x)]).run Tryz.prog w = .ok (.slice (some ⟨w.heap.size, 0, none⟩) 1 1) (w.alloc (.cells #[.int .i64 x] 3)) := by kernel_rfl
  rw [e]
  exact k _ _ ((Below.refl _ w).alloc (Nat.le_refl _) _) (World.ownsRow_lit w #[.int .i64 x] 1 (Nat.le_refl _) (by decide) rfl)
@[go_sem] theorem idx_lists (T : TypeId) (b o n c : Nat) (x : Int) : oM Tryz.prog (.indexAddr 30 (.tmp 0) (.tmp 1)) T [.slice (some ⟨b, o, none⟩) n c, .int .i64 x] = onM (0 ≤ x ∧ x < n) (.pointer (some ⟨b, o + x.toNat, none⟩)) := by
  have := idx_row (K := fun _ _ => True) (P := Tryz.prog) (n := 1) 30 T (by kernel_rfl) (fun w => by kernel_rfl) b o n c x
  rwa [Nat.mul_one] at this
@[go_sem] theorem idx_nums (T : TypeId) (b o n c : Nat) (x : Int) : oM Tryz.prog (.indexAddr 29 (.tmp 0) (.tmp 1)) T [.slice (some ⟨b, o, none⟩) n c, .int .i64 x] = onM (0 ≤ x ∧ x < n) (.pointer (some ⟨b, o + x.toNat, none⟩)) := by
  have := idx_row (K := fun _ _ => True) (P := Tryz.prog) (n := 1) 29 T (by kernel_rfl) (fun w => by kernel_rfl) b o n c x
  rwa [Nat.mul_one] at this
@[reducible] def prfC (dv av : Value) : List Value := [dv, av]
@[reducible] def prfV (dv av : Value) : Value := .agg #[dv, av]
theorem encNums_le {l : List Int} (h : ∀ x ∈ l, InR x) (hl : l.length ≤ 10000000000) : (encList (l.map encInt)).length ≤ 22 * l.length + 30 := by
  have h3 : (Lib.itoa (l.length : Int)).length ≤ 20 := itoa_len _ (by unfold InR; omega)
  have h4 : ∀ l : List Int, (∀ x ∈ l, InR x) → ((l.map encInt).flatten).length ≤ 22 * l.length := by
    intro l
    induction l with
    | nil => simp
    | cons a l ih =>
      intro h
      have h1 := Cd.encInt_len a (h a (by simp))
      have h2 := ih (fun x hx => h x (by simp [hx]))
      simp only [List.map_cons, List.flatten_cons, List.length_append, List.length_cons]
      omega
  have h5 := h4 l h
  simp only [encList, List.length_append, List.length_cons, List.length_nil, List.length_map] at *
  omega
def EnJ (ds : List (List Int)) (ls : List (List (List Int))) (w0 : World) (vs : List Value) (w' : World) : Prop := Below w0.heap.size w0 w' ∧ ∃ (u1 u2 ov u5 u6 : Value) (i : Nat), vs = [u1, u2, .string ⟨#[]⟩, .bool false, ov, u5, u6, .int .i64 (i : Int)] ∧ i ≤ ds.length ∧
  OwnI w' w0.heap.size ov ((ds.length : Int) :: clauseL (ds.take i) (ls.take i)) ∧ ∀ (j : Nat) (d : List Int) (a : List (List Int)), j < i → ds[j]? = some d → ls[j]? = some a → d.length = a.length
def EiJ (w0 w1 : World) (pre : List Int) (d : List Int) (a : List (List Int)) (vs : List Value) (w' : World) : Prop := Below w0.heap.size w0 w' ∧ ∃ (u1 u2 ov : Value) (k : Nat), vs = [u1, u2, ov, .int .i64 (k : Int)] ∧ k ≤ d.length ∧ OwnI w' w0.heap.size ov (pre ++ itemL (d.take k) (a.take k))
theorem Encode_ok (ds : List (List Int)) (ls : List (List (List Int))) {dv av : Value} (hd : ListsR w dv ds) (ha : NumsR w av ls) (hl : Cd.Laid w) (hsm : SmallP 1000 ds ls)
    (k : ∀ w', Below w.heap.size w w' → K (.tuple #[.string ⟨(encodeM ds ls).1.toArray⟩, .bool (encodeM ds ls).2]) w') : callM Tryz.prog 51 #[prfV dv av] K w := by
  apply sh_51_ok
  unfold sh_51
  have hd' := hd
  have ha' := ha
  obtain ⟨dad, dc, rfl⟩ := hd.isSlice
  obtain ⟨aad, ac, rfl⟩ := ha.isSlice
  refine box_kn (cs := prfC (.slice dad ds.length dc) (.slice aad ls.length ac)) rfl (.start w) fun b1 W hk hb1 hbb => ?_
  clear hb1 hbb
  have no : evenL ds ls = false → ∀ w', Below w.heap.size w w' → K (.tuple #[.string ⟨#[]⟩, .bool false]) w' := fun e w' hb => by
    have := k w' hb
    unfold encodeM at this
    rw [e] at this
    exact this
  by_cases hln : ¬ ds.length = ls.length
  · have hln' : ¬ (ds.length : Int) = ls.length := by omega
    repeat (any_goals (first
    | (with_reducible ((refine idCond ?_); refine yL ?_))
    | ((with_reducible refine idO ?_); (with_reducible refine oM_gen fun Kv hK=>?_); simp [go_sem, hk.cells, hln']; refine hK _ _ ?_; clear hK; clear Kv)))
    refine no ?_ _ hk.below
    cases e : evenL ds ls with
    | false => rfl
    | true => exact absurd ((even_iff ds ls).1 e).1 hln
  have hln : ds.length = ls.length := by omega
  have hln' : (ds.length : Int) = ls.length := by omega
  iterate 11 (any_goals (first
  | (with_reducible ((refine idCond ?_); refine yM ?_))
  | ((with_reducible refine idO ?_); (with_reducible refine oM_gen fun Kv hK=>?_); simp [go_sem, hk.cells, hln']; refine hK _ _ ?_; clear hK; clear Kv)))
  refine mk1o _ (fun v1 w1 h1 ho1 => ?_)
  have hk0 := hk
  have hk := hk.next h1
  repeat (any_goals ((with_reducible refine idO ?_); (with_reducible refine oM_gen fun Kv hK=>?_); simp [go_sem, hk.cells]; refine hK _ _ ?_; clear hK; clear Kv))
  refine ⟨EnJ ds ls W, (fun vs _ => match vs with | [_, _, _, _, _, _, _, .int _ i] => ds.length - i.toNat | _ => 0), ⟨h1, _, _, _, _, _, 0, rfl, by omega, by simpa [clauseL, hln] using ho1, fun j d a hj => by omega⟩, ?_⟩
  rintro _ _ w3 ⟨hb3, u1, u2, ov, u5, u6, i, rfl, hi, ho, hev⟩
  have hWs := hb3.size
  have hdlen := hd'.len
  have hcl := clauseL_small hsm i
  have hk := hk0.next hb3
  by_cases hin : i = ds.length
  · have hall : evenL ds ls = true := (even_iff ds ls).2 ⟨hln, fun j d a e1 e2 => hev j d a (by rw [hin]; exact (List.getElem?_eq_some_iff.1 e1).1) e1 e2⟩
    rw [List.take_of_length_le (by omega), List.take_of_length_le (by omega)] at ho
    have hinr : ∀ x ∈ (ds.length : Int) :: clauseL ds ls, InR x := by
      intro x hx
      rcases List.mem_cons.1 hx with rfl | hx
      · unfold InR; omega
      · refine clauseL_in ds ls (fun y hy => ?_) (fun z hz y hy => ?_) x hx
        · obtain ⟨j, hj, rfl⟩ := List.getElem_of_mem hy
          obtain ⟨_, _, _, _, _, _, h⟩ := hd'.one (i := j) hj
          exact ⟨by have := h.len; omega, fun x hx => (InR_iff x).2 (h.rng x hx)⟩
        · obtain ⟨j, hj, rfl⟩ := List.getElem_of_mem hz
          obtain ⟨_, _, v, _, _, _, h⟩ := ha'.one (i := j) hj
          obtain ⟨j2, hj2, rfl⟩ := List.getElem_of_mem hy
          obtain ⟨ad, c, rfl⟩ := h.isSlice
          obtain ⟨_, _, _, _, _, _, h⟩ := h.one (i := j2) hj2
          exact ⟨by have := h.len; omega, fun x hx => (InR_iff x).2 (h.rng x hx)⟩
    have hcl2 : (clauseL ds ls).length ≤ 1002001000 := by
      have := clauseL_small hsm ds.length
      rwa [List.take_of_length_le (by omega), List.take_of_length_le (by omega)] at this
    have hle := encNums_le hinr (by rw [List.length_cons]; omega)
    repeat (any_goals (first
    | (with_reducible ((refine idCond ?_); refine yO ?_))
    | ((with_reducible refine idO ?_); (with_reducible refine oM_gen fun Kv hK=>?_); simp [go_sem, hk.cells]; refine hK _ _ ?_; clear hK; clear Kv)))
    refine Cd.pNums_ok _ _ (hl.below hk.below hl.size) (Ints.rowOf (ho.ints (fun x hx => (InR_iff x).1 (hinr x hx)) (by rw [List.length_cons]; omega))) hinr (by rw [List.length_cons] at hle; omega) (fun w4 h4 => ?_)
    skip
    have := k _ (hk.next h4).below
    unfold encodeM at this
    rw [hall, if_pos rfl] at this
    exact this
  obtain ⟨b5, o5, v5, rfl, hb5, c5, i5⟩ := hd'.one (i := i) (by omega)
  obtain ⟨b6, o6, v6, rfl, hb6, c6, i6⟩ := ha'.one (i := i) (by omega)
  have e5 : ds[i]? = some ds[i] := List.getElem?_eq_getElem (by omega)
  have e6 : ls[i]? = some ls[i] := List.getElem?_eq_getElem (by omega)
  have m5 : ds[i] ∈ ds := List.getElem_mem _
  have m6 : ls[i] ∈ ls := List.getElem_mem _
  have hstep := clauseL_take ds ls i _ _ e5 e6
  generalize ds[i] = d at *
  generalize ls[i] = a at *
  obtain ⟨ad5, cp5, rfl⟩ := i5.isSlice
  obtain ⟨ad6, cp6, rfl⟩ := i6.isSlice
  by_cases hda : ¬ d.length = a.length
  · have hda' : ¬ (d.length : Int) = a.length := by omega
    repeat (any_goals (first
    | (with_reducible ((refine idCond ?_); first|refine yL ?_|refine yN ?_))
    | ((with_reducible refine idO ?_); (with_reducible refine oM_gen fun Kv hK=>?_); simp [go_sem, hk.cells, (hk.below.cell hb5).trans c5, (hk.below.cell hb6).trans c6, hda']; (first|refine hK _ _ ?_|refine And.intro (by omega) (hK _ _ ?_)); clear hK; clear Kv)))
    refine no ?_ _ hk.below
    cases e : evenL ds ls with
    | false => rfl
    | true => exact absurd (((even_iff ds ls).1 e).2 i d a e5 e6) hda
  have hda : d.length = a.length := by omega
  have hda' : (d.length : Int) = a.length := by omega
  iterate 13 (any_goals (first
  | (with_reducible ((refine idCond ?_); first|refine yM ?_|refine yN ?_))
  | ((with_reducible refine idO ?_); (with_reducible refine oM_gen fun Kv hK=>?_); simp [go_sem, hk.cells, (hk.below.cell hb5).trans c5, (hk.below.cell hb6).trans c6, hda']; (first|refine hK _ _ ?_|refine And.intro (by omega) (hK _ _ ?_)); clear hK; clear Kv)))
  refine mk1g _ (by have := i5.len; unfold I64; omega) (fun v7 w7 h7 hi7 _ => ?_)
  have hb7 := hb3.on h7
  refine append1g (ho.keep h7) hb7.size hi7 (by rw [List.length_cons]; omega) (fun v8 w8 ho8 hg8 hv8 => ?_)
  have hoo := fun j hj => owns_own (i := j) (ho.keep h7) hj
  have hb8 := hb7.grown hg8 hb7.size (fun j hj => (hoo j hj).2.1)
  rw [← hda] at ho8
  iterate 1 (any_goals ((with_reducible refine idO ?_); (with_reducible refine oM_gen fun Kv hK=>?_); simp [go_sem]; refine hK _ _ ?_; clear hK; clear Kv))
  have hil := itemL_le (N := 1000) d a (hsm.a a m6)
  have hdl := hsm.d d m5
  have hil2 : (1000 + 2) * d.length ≤ (1000 + 2) * 1000 := Nat.mul_le_mul_left _ hdl
  refine ⟨EiJ W w8 (((ds.length : Int) :: clauseL (ds.take i) (ls.take i)) ++ [(d.length : Int)]) d a, (fun vs _ => match vs with | [_, _, _, .int _ i] => d.length - i.toNat | _ => 0), ⟨hb8, _, _, _, 0, rfl, by omega, by simpa [itemL] using ho8⟩, ?_⟩
  rintro _ _ w9 ⟨hb9, u8, u9, ov, j, rfl, hj, ho⟩
  have hk := hk0.next hb9
  by_cases hjn : j = d.length
  · rw [List.take_of_length_le (l := d) (by omega), List.take_of_length_le (l := a) (by omega)] at ho
    repeat (any_goals (first
    | (with_reducible ((refine idCond ?_); refine yO ?_))
    | ((with_reducible refine idO ?_); (with_reducible refine oM_gen fun Kv hK=>?_); simp [go_sem]; (try simp (disch := omega) only [wrapI64, wrapU8, wrapU32, wrapU64]); refine hK _ _ ?_; clear hK; clear Kv)))
    refine ⟨⟨hb9, _, _, _, _, _, i + 1, rfl, by omega, ?_, ?_⟩, by show ds.length - (((i + 1 : Nat) : Int)).toNat < ds.length - ((i : Nat) : Int).toNat; omega⟩
    · rw [hstep]
      simpa using ho
    · intro j' d' a' hj' e1 e2
      by_cases h : j' = i
      · subst h
        rw [e5] at e1; rw [e6] at e2
        cases e1; cases e2
        exact hda
      · exact hev j' d' a' (by omega) e1 e2
  obtain ⟨b10, o10, rfl, hb10, c10, r10, _⟩ := i5.at (i := j) (by omega)
  obtain ⟨b11, o11, v11, rfl, hb11, c11, i11⟩ := i6.one (i := j) (by omega)
  have e10 : d[j]? = some d[j] := List.getElem?_eq_getElem (by omega)
  have e11 : a[j]? = some a[j] := List.getElem?_eq_getElem (by omega)
  have m11 : a[j] ∈ a := List.getElem_mem _
  have hin2 := itemL_take d a j _ _ e10 e11
  have hyl := hsm.a a m6 _ m11
  have hil3 := itemL_le (N := 1000) (d.take j) (a.take j) (fun y hy => hsm.a a m6 y (List.mem_of_mem_take hy))
  have hil4 : (1000 + 2) * (d.take j).length ≤ (1000 + 2) * 1000 := Nat.mul_le_mul_left _ (by rw [List.length_take]; omega)
  generalize d[j] = x at *
  generalize a[j] = y at *
  obtain ⟨ad11, cp11, rfl⟩ := i11.isSlice
  have hal : a.length ≤ 9223372036854775807 := by omega
  have hjl : (j : Int) < a.length := by omega
  have hil0 : (i : Int) < ls.length := by omega
  repeat (any_goals (first
  | (with_reducible ((refine idCond ?_); refine yN ?_))
  | ((with_reducible refine idO ?_); (with_reducible refine oM_gen fun Kv hK=>?_); simp [go_sem, c10 _ hk.below]; (first|refine hK _ _ ?_|refine And.intro (by omega) (hK _ _ ?_)); clear hK; clear Kv)))
  have hk10 := hk.drew
  have hb10' : Below W.heap.size W { w9 with drawn := w9.drawn + 1 } := hb9.on .drawn
  have ho10 := ho.keep (.drawn (w := w9) (B := w9.heap.size))
  refine ⟨fun w' => Below W.heap.size W w', hb10', ?_⟩
  generalize ({ w9 with drawn := w9.drawn + 1 } : World) = W9 at hk10 hb10' ho10 ⊢
  have ylI : I64 (y.length : Int) := by have := i11.len; unfold I64; omega
  repeat (any_goals (first
  | ((with_reducible refine mk2 x (y.length : Int) r10 ylI ?_); intro v12 w12 h12 hi12)
  | (with_reducible refine pureH_in ?_)
  | ((with_reducible refine idOH ?_); (with_reducible refine oH_of ⟨_, rfl⟩ (fun W0 hW0 => by (refine oM_gen (fun Kv hK => ?_)); simp [go_sem, (hk0.next hW0).cells, ((hk0.next hW0).below.cell hb6).trans c6, ((hk0.next hW0).below.cell hb11).trans c11]; (first | exact hK _ _ ⟨rfl, rfl⟩ | exact ⟨by omega, hK _ _ ⟨rfl, rfl⟩⟩)) ?_))))
  have hb12 := hb10'.on h12
  refine ⟨hb12, ?_⟩
  have hpl : (((ds.length : Int) :: clauseL (ds.take i) (ls.take i)) ++ [(d.length : Int)] ++ itemL (d.take j) (a.take j)).length ≤ 1003003003 := by
    rw [List.length_append, List.length_append, List.length_cons, List.length_singleton]; omega
  have ho12 := ho10.keep h12
  refine appendNg ho12 hb12.size hi12 (by simp only [List.length_cons, List.length_nil] at hpl ⊢; omega) (fun v13 w13 ho13 hg13 hv13 => ?_)
  have hb13 := hb12.grown hg13 hb12.size (fun j hj => (owns_own ho12 hj).2.1)
  refine ⟨hb13, ?_⟩
  refine appendNg ho13 hb13.size (i11.next (hk0.next hb13).below) (by rw [List.length_append]; simp only [List.length_cons, List.length_nil] at hpl ⊢; omega) (fun v14 w14 ho14 hg14 hv14 => ?_)
  have hb14 := hb13.grown hg14 hb13.size (fun j hj => (owns_own ho13 hj).2.1)
  refine ⟨hb14, hb14, ?_⟩
  repeat (any_goals ((with_reducible refine idO ?_); (with_reducible refine oM_gen fun Kv hK=>?_); simp [go_sem]; (try simp (disch := omega) only [wrapI64, wrapU8, wrapU32, wrapU64]); refine hK _ _ ?_; clear hK; clear Kv))
  refine ⟨⟨hb14, _, _, _, j + 1, rfl, by omega, ?_⟩, by show d.length - (((j + 1 : Nat) : Int)).toNat < d.length - ((j : Nat) : Int).toNat; omega⟩
  rw [hin2]
  simpa using ho14
end
end Go.Proofs
namespace Go.Proofs
open Go Go.Sh Go.RowKit Go.Lib CodeSpec TkSpec FdSpec PrSpec Go.ChangeShapes Go.WideShapes Go.ChangeAt Go.Deep
set_option linter.unusedSimpArgs false
set_option maxRecDepth 100000
section
variable {H : Type} {enc : TypeId × Value → H} {w : World} {sp : Nat → Bool} {hd : Bool}
theorem rowsOpen {P : Program} {α : Type} {n : Nat} {At : World → Nat → Nat → α → Prop} {t e : TypeId} {v : Value} {m0 : Nat} {D : DataW H × List MemPlace} (ht : P.underlying t = some (.slice e)) (hC : P.cellsOf e = n) (hn : 0 < n)
    (hrd : ∀ (cs : List Value) (b p m : Nat) (D : DataW H × List MemPlace), cs.length = n → (∀ (j : Nat) (u : Value), cs[j]? = some u → w.cell? ⟨b, p + j, none⟩ = some u) → DataW.trod enc P w 0 sp hd m e cs = some D → ∃ x, At w b p x)
    (h : DataW.trod enc P w 0 sp hd m0 t [v] = some D) : ∃ l : List α, SRow n At w v l := by
  rcases open_slice ht h with ⟨hcs, _⟩ | ⟨a', len, cap, m, n', D', Pl, hcs, _, hl, hm, hmm, _, hi⟩
  · simp only [List.cons.injEq, and_true] at hcs
    subst hcs
    exact ⟨[], ⟨none, 0, rfl, .inl rfl⟩, by simp⟩
  · simp only [List.cons.injEq, and_true] at hcs
    subst hcs
    subst hC
    have hml : len ≤ m := by rw [hmm]; split <;> omega
    by_cases h0 : len = 0
    · subst h0
      exact ⟨[], ⟨some a', cap, rfl, .inl rfl⟩, by simp⟩
    obtain ⟨cs0, hc0, _⟩ := hi 0 (by omega)
    obtain ⟨_, hl0, h00⟩ := World.cells?_some hc0
    have h00 := h00 0 hn
    rw [Nat.zero_mul] at h00
    have e0 : (a'.add 0).add 0 = a' := by simp [Addr.add]
    rw [e0, List.getElem?_eq_getElem (by omega)] at h00
    obtain ⟨hb, hs⟩ := cell_lt h00
    obtain ⟨b, o, s⟩ := a'
    simp only at hs hb
    subst hs
    have key : ∀ i : Fin len, ∃ x, At w b (o + i * P.cellsOf e) x := fun i => by
      obtain ⟨cs, hc, ht2⟩ := hi i (by have := i.2; omega)
      obtain ⟨_, hcl, hat⟩ := World.cells?_some hc
      refine hrd cs b (o + i * P.cellsOf e) _ _ hcl (fun j u hj => ?_) ht2
      have hjl := (List.getElem?_eq_some_iff.1 hj).1
      have := hat j (by omega)
      rw [addr_add', addr_add'] at this
      rw [this, hj]
    refine ⟨List.ofFn (fun i => (key i).choose), ⟨some ⟨b, o, none⟩, cap, by rw [List.length_ofFn], .inr ⟨b, o, rfl, hb, fun i hil => ?_⟩⟩, by rw [List.length_ofFn]; simp only [maxLen] at hm; omega⟩
    rw [List.length_ofFn] at hil
    rw [List.getElem_ofFn]
    exact (key ⟨i, hil⟩).choose_spec
end
end Go.Proofs
namespace Go.Proofs
open Go Go.Sh Go.RowKit FdSpec TkSpec CodeSpec PrSpec
set_option linter.unusedSimpArgs false
set_option linter.unusedVariables false
set_option maxRecDepth 10000
section
variable {K : Value → World → Prop} {w w' w0 W : World} {L : List (Addr × Value)}
abbrev ListG (B : Nat) (D : Nat → Prop) (w : World) (v : Value) (l : List (List Int)) : Prop := GRow 1 24 (VOne Ints) B D w v l
abbrev NumG (B : Nat) (D : Nat → Prop) (w : World) (v : Value) (l : List (List (List Int))) : Prop := GRow 1 30 (VOne ListsR) B D w v l
theorem lit_ints {T : TypeId} (ad : Option Addr) (n c : Nat) (k : ∀ g W, Below w.heap.size w W → w.heap.size ≤ g → Holds W g 24 [.slice ad n c] → K (.slice (some ⟨g, 0, none⟩) 1 1) W) : oM Tryz.prog (.buildSlice 30 1 #[(0, .tmp 0)]) T [.slice ad n c] K w := by
  rw [oM_buildSlice1]; exact lit_run (by kernel_rfl) k
theorem lit_lists {T : TypeId} (ad : Option Addr) (n c : Nat) (k : ∀ g W, Below w.heap.size w W → w.heap.size ≤ g → Holds W g 30 [.slice ad n c] → K (.slice (some ⟨g, 0, none⟩) 1 1) W) : oM Tryz.prog (.buildSlice 29 1 #[(0, .tmp 0)]) T [.slice ad n c] K w := by
  rw [oM_buildSlice1]; exact lit_run (by kernel_rfl) k
theorem ints_append {B g c n : Nat} {D : Nat → Prop} {v : Value} {l : List (List Int)} {x : List Int} {T : TypeId} (h : ListG B D w v l) (hB : B ≤ w.heap.size) {b : Nat} {ad : Option Addr} (hh : Holds w b 24 [.slice ad n c])
    (hx : FP D w (fun w => Ints w (.slice ad n c) x)) (hD : Off D w v) (hl : l.length < 1099511627776)
    (k : ∀ v' w', ListG B D w' v' (l ++ [x]) → w.grownBy w' v.ownBlock → (∀ i, v'.ownBlock = some i → v.ownBlock = some i ∨ w.heap.size ≤ i) → Off D w' v' → K v' w') :
    oM Tryz.prog (.call { callee := .builtin .append, args := #[.tmp 0, .tmp 1], argTypes := #[30, 30] }) T [v, .slice (some ⟨b, 0, none⟩) 1 g] K w := by
  refine grow_append 30 T ((Tryz.prog.info? 24).getD default) (.slice none 0 0) 24 (by kernel_rfl) (by kernel_rfl) (by kernel_rfl) (by kernel_rfl) (by kernel_rfl) (by kernel_rfl) (by decide) (by decide)
    h hB (xs := [.slice ad n c]) rfl ?_ (row_one _ _ _) (hx.imp fun w h => ⟨_, rfl, h⟩) hD hl k
  intro j u hj
  rw [cell_of_block hh]
  simpa using hj
theorem lists_append {B g c n : Nat} {D : Nat → Prop} {v : Value} {l : List (List (List Int))} {x : List (List Int)} {T : TypeId} (h : NumG B D w v l) (hB : B ≤ w.heap.size) {b : Nat} {ad : Option Addr} (hh : Holds w b 30 [.slice ad n c])
    (hx : FP D w (fun w => ListsR w (.slice ad n c) x)) (hD : Off D w v) (hl : l.length < 1099511627776)
    (k : ∀ v' w', NumG B D w' v' (l ++ [x]) → w.grownBy w' v.ownBlock → (∀ i, v'.ownBlock = some i → v.ownBlock = some i ∨ w.heap.size ≤ i) → Off D w' v' → K v' w') :
    oM Tryz.prog (.call { callee := .builtin .append, args := #[.tmp 0, .tmp 1], argTypes := #[29, 29] }) T [v, .slice (some ⟨b, 0, none⟩) 1 g] K w := by
  refine grow_append 29 T ((Tryz.prog.info? 30).getD default) (.slice none 0 0) 24 (by kernel_rfl) (by kernel_rfl) (by kernel_rfl) (by kernel_rfl) (by kernel_rfl) (by kernel_rfl) (by decide) (by decide)
    h hB (xs := [.slice ad n c]) rfl ?_ (row_one _ _ _) (hx.imp fun w h => ⟨_, rfl, h⟩) hD hl k
  intro j u hj
  rw [cell_of_block hh]
  simpa using hj
structure Duo (B : Nat) (D : Nat → Prop) (W : World) (v0 u0 : Value) (w : World) (v u : Value) (l : List (List Int)) (m : List (List (List Int))) : Prop where
  fr : Fr (fun i => v0.ownBlock = some i ∨ u0.ownBlock = some i) W w
  a : ListG B D w v l
  b : NumG B D w u m
  oa : Off D w v
  ob : Off D w u
  ap : apart v u
  la : ∀ i, v.ownBlock = some i → v0.ownBlock = some i ∨ W.heap.size ≤ i
  lb : ∀ i, u.ownBlock = some i → u0.ownBlock = some i ∨ W.heap.size ≤ i
  B : B ≤ W.heap.size
theorem Duo.start {B : Nat} {D : Nat → Prop} {v u : Value} {l : List (List Int)} {m : List (List (List Int))} (a : ListG B D w v l) (b : NumG B D w u m) (oa : Off D w v) (ob : Off D w u) (ap : apart v u) (hB : B ≤ w.heap.size) : Duo B D w v u w v u l m :=
  ⟨Fr.refl _ _, a, b, oa, ob, ap, fun _ h => .inl h, fun _ h => .inl h, hB⟩
section
variable {B : Nat} {D : Nat → Prop} {v0 u0 v u : Value} {l : List (List Int)} {m : List (List (List Int))}
theorem Duo.next (h : Duo B D W v0 u0 w v u l m) (hb : Below w.heap.size w w') : Duo B D W v0 u0 w' v u l m :=
  ⟨h.fr.trans (S' := fun _ => False) (Fr.of_below hb) (fun _ h => h.elim), h.a.next hb (fun i hi => (h.oa i hi).1), h.b.next hb (fun i hi => (h.oa i hi).1), h.oa.next hb.size, h.ob.next hb.size, h.ap, h.la, h.lb, h.B⟩
theorem Duo.addA {b g n c : Nat} {ad : Option Addr} {x : List Int} {T : TypeId} (h : Duo B D W v0 u0 w v u l m) (hh : Holds w b 24 [.slice ad n c]) (hx : FP D W (fun w => Ints w (.slice ad n c) x)) (hD0 : ∀ i, D i → i < W.heap.size ∧ v0.ownBlock ≠ some i ∧ u0.ownBlock ≠ some i) (hl : l.length < 1099511627776)
    (k : ∀ v' w', Duo B D W v0 u0 w' v' u (l ++ [x]) m → w.grownBy w' v.ownBlock → K v' w') :
    oM Tryz.prog (.call { callee := .builtin .append, args := #[.tmp 0, .tmp 1], argTypes := #[30, 30] }) T [v, .slice (some ⟨b, 0, none⟩) 1 g] K w := by
  have hx' := hx.fr h.fr (fun i hi => ⟨(hD0 i hi).1, fun e => e.elim (hD0 i hi).2.1 (hD0 i hi).2.2⟩)
  refine ints_append h.a (Nat.le_trans h.B h.fr.size) hh hx' h.oa hl (fun v' w' hg hb hv ho => k v' w' ⟨h.fr.by hb (fun i e => (h.la i e).imp .inl id), hg, ?_, ho, h.ob.next hb.size, ?_, ?_, h.lb, h.B⟩ hb)
  · exact h.b.keep (Fr.of_by' hb) (fun i hi => ⟨(h.oa i hi).1, (h.oa i hi).2⟩) (fun i hi e => h.ap i e hi)
  · intro i e1 e2
    rcases hv i e1 with h1 | h1
    · exact h.ap i h1 e2
    · have := (h.b.own e2).1; omega
  · intro i e1
    rcases hv i e1 with h1 | h1
    · exact h.la i h1
    · exact .inr (Nat.le_trans h.fr.size h1)
theorem Duo.addB {b g n c : Nat} {ad : Option Addr} {x : List (List Int)} {T : TypeId} (h : Duo B D W v0 u0 w v u l m) (hh : Holds w b 30 [.slice ad n c]) (hx : FP D W (fun w => ListsR w (.slice ad n c) x)) (hD0 : ∀ i, D i → i < W.heap.size ∧ v0.ownBlock ≠ some i ∧ u0.ownBlock ≠ some i) (hl : m.length < 1099511627776)
    (k : ∀ u' w', Duo B D W v0 u0 w' v u' l (m ++ [x]) → w.grownBy w' u.ownBlock → K u' w') :
    oM Tryz.prog (.call { callee := .builtin .append, args := #[.tmp 0, .tmp 1], argTypes := #[29, 29] }) T [u, .slice (some ⟨b, 0, none⟩) 1 g] K w := by
  have hx' := hx.fr h.fr (fun i hi => ⟨(hD0 i hi).1, fun e => e.elim (hD0 i hi).2.1 (hD0 i hi).2.2⟩)
  refine lists_append h.b (Nat.le_trans h.B h.fr.size) hh hx' h.ob hl (fun u' w' hg hb hv ho => k u' w' ⟨h.fr.by hb (fun i e => (h.lb i e).imp .inr id), ?_, hg, h.oa.next hb.size, ho, ?_, h.la, ?_, h.B⟩ hb)
  · exact h.a.keep (Fr.of_by' hb) (fun i hi => ⟨(h.ob i hi).1, (h.ob i hi).2⟩) (fun i hi e => h.ap i hi e)
  · intro i e1 e2
    rcases hv i e2 with h1 | h1
    · exact h.ap i e1 h1
    · have := (h.a.own e1).1; omega
  · intro i e1
    rcases hv i e1 with h1 | h1
    · exact h.lb i h1
    · exact .inr (Nat.le_trans h.fr.size h1)
end
end
end Go.Proofs
namespace Go.Proofs
open Go Go.Sh Go.RowKit FdSpec TkSpec CodeSpec PrSpec
set_option linter.unusedSimpArgs false
set_option linter.unusedVariables false
set_option maxRecDepth 10000
section
variable {K : Value → World → Prop} {w w' w0 W : World} {L : List (Addr × Value)}
def CI (w : World) (v : Value) (l : List Int) : Prop := Ints w v l ∧ ∃ ad c, v = .slice ad l.length c ∧ l.length ≤ c ∧ (ad = none → c = 0)
theorem inBlock_add (a : Addr) (k n c n2 c2 : Nat) : Value.inBlock (.slice (Option.map (fun x => x.add k) (some a)) n c) = Value.inBlock (.slice (some a) n2 c2) := by
  rw [Option.map_some]
  obtain ⟨b, o, e⟩ := a
  cases e <;> simp [Value.inBlock, Addr.add] <;> split <;> rfl
theorem CI.from {T : TypeId} {v : Value} {l : List Int} (h : CI w v l) (i : Nat) (hi : i ≤ l.length)
    (k : ∀ v', CI w v' (l.drop i) → Value.inBlock v' = Value.inBlock v → K v' w) : oM Tryz.prog (.slice 24 (.tmp 0) (some (.tmp 1)) none none) T [v, .int .i64 (i : Int)] K w := by
  obtain ⟨hI, ad, c, hv, hcap, hnn⟩ := h
  subst hv
  obtain ⟨⟨ad0, c0, hv0, h0, hc⟩, hr, hln⟩ := hI
  injection hv0 with ea _ ec
  subst ea; subst ec
  have ht : Tryz.prog.underlying 24 = some (.slice (Tryz.prog.elem 24)) := by kernel_rfl
  have hs : (sizeOf (Tryz.prog.elem 24)).run Tryz.prog w = .ok 1 w := by kernel_rfl
  rw [oM_sliceFrom, run_sliceAt_slice w _ _ _ _ _ ht, run_slice_l w _ _ l.length c ht .i64 i (by omega) (by omega), hs]
  simp only [Result.andThen_ok, sliced, Int.toNat_natCast]
  have hdr : ∀ n ∈ l.drop i, I64 n := fun n hn => hr n (List.mem_of_mem_drop hn)
  by_cases hci : c = i
  · rw [if_pos hci]
    have hnil : l.drop i = [] := List.drop_of_length_le (by omega)
    have e : l.length - i = (l.drop i).length := by rw [List.length_drop]
    rw [e]
    refine k _ ⟨⟨⟨ad, _, rfl, fun ha => ⟨by rw [hnil]; rfl, by omega⟩, .inl hnil⟩, hdr, by rw [hnil]; simp⟩, ad, _, rfl, by rw [hnil]; simp, fun ha => by omega⟩ ?_
    cases ad <;> rfl
  · rw [if_neg hci]
    cases ad with
    | none => have := hnn rfl; omega
    | some a =>
      have e : l.length - i = (l.drop i).length := by rw [List.length_drop]
      rw [e]
      rcases hc with hc | ⟨b, o, ha, hlt, hcell⟩
      · have : l.length = 0 := by rw [hc]; rfl
        refine k _ ⟨⟨⟨_, _, rfl, (fun ha => by cases ha), .inl (by rw [hc]; simp)⟩, hdr, by rw [List.length_drop]; omega⟩, _, _, rfl, by rw [List.length_drop]; omega, fun ha => by cases ha⟩ (inBlock_add _ _ _ _ _ _)
      · cases ha
        refine k _ ⟨⟨⟨_, _, rfl, (fun ha => by cases ha), .inr ⟨b, o + i * 1, by rw [Option.map_some, add_none], hlt, fun j u hj => ?_⟩⟩, hdr, by rw [List.length_drop]; omega⟩, _, _, rfl, by rw [List.length_drop]; omega, fun ha => by cases ha⟩ (inBlock_add _ _ _ _ _ _)
        have := hcell (i + j) u (by rw [flat_int] at hj ⊢; rw [List.map_drop, List.getElem?_drop] at hj; exact hj)
        rwa [show o + i * 1 + j = o + (i + j) by omega]
theorem CI.from1 {T : TypeId} {v : Value} {l : List Int} (h : CI w v l) (hi : 1 ≤ l.length)
    (k : ∀ v', CI w v' (l.drop 1) → Value.inBlock v' = Value.inBlock v → K v' w) : oM Tryz.prog (.slice 24 (.tmp 0) (some (.tmp 1)) none none) T [v, .int .i64 1] K w := CI.from h 1 hi k
theorem CI.to {T : TypeId} {v : Value} {l : List Int} (h : CI w v l) (i : Nat) (hi : i ≤ l.length)
    (k : ∀ v', Ints w v' (l.take i) → K v' w) : oM Tryz.prog (.slice 24 (.tmp 0) none (some (.tmp 1)) none) T [v, .int .i64 (i : Int)] K w := by
  obtain ⟨hI, ad, c, hv, hcap, hnn⟩ := h
  subst hv
  obtain ⟨⟨ad0, c0, hv0, h0, hc⟩, hr, hln⟩ := hI
  injection hv0 with ea _ ec
  subst ea; subst ec
  have ht : Tryz.prog.underlying 24 = some (.slice (Tryz.prog.elem 24)) := by kernel_rfl
  have e : i = (l.take i).length := by rw [List.length_take]; omega
  refine sliceTo_at (sz := 1) ht (fun w => by kernel_rfl) i (by omega) ?_
  have hlt : (l.take i).length ≤ l.length := by rw [List.length_take]; omega
  have hn0 : ad = none → c = 0 := hnn
  rw [show (Value.slice ad i c) = .slice ad (l.take i).length c by rw [← e]]
  refine k _ ⟨⟨ad, c, rfl, fun ha => ⟨?_, hn0 ha⟩, ?_⟩, fun n hn => hr n (List.mem_of_mem_take hn), by omega⟩
  · have := hn0 ha; omega
  · rcases hc with hc | ⟨b, o, ha, hlt', hcell⟩
    · exact .inl (by rw [hc]; simp)
    · refine .inr ⟨b, o, ha, hlt', fun j u hj => hcell j u ?_⟩
      rw [flat_int] at hj ⊢
      rw [List.map_take] at hj
      exact (List.getElem?_eq_some_iff.1 hj).elim fun h1 h2 => by
        rw [List.getElem_take] at h2
        rw [List.getElem?_eq_some_iff]
        exact ⟨by rw [List.length_take] at h1; omega, h2⟩
theorem CI.keep {v : Value} {l : List Int} (h : CI w v l) (hs : w.heap.size ≤ w'.heap.size) (hk : ∀ i, Value.inBlock v = some i → i < w.heap.size → w'.heap[i]? = w.heap[i]?) : CI w' v l :=
  ⟨⟨h.1.row.keep hs hk, h.1.rng, h.1.len⟩, h.2⟩
def IsRw (B : Nat) (w : World) (b : Nat) (r : Rw) : Prop := ∃ lv, Holds w b 160 [lv, .bool r.bad] ∧ CI w lv r.left ∧ b < B ∧ ∀ i, Value.inBlock lv = some i → i < B ∧ i ≠ b
theorem IsRw.keep {B b : Nat} {r : Rw} (h : IsRw B w b r) (hb : Below B w w') : IsRw B w' b r := by
  obtain ⟨lv, h1, h2, h3, h4⟩ := h
  exact ⟨lv, (hb.block _ h3).trans h1, h2.keep hb.size (fun i hi _ => hb.block i (h4 i hi).1), h3, h4⟩
theorem sz_intsR (w : World) : (sizeOf 24).run Tryz.prog w = .ok 1 w := by kernel_rfl
theorem sz_boolR (w : World) : (sizeOf 4).run Tryz.prog w = .ok 1 w := by kernel_rfl
theorem next_ok {B b : Nat} {r : Rw} (hr : IsRw B w b r) (k : ∀ w', IsRw B w' b (nextR r).2 → w.grownBy w' (some b) → I64 (nextR r).1 → K (.int .i64 (nextR r).1) w') : callM Tryz.prog 134 #[.pointer (some ⟨b, 0, none⟩)] K w := by
  apply sh_134_ok
  unfold sh_134
  obtain ⟨lv, h1, h2, h3, h4⟩ := hr
  obtain ⟨ad, c, rfl, hcap, hnn⟩ := id h2.2
  have hc := h1.are
  have hlen := h2.1.len
  obtain ⟨l, bad⟩ := r
  cases l with
  | nil =>
    repeat (any_goals (first
    | (with_reducible ((refine idCond ?_); refine yL ?_))
    | ((with_reducible refine idO ?_); (with_reducible refine oM_gen fun Kv hK=>?_); simp [go_sem, hc]; refine hK _ _ ?_; clear hK; clear Kv)))
    refine arr_set (i := 1) sz_boolR rfl rfl h1 (by simp) (fun w2 hg hh => ?_)
    skip
    exact k _ ⟨_, hh, h2.keep hg.size (fun i hi hlt => hg.block i hlt (fun e => (h4 i hi).2 (by first | exact Option.some.inj e | exact (Option.some.inj e).symm))), h3, h4⟩ hg I64_0
  | cons x l =>
    have hne : ¬ ((x :: l).length : Int) = 0 := by simp; omega
    obtain ⟨b5, o5, rfl, hb5, cx, rx, _⟩ := h2.1.at (i := 0) (by simp)
    have cx' := cx w (Below.refl _ _)
    simp only [List.getElem_cons_zero, Nat.add_zero] at cx' rx
    repeat (any_goals (first
    | ((with_reducible refine CI.from1 h2 (by simp) ?_); intro v' hv' hvb)
    | (with_reducible ((refine idCond ?_); refine yO ?_))
    | ((with_reducible refine idO ?_); (with_reducible refine oM_gen fun Kv hK=>?_); simp [go_sem, hc, hne, cx']; refine hK _ _ ?_; clear hK; clear Kv)))
    obtain ⟨ad', c', rfl, hcap', hnn'⟩ := id hv'.2
    refine arr_set (i := 0) sz_intsR rfl rfl h1 (by simp) (fun w2 hg hh => ?_)
    exact k _ ⟨_, hh, hv'.keep hg.size (fun i hi hlt => hg.block i hlt (fun e => (h4 i (hvb ▸ hi)).2 (by first | exact Option.some.inj e | exact (Option.some.inj e).symm))), h3, fun i hi => h4 i (hvb ▸ hi)⟩ hg rx
theorem grown_two {w1 w2 : World} {b : Option Nat} (h : w.grownBy w1 b) (k : w1.grownBy w2 b) : w.grownBy w2 b :=
  ⟨k.os.trans h.os, k.tape.trans h.tape, k.output.trans h.output, Nat.le_trans h.size k.size, fun i hi hn => (k.block i (Nat.lt_of_lt_of_le hi h.size) hn).trans (h.block i hi hn)⟩
theorem count_ok {B b : Nat} {r : Rw} (hr : IsRw B w b r) (k : ∀ w', IsRw B w' b (countR r).2 → w.grownBy w' (some b) → K (.int .i64 ((countR r).1 : Int)) w') : callM Tryz.prog 133 #[.pointer (some ⟨b, 0, none⟩)] K w := by
  apply sh_133_ok
  unfold sh_133
  refine next_ok hr (fun w1 hr1 hg1 hI => ?_)
  have hr1' := hr1
  obtain ⟨lv, h1, h2, h3, h4⟩ := hr1
  obtain ⟨ad, c, rfl, hcap, hnn⟩ := id h2.2
  have hc := h1.are
  unfold countR at k
  have bad : ((nextR r).1 < 0 ∨ ((nextR r).2.left.length : Int) < (nextR r).1) → ∀ (K' : Prop), (∀ w2, w1.grownBy w2 (some b) → Holds w2 b 160 [.slice ad (nextR r).2.left.length c, .bool true] → K (.int .i64 0) w2) := fun hb _ w2 hg2 hh2 => by
    rw [if_pos hb] at k
    exact k w2 ⟨_, hh2, h2.keep hg2.size (fun i hi hlt => hg2.block i hlt (fun e => (h4 i hi).2 (by first | exact Option.some.inj e | exact (Option.some.inj e).symm))), h3, h4⟩ (grown_two hg1 hg2)
  by_cases hn : (nextR r).1 < 0
  · repeat (any_goals (first
    | (with_reducible first|((refine idGd ?_); refine zD ?_)|((refine idPick ?_); refine yB ?_)|((refine idCond ?_); refine yL ?_))
    | ((with_reducible refine idO ?_); (with_reducible refine oM_gen fun Kv hK=>?_); simp [go_sem, hc, hn]; refine hK _ _ ?_; clear hK; clear Kv)))
    refine arr_set (i := 1) sz_boolR rfl rfl h1 (by simp) (fun w2 hg hh => ?_)
    skip
    exact bad (.inl hn) True w2 hg hh
  by_cases hm : ((nextR r).2.left.length : Int) < (nextR r).1
  · repeat (any_goals (first
    | (with_reducible first|refine pureM_in ?_|((refine idGd ?_); refine zC ?_)|((refine idPick ?_); refine yC ?_)|((refine idCond ?_); refine yL ?_))
    | ((with_reducible refine idO ?_); (with_reducible refine oM_gen fun Kv hK=>?_); simp [go_sem, hc, hn, hm]; refine hK _ _ ?_; clear hK; clear Kv)))
    refine arr_set (i := 1) sz_boolR rfl rfl h1 (by simp) (fun w2 hg hh => ?_)
    skip
    exact bad (.inr hm) True w2 hg hh
  rw [if_neg (by omega)] at k
  repeat (any_goals (first
  | (with_reducible first|refine pureM_in ?_|((refine idGd ?_); refine zC ?_)|((refine idPick ?_); refine yC ?_)|((refine idCond ?_); refine yM ?_))
  | ((with_reducible refine idO ?_); (with_reducible refine oM_gen fun Kv hK=>?_); simp [go_sem, hc, hn, hm]; refine hK _ _ ?_; clear hK; clear Kv)))
  have := k w1 hr1' hg1
  rw [Int.toNat_of_nonneg (by omega)] at this
  exact this
end
end Go.Proofs
namespace Go.Sh
open Go Go.RowKit
section
variable {P : Program} {w w' : World} {K : Value → World → Prop}
theorem below_of_grown (h : w.grownBy w' none) : Below w.heap.size w w' := ⟨h.os, h.tape, h.output, h.size, fun i hi => h.block i hi (fun e => by cases e)⟩
theorem append_at2 (t T e : TypeId) (i : TypeInfo) (z : Value) (size bytes : Nat) (ht : P.underlying t = some (.slice e)) (hi : P.info? e = some i) (hz : i.zero = some z)
    (hsize : i.size = size) (hby : i.bytes = bytes) (hzs : z.cells.size = size) (hsz : 0 < size)
    {v : Value} {n : Nat} {xs : List Value} (hown : w.ownsRow 0 e size v n xs)
    {a : Addr} {m c : Nat} (news : List Value) (hl : news.length = m * size) (hnews : ∀ j u, news[j]? = some u → w.cell? (a.add j) = some u) (h1 : ∀ u ∈ news, u.oneCell' = true)
    (h63 : n + m ≤ maxLen) (hbytes : (n + m) * bytes ≤ 140737488355328)
    (k : ∀ v' w', w'.ownsRow 0 e size v' (n + m) (xs ++ news) → w.grownBy w' v.ownBlock → (∀ i, v'.ownBlock = some i → v.ownBlock = some i ∨ w.heap.size ≤ i) →
      (Below w.heap.size w w' ∨ ∃ g cap, v = .slice (some ⟨g, 0, none⟩) n cap ∧ v' = .slice (some ⟨g, 0, none⟩) (n + m) cap) → K v' w') :
    oM P (.call { callee := .builtin .append, args := #[.tmp 0, .tmp 1], argTypes := #[t, t] }) T [v, .slice (some a) m c] K w := by
  rw [oM_append]
  rcases hown.2 with ⟨hv, hn⟩ | ⟨g, cap, cur, hv, hb, hg, hnc, hm, hcs, htk⟩
  · have h' : w.ownsRow w.heap.size e size v n xs := ⟨hown.1, .inl ⟨hv, hn⟩⟩
    obtain ⟨v', w', hr, ho, hgr, _⟩ := run_append_own (P := P) (w := w) w.heap.size t T e i z size bytes ht hi hz hsize hby hzs hsz v n xs h' a m c news hl hnews h1 h63 hbytes (Nat.le_refl _)
    rw [hr]
    refine k v' w' (owns_base ho (Nat.zero_le _)) hgr (fun j hj => .inr (owns_own ho hj).2.1) (.inl ?_)
    subst hv
    exact below_of_grown hgr
  · by_cases hroom : n + m ≤ cap
    · subst hv
      obtain ⟨w', hr, ho, hgr⟩ := run_append_fits (P := P) (w := w) 0 t T e i size ht hi hsize g n cap xs hown a m c news hl hnews h1 hroom
      rw [hr]
      exact k _ w' ho hgr (fun j hj => .inl hj) (.inr ⟨g, cap, rfl, rfl⟩)
    · obtain ⟨v', w', hr, ho, hgr, _⟩ := run_append_own (P := P) (w := w) 0 t T e i z size bytes ht hi hz hsize hby hzs hsz v n xs hown a m c news hl hnews h1 h63 hbytes (Nat.zero_le _)
      subst hsize
      subst hv
      have holds : ∀ j u, xs[j]? = some u → w.cell? ((⟨g, 0, none⟩ : Addr).add j) = some u := hown.cells (g := g) rfl
      have hr2 := run_append_grow (P := P) (w := w) t T e i z ht hi hz ⟨g, 0, none⟩ n cap xs hown.1 holds a m c news hl hnews (by omega) (by simp only [maxLen] at h63; omega) (growslice_fits (by omega) (by rw [hby]; exact hbytes))
      rw [hr] at hr2
      rw [hr]
      cases hr2
      exact k _ _ ho hgr (fun j hj => by cases hj; exact .inr (Nat.le_refl _)) (.inl (((Below.refl _ w).drew).alloc (Nat.le_refl _) _))
end
section
variable {α : Type} {n : Nat} {e : TypeId} {V : World → List Value → α → Prop} {B : Nat} {D : Nat → Prop} {w w' : World} {v : Value} {l : List α}
theorem owns_part {B : Nat} {e : TypeId} {sz : Nat} {g n m cap : Nat} {xs ys : List Value} (h : w.ownsRow B e sz (.slice (some ⟨g, 0, none⟩) (n + m) cap) (n + m) (xs ++ ys)) (hx : xs.length = n * sz) : w.ownsRow B e sz (.slice (some ⟨g, 0, none⟩) n cap) n xs := by
  rcases h.2 with ⟨h, _⟩ | ⟨g1, cap1, cur1, hv, hb, hg1, hc, hm, hs1, ht⟩
  · cases h
  cases hv
  refine ⟨hx, .inr ⟨g, cap, cur1, rfl, hb, hg1, by omega, by omega, hs1, ?_⟩⟩
  have h2 := congrArg (List.take (n * sz)) ht
  rw [List.take_take, List.take_left' hx, Nat.min_eq_left (Nat.mul_le_mul_right _ (by omega))] at h2
  exact h2
theorem grow_append2 {P : Program} {K : Value → World → Prop} (t T : TypeId) (i : TypeInfo) (z : Value) (bytes : Nat) (ht : P.underlying t = some (.slice e)) (hi : P.info? e = some i) (hz : i.zero = some z)
    (hsize : i.size = n) (hby : i.bytes = bytes) (hzs : z.cells.size = n) (hn : 0 < n) (hbb : bytes ≤ 64)
    (h : GRow n e V B D w v l) (hB : B ≤ w.heap.size) {b o c : Nat} {x : α} {xs : List Value} (hxl : xs.length = n) (hcell : ∀ (j : Nat) (u : Value), xs[j]? = some u → w.cell? ⟨b, o + j, none⟩ = some u) (h1 : ∀ u ∈ xs, u.oneCell' = true)
    (hx : FP D w (fun w => V w xs x)) (hD : ∀ i, D i → i < w.heap.size ∧ v.ownBlock ≠ some i) (hl : l.length < 1099511627776)
    (k : ∀ v' w', GRow n e V B D w' v' (l ++ [x]) → w.grownBy w' v.ownBlock → (∀ i, v'.ownBlock = some i → v.ownBlock = some i ∨ w.heap.size ≤ i) → (∀ i, D i → i < w'.heap.size ∧ v'.ownBlock ≠ some i) →
      GRow n e V B D w' v l → (∀ u, GRow n e V B D w u (l ++ [x]) → GRow n e V B D w' u (l ++ [x])) → K v' w') :
    oM P (.call { callee := .builtin .append, args := #[.tmp 0, .tmp 1], argTypes := #[t, t] }) T [v, .slice (some ⟨b, o, none⟩) 1 c] K w := by
  obtain ⟨cs, ho, hf⟩ := h.ex
  have hlx : (flat Cl.cs cs).length = l.length * n := ho.1
  refine append_at2 t T e i z n bytes ht hi hz hsize hby hzs hn (owns_base ho (Nat.zero_le _)) xs (by omega) ?_ h1 (by simp only [maxLen]; omega) (by have : (l.length + 1) * bytes ≤ 1099511627776 * 64 := Nat.mul_le_mul (by omega) hbb; omega) ?_
  · intro j u hj
    rw [add_none]
    exact hcell j u hj
  · intro v' w' ho' hg hv hor
    have hf' := hf.by hg hD
    have hDw : ∀ i, D i → i < w.heap.size := fun i hi => (hD i hi).1
    have hnew : GRow n e V B D w' v' (l ++ [x]) := by
      refine ⟨cs ++ [⟨xs, hxl⟩], ?_, ?_⟩
      · have e2 : flat Cl.cs (cs ++ [(⟨xs, hxl⟩ : Cl n)]) = flat Cl.cs cs ++ xs := by rw [flat_snoc]; rfl
        have e1 : (l ++ [x]).length = l.length + 1 := by simp
        rw [e1, e2]
        exact owns_up ho' (fun i hi => (hv i hi).elim (fun h => (owns_own ho h).2.1) (fun h => Nat.le_trans hB h))
      · have hx' := hx.by hg hD
        refine (hf'.both hx').imp ?_
        rintro w2 ⟨⟨hc1, hc2⟩, hx2⟩
        refine ⟨by simp [hc1], fun i c y hi hy => ?_⟩
        by_cases hlt : i < cs.length
        · rw [List.getElem?_append_left hlt] at hi
          rw [List.getElem?_append_left (by omega)] at hy
          exact hc2 i c y hi hy
        · rw [List.getElem?_append_right (by omega)] at hi
          rw [List.getElem?_append_right (by omega)] at hy
          have : i - cs.length = 0 := by
            have := (List.getElem?_eq_some_iff.1 hi).1
            simp at this
            omega
          rw [this] at hi
          rw [show i - l.length = 0 by omega] at hy
          simp at hi hy
          subst hi; subst hy
          exact hx2
    refine k v' w' hnew hg hv ?_ ?_ ?_
    · intro i hi
      obtain ⟨h2, h3⟩ := hD i hi
      refine ⟨Nat.lt_of_lt_of_le h2 hg.size, fun e => ?_⟩
      rcases hv i e with h4 | h4
      · exact h3 h4
      · omega
    · rcases hor with hb | ⟨g, cap, e1, e2⟩
      · exact h.next hb hDw
      · subst e1; subst e2
        exact ⟨cs, owns_up (owns_part ho' hlx) (fun i hi => (owns_own ho hi).2.1), hf'⟩
    · intro u hu
      rcases hor with hb | ⟨g, cap, e1, e2⟩
      · exact hu.next hb hDw
      · obtain ⟨cu, hou, hfu⟩ := hu.ex
        by_cases hug : u.ownBlock = v.ownBlock
        · obtain ⟨gv, hgv⟩ : ∃ gv, v.ownBlock = some gv := ⟨g, by rw [e1]; rfl⟩
          have hug' : u = v' := by
            rcases hou.2 with ⟨_, h0⟩ | ⟨g1, cap1, cur1, hu1, _, hg1, _, _, hs1, _⟩
            · simp at h0
            rcases ho.2 with ⟨hv1, _⟩ | ⟨g2, cap2, cur2, hv2, _, hg2, _, _, hs2, _⟩
            · rw [hv1] at hgv; cases hgv
            rw [hv2] at e1
            cases e1
            have e3 : g1 = g := by
              rw [hu1, hv2] at hug
              exact Option.some.inj hug
            subst e3
            rw [hg1] at hg2
            cases hg2
            rw [hs1] at hs2
            rw [hu1, e2, Nat.eq_of_mul_eq_mul_right hn hs2]
            simp
          rw [hug']
          exact hnew
        · exact hu.keep (Fr.of_by' hg) (fun i hi => ⟨hDw i hi, (hD i hi).2⟩) (fun i hi e => hug (hi.trans e.symm))
end
end Go.Sh
namespace Go.Proofs
open Go Go.Sh Go.RowKit FdSpec TkSpec CodeSpec PrSpec
set_option linter.unusedSimpArgs false
set_option linter.unusedVariables false
set_option maxRecDepth 10000
section
variable {K : Value → World → Prop} {w w' w0 W : World} {L : List (Addr × Value)}
theorem ints_append2 {B g c n : Nat} {D : Nat → Prop} {v : Value} {l : List (List Int)} {x : List Int} {T : TypeId} (h : ListG B D w v l) (hB : B ≤ w.heap.size) {b : Nat} {ad : Option Addr} (hh : Holds w b 24 [.slice ad n c])
    (hx : FP D w (fun w => Ints w (.slice ad n c) x)) (hD : Off D w v) (hl : l.length < 1099511627776)
    (k : ∀ v' w', ListG B D w' v' (l ++ [x]) → w.grownBy w' v.ownBlock → (∀ i, v'.ownBlock = some i → v.ownBlock = some i ∨ w.heap.size ≤ i) → Off D w' v' → ListG B D w' v l → (∀ u, ListG B D w u (l ++ [x]) → ListG B D w' u (l ++ [x])) → K v' w') :
    oM Tryz.prog (.call { callee := .builtin .append, args := #[.tmp 0, .tmp 1], argTypes := #[30, 30] }) T [v, .slice (some ⟨b, 0, none⟩) 1 g] K w := by
  refine grow_append2 30 T ((Tryz.prog.info? 24).getD default) (.slice none 0 0) 24 (by kernel_rfl) (by kernel_rfl) (by kernel_rfl) (by kernel_rfl) (by kernel_rfl) (by kernel_rfl) (by decide) (by decide)
    h hB (xs := [.slice ad n c]) rfl ?_ (row_one _ _ _) (hx.imp fun w h => ⟨_, rfl, h⟩) hD hl k
  intro j u hj
  rw [cell_of_block hh]
  simpa using hj
theorem lists_append2 {B g c n : Nat} {D : Nat → Prop} {v : Value} {l : List (List (List Int))} {x : List (List Int)} {T : TypeId} (h : NumG B D w v l) (hB : B ≤ w.heap.size) {b : Nat} {ad : Option Addr} (hh : Holds w b 30 [.slice ad n c])
    (hx : FP D w (fun w => ListsR w (.slice ad n c) x)) (hD : Off D w v) (hl : l.length < 1099511627776)
    (k : ∀ v' w', NumG B D w' v' (l ++ [x]) → w.grownBy w' v.ownBlock → (∀ i, v'.ownBlock = some i → v.ownBlock = some i ∨ w.heap.size ≤ i) → Off D w' v' → NumG B D w' v l → (∀ u, NumG B D w u (l ++ [x]) → NumG B D w' u (l ++ [x])) → K v' w') :
    oM Tryz.prog (.call { callee := .builtin .append, args := #[.tmp 0, .tmp 1], argTypes := #[29, 29] }) T [v, .slice (some ⟨b, 0, none⟩) 1 g] K w := by
  refine grow_append2 29 T ((Tryz.prog.info? 30).getD default) (.slice none 0 0) 24 (by kernel_rfl) (by kernel_rfl) (by kernel_rfl) (by kernel_rfl) (by kernel_rfl) (by kernel_rfl) (by decide) (by decide)
    h hB (xs := [.slice ad n c]) rfl ?_ (row_one _ _ _) (hx.imp fun w h => ⟨_, rfl, h⟩) hD hl k
  intro j u hj
  rw [cell_of_block hh]
  simpa using hj
structure DuoI (B : Nat) (D : Nat → Prop) (W : World) (v0 u0 xv yv : Value) (l : List (List Int)) (m : List (List (List Int))) (x : List Int) (y : List (List Int)) : Prop where
  a : ListG B D W v0 l
  b : NumG B D W u0 m
  oa : Off D W v0
  ob : Off D W u0
  ap : apart v0 u0
  B : B ≤ W.heap.size
  x : FP D W (fun w => Ints w xv x)
  y : FP D W (fun w => ListsR w yv y)
  l : l.length < 1099511627776
  m : m.length < 1099511627776
def DuoC (B : Nat) (D : Nat → Prop) (W : World) (v0 u0 : Value) (l : List (List Int)) (m : List (List (List Int))) (w : World) : Prop := Fr (fun i => v0.ownBlock = some i ∨ u0.ownBlock = some i) W w ∧ ListG B D w v0 l ∧ NumG B D w u0 m
def DuoA (B : Nat) (D : Nat → Prop) (W : World) (v0 : Value) (l : List (List Int)) (v : Value) (w : World) : Prop := ListG B D w v l ∧ Off D w v ∧ ∀ i, v.ownBlock = some i → v0.ownBlock = some i ∨ W.heap.size ≤ i
def DuoB (B : Nat) (D : Nat → Prop) (W : World) (u0 : Value) (m : List (List (List Int))) (u : Value) (w : World) : Prop := NumG B D w u m ∧ Off D w u ∧ ∀ i, u.ownBlock = some i → u0.ownBlock = some i ∨ W.heap.size ≤ i
def DuoS (B : Nat) (D : Nat → Prop) (W : World) (v0 u0 : Value) (l : List (List Int)) (m : List (List (List Int))) (w w1 : World) : Prop := Fr (fun i => v0.ownBlock = some i ∨ u0.ownBlock = some i) w w1 ∧ (∀ v, DuoA B D W v0 l v w → DuoA B D W v0 l v w1) ∧ (∀ u, DuoB B D W u0 m u w → DuoB B D W u0 m u w1)
def LitV (W : World) (T : TypeId) (x : Value) (v : Value) (w : World) : Prop := ∃ g, v = .slice (some ⟨g, 0, none⟩) 1 1 ∧ W.heap.size ≤ g ∧ Holds w g T [x]
theorem duo_below {B : Nat} {D : Nat → Prop} {v0 u0 : Value} {l l2 : List (List Int)} {m m2 : List (List (List Int))} (h : DuoC B D W v0 u0 l m w) (hD : ∀ i, D i → i < W.heap.size) (hb : Below w.heap.size w w') : DuoC B D W v0 u0 l m w' ∧ DuoS B D W v0 u0 l2 m2 w w' := by
  have hDw : ∀ i, D i → i < w.heap.size := fun i hi => Nat.lt_of_lt_of_le (hD i hi) h.1.size
  exact ⟨⟨h.1.trans (S' := fun _ => False) (Fr.of_below hb) (fun _ h => h.elim), h.2.1.next hb hDw, h.2.2.next hb hDw⟩, Fr.of_below hb,
    fun v hv => ⟨hv.1.next hb hDw, hv.2.1.next hb.size, hv.2.2⟩, fun v hv => ⟨hv.1.next hb hDw, hv.2.1.next hb.size, hv.2.2⟩⟩
theorem own_types {e e' : TypeId} (hne : e ≠ e') {B B' n n' m m' : Nat} {v u : Value} {xs ys : List Value} (h : w.ownsRow B e n v m xs) (k : w.ownsRow B' e' n' u m' ys) : apart v u := by
  intro i h1 h2
  obtain ⟨_, _, c1, e1⟩ := owns_own h h1
  obtain ⟨_, _, c2, e2⟩ := owns_own k h2
  rw [e1] at e2
  injection e2 with e2
  injection e2 with _ e3
  exact hne e3
theorem duo_free {Tail : Value → Value → Value → World → Prop} {B b6 i1 : Nat} {D : Nat → Prop} {v0 u0 : Value} {adx ady : Option Addr} {nx cx ny cy : Nat} {l : List (List Int)} {m : List (List (List Int))} {x' : List Int} {y : List (List Int)} {T6 T1 T2 T3 T4 T5 : TypeId}
    (h : DuoI B D W v0 u0 (.slice adx nx cx) (.slice ady ny cy) l m x' y)
    (hfa : ∀ (K' : Value → World → Prop) (w : World), K' (.pointer (some ⟨b6, i1, none⟩)) w → oM Tryz.prog (.fieldAddr T6 (.tmp 0) i1) T5 [.pointer (some ⟨b6, 0, none⟩)] K' w)
    (k : ∀ w v u, Fr (fun i => v0.ownBlock = some i ∨ u0.ownBlock = some i) W w → DuoA B D W v0 (l ++ [x']) v w → DuoB B D W u0 (m ++ [y]) u w → apart v u → Tail v u (.pointer (some ⟨b6, i1, none⟩)) w) :
    ∃ S : World → World → Prop, ∃ R1 : Value → World → Prop, (∀ v w w1, S w w1 → R1 v w → R1 v w1) ∧
     (∀ w, DuoC B D W v0 u0 l m w → oM Tryz.prog (.buildSlice 30 1 #[(0, .tmp 0)]) T1 [.slice adx nx cx] (fun v w1 => DuoC B D W v0 u0 l m w1 ∧ S w w1 ∧ R1 v w1) w) ∧
     (∃ R2 : Value → World → Prop, (∀ v w w1, S w w1 → R2 v w → R2 v w1) ∧
     (∀ w, DuoC B D W v0 u0 l m w → ∀ v1, R1 v1 w → oM Tryz.prog (.call { callee := .builtin .append, args := #[.tmp 0, .tmp 1], argTypes := #[30, 30] }) T2 [v0, v1] (fun v w1 => DuoC B D W v0 u0 l m w1 ∧ S w w1 ∧ R2 v w1) w) ∧
     (∃ R3 : Value → World → Prop, (∀ v w w1, S w w1 → R3 v w → R3 v w1) ∧
     (∀ w, DuoC B D W v0 u0 l m w → oM Tryz.prog (.buildSlice 29 1 #[(0, .tmp 0)]) T3 [.slice ady ny cy] (fun v w1 => DuoC B D W v0 u0 l m w1 ∧ S w w1 ∧ R3 v w1) w) ∧
     (∃ R4 : Value → World → Prop, (∀ v w w1, S w w1 → R4 v w → R4 v w1) ∧
     (∀ w, DuoC B D W v0 u0 l m w → ∀ v1, R3 v1 w → oM Tryz.prog (.call { callee := .builtin .append, args := #[.tmp 0, .tmp 1], argTypes := #[29, 29] }) T4 [u0, v1] (fun v w1 => DuoC B D W v0 u0 l m w1 ∧ S w w1 ∧ R4 v w1) w) ∧
     (∃ R5 : Value → World → Prop, (∀ v w w1, S w w1 → R5 v w → R5 v w1) ∧
     (∀ w, DuoC B D W v0 u0 l m w → oM Tryz.prog (.fieldAddr T6 (.tmp 0) i1) T5 [.pointer (some ⟨b6, 0, none⟩)] (fun v w1 => DuoC B D W v0 u0 l m w1 ∧ S w w1 ∧ R5 v w1) w) ∧
     (∀ w, DuoC B D W v0 u0 l m w → ∀ v1, R1 v1 w → ∀ v2, R2 v2 w → ∀ v3, R3 v3 w → ∀ v4, R4 v4 w → ∀ v5, R5 v5 w → Tail v2 v4 v5 w))))) := by
  have hD : ∀ i, D i → i < W.heap.size := fun i hi => (h.oa i hi).1
  have hDo : ∀ i, D i → i < W.heap.size ∧ ¬ (v0.ownBlock = some i ∨ u0.ownBlock = some i) := fun i hi => ⟨hD i hi, fun e => e.elim (h.oa i hi).2 (h.ob i hi).2⟩
  have hv0 : ∀ i, v0.ownBlock = some i → i < W.heap.size := fun i hi => (h.a.own hi).1
  have hu0 : ∀ i, u0.ownBlock = some i → i < W.heap.size := fun i hi => (h.b.own hi).1
  have hlit : ∀ (T : TypeId) (x v : Value) (w w1 : World), DuoS B D W v0 u0 (l ++ [x']) (m ++ [y]) w w1 → LitV W T x v w → LitV W T x v w1 := by
    rintro T x v w w1 hS ⟨g, rfl, hg, hh⟩
    refine ⟨g, rfl, hg, (hS.1.block g hh.lt (fun e => ?_)).trans hh⟩
    rcases e with e | e
    · have := hv0 g e; omega
    · have := hu0 g e; omega
  refine ⟨DuoS B D W v0 u0 (l ++ [x']) (m ++ [y]), LitV W 24 (.slice adx nx cx), fun v w w1 => hlit _ _ v w w1, ?_, DuoA B D W v0 (l ++ [x']), fun v w w1 hS hv => hS.2.1 v hv, ?_,
    LitV W 30 (.slice ady ny cy), fun v w w1 => hlit _ _ v w w1, ?_, DuoB B D W u0 (m ++ [y]), fun v w w1 hS hv => hS.2.2 v hv, ?_, fun v _ => v = .pointer (some ⟨b6, i1, none⟩), fun _ _ _ _ h => h, ?_, ?_⟩
  · intro w hC
    refine lit_ints _ _ _ (fun g w1 hb hg hh => ?_)
    have h2 := duo_below hC hD hb (l2 := l ++ [x']) (m2 := m ++ [y])
    exact ⟨h2.1, h2.2, g, rfl, Nat.le_trans hC.1.size hg, hh⟩
  · rintro w hC _ ⟨g, rfl, hg, hh⟩
    have hws := hC.1.size
    refine ints_append2 hC.2.1 (Nat.le_trans h.B hws) hh (h.x.fr hC.1 hDo) (fun i hi => ⟨Nat.lt_of_lt_of_le (hD i hi) hws, (h.oa i hi).2⟩) h.l (fun v' w' hg' hb hv ho hold hst => ?_)
    have hDv : ∀ i, D i → i < w.heap.size ∧ ¬ v0.ownBlock = some i := fun i hi => ⟨Nat.lt_of_lt_of_le (hD i hi) hws, (h.oa i hi).2⟩
    refine ⟨⟨hC.1.by hb (fun i e => .inl (.inl e)), hold, hC.2.2.keep (Fr.of_by' hb) hDv (fun i hi e => h.ap i e hi)⟩, ⟨(Fr.of_by' hb).mono (fun i _ e => .inl e), fun v hv => ⟨hst v hv.1, hv.2.1.next hb.size, hv.2.2⟩, fun u hu => ⟨hu.1.keep (Fr.of_by' hb) hDv (fun i hi e => ?_), hu.2.1.next hb.size, hu.2.2⟩⟩,
      hg', ho, fun i hi => (hv i hi).imp id (fun e => Nat.le_trans hws e)⟩
    rcases hu.2.2 i hi with e2 | e2
    · exact h.ap i e e2
    · have := hv0 i e; omega
  · intro w hC
    refine lit_lists _ _ _ (fun g w1 hb hg hh => ?_)
    have h2 := duo_below hC hD hb (l2 := l ++ [x']) (m2 := m ++ [y])
    exact ⟨h2.1, h2.2, g, rfl, Nat.le_trans hC.1.size hg, hh⟩
  · rintro w hC _ ⟨g, rfl, hg, hh⟩
    have hws := hC.1.size
    refine lists_append2 hC.2.2 (Nat.le_trans h.B hws) hh (h.y.fr hC.1 hDo) (fun i hi => ⟨Nat.lt_of_lt_of_le (hD i hi) hws, (h.ob i hi).2⟩) h.m (fun v' w' hg' hb hv ho hold hst => ?_)
    have hDv : ∀ i, D i → i < w.heap.size ∧ ¬ u0.ownBlock = some i := fun i hi => ⟨Nat.lt_of_lt_of_le (hD i hi) hws, (h.ob i hi).2⟩
    refine ⟨⟨hC.1.by hb (fun i e => .inl (.inr e)), hC.2.1.keep (Fr.of_by' hb) hDv (fun i hi e => h.ap i hi e), hold⟩, ⟨(Fr.of_by' hb).mono (fun i _ e => .inr e), fun v hv => ⟨hv.1.keep (Fr.of_by' hb) hDv (fun i hi e => ?_), hv.2.1.next hb.size, hv.2.2⟩, fun u hu => ⟨hst u hu.1, hu.2.1.next hb.size, hu.2.2⟩⟩,
      hg', ho, fun i hi => (hv i hi).imp id (fun e => Nat.le_trans hws e)⟩
    rcases hv.2.2 i hi with e2 | e2
    · exact h.ap i e2 e
    · have := hu0 i e; omega
  · intro w hC
    refine hfa _ _ ?_
    have h2 := duo_below hC hD (Below.refl _ _) (l2 := l ++ [x']) (m2 := m ++ [y])
    exact ⟨h2.1, h2.2, rfl⟩
  · rintro w hC _ _ v hv _ _ u hu _ rfl
    refine k w v u hC.1 hv hu ?_
    obtain ⟨_, o1, _⟩ := hv.1.ex
    obtain ⟨_, o2, _⟩ := hu.1.ex
    exact own_types (by decide) o1 o2
end
end Go.Proofs
namespace PrSpec
open FdSpec TkSpec CodeSpec FdPoly GrLaw
def doneR (r : Rd) : Bool := !r.bad && decide (r.rest = [])
def rowsM (vs : List Int) : (List (List Int) × List (List (List Int))) × Rw := clausesR (countR ⟨vs, false⟩).1 (countR ⟨vs, false⟩).2
def decodeM (s : Bytes) : (List (List Int) × List (List (List Int))) × Bool :=
  if doneR (rdNums ⟨s, false⟩).2 && !(rowsM (rdNums ⟨s, false⟩).1).2.bad && decide ((rowsM (rdNums ⟨s, false⟩).1).2.left = []) then ((rowsM (rdNums ⟨s, false⟩).1).1, true) else (([], []), false)
theorem encInt_pos (n : Int) : 1 ≤ (encInt n).length := by simp [encInt]
theorem encNums_pos (vs : List Int) : vs.length ≤ (encNums vs).length := by
  have : vs.length ≤ ((vs.map encInt).flatten).length := by
    induction vs with
    | nil => simp
    | cons a l ih =>
      have := encInt_pos a
      simp only [List.map_cons, List.flatten_cons, List.length_append, List.length_cons]
      omega
  simp only [encNums, encList, List.length_append, List.length_cons]
  omega
theorem rdNums_len (s : Bytes) : (rdNums ⟨s, false⟩).1.length ≤ s.length := by
  rcases rdNums_some ⟨s, false⟩ Rd.ok_good with h | ⟨vs, t, h, e, _⟩
  · rw [h]; simp
  · rw [h]
    have e2 : s = encNums vs ++ t := congrArg Rd.rest e
    have := encNums_pos vs
    rw [e2, List.length_append]
    show vs.length ≤ _
    omega
theorem clauseL_len : ∀ (ds : List (List Int)) (asx : List (List (List Int))), evenL ds asx = true → ds.length ≤ (clauseL ds asx).length
  | [], _, _ => by simp
  | _ :: _, [], h => by simp [evenL] at h
  | d :: ds, a :: asx, h => by
    simp only [evenL, Bool.and_eq_true] at h
    have := clauseL_len ds asx h.2
    simp only [clauseL, List.length_cons, List.length_append]
    omega
theorem decode_encode {ds : List (List Int)} {asx : List (List (List Int))} (he : evenL ds asx = true) (hin : ∀ x ∈ (ds.length : Int) :: clauseL ds asx, InR x) (hl : (((ds.length : Int) :: clauseL ds asx).length : Int) ≤ 9223372036854775807) : decodeM (encodeM ds asx).1 = ((ds, asx), true) := by
  unfold encodeM
  rw [if_pos he]
  have h1 := rdNums_enc ((ds.length : Int) :: clauseL ds asx) [] hl hin
  rw [List.append_nil] at h1
  have h2 : rowsM ((ds.length : Int) :: clauseL ds asx) = ((ds, asx), ⟨[], false⟩) := by
    unfold rowsM
    have hle := clauseL_len ds asx he
    rw [count_cons hle]
    have := clauses_enc ds asx [] false he
    rwa [List.append_nil] at this
  unfold decodeM
  simp only [h1, h2]
  simp [doneR]
end PrSpec
namespace Go.Proofs
open Go Go.Sh Go.RowKit FdSpec TkSpec CodeSpec PrSpec
set_option linter.unusedSimpArgs false
set_option linter.unusedVariables false
set_option maxRecDepth 10000
section
variable {K : Value → World → Prop} {w w' w0 W : World} {L : List (Addr × Value)}
theorem nextR_len (r : Rw) : (nextR r).2.left.length ≤ r.left.length := by
  unfold nextR; split <;> simp_all
theorem countR_len (r : Rw) : (countR r).2.left.length ≤ r.left.length ∧ (countR r).1 ≤ r.left.length ∧ (countR r).1 ≤ (countR r).2.left.length := by
  have := nextR_len r
  unfold countR
  split
  · exact ⟨this, Nat.zero_le _, Nat.zero_le _⟩
  · rename_i h
    refine ⟨this, ?_, ?_⟩ <;> simp only <;> omega
structure Inn (B b : Nat) (W w : World) (r : Rw) (dv av : Value) (ds : List Int) (al : List (List Int)) (D : Nat → Prop) : Prop where
  fr : Fr (fun i => i = b) W w
  rw : IsRw B w b r
  B : B ≤ W.heap.size
  d : OwnI w W.heap.size dv ds
  a : ListG W.heap.size D w av al
  od : Off D w dv
  oa : Off D w av
  ap : apart dv av
  low : ∀ i, D i → W.heap.size ≤ i
  rng : ∀ x ∈ ds, I64 x
section
variable {B b : Nat} {r r' : Rw} {dv av : Value} {ds : List Int} {al : List (List Int)} {D : Nat → Prop}
theorem IsRw.lt (h : IsRw B w b r) : b < B := by obtain ⟨_, _, _, h, _⟩ := h; exact h
theorem Inn.start (hr : IsRw B W b r) (hB : B ≤ W.heap.size) : Inn B b W W r (.slice none 0 0) (.slice none 0 0) [] [] (fun _ => False) :=
  ⟨Fr.refl _ _, hr, hB, own_none, .nil, fun i h => h.elim, fun i h => h.elim, (fun i h => by cases h), fun i h => h.elim, by simp⟩
theorem Inn.read (h : Inn B b W w r dv av ds al D) (hg : w.grownBy w' (some b)) (hr : IsRw B w' b r') : Inn B b W w' r' dv av ds al D := by
  have hb := h.rw.lt
  have hWB := h.B
  exact ⟨h.fr.by hg (fun i e => .inl (Option.some.inj e).symm), hr, h.B,
    owns_keep h.d (fun i hi => hg.block i (owns_own h.d hi).1 (fun e => by have := (owns_own h.d hi).2.1; have := Option.some.inj e; omega)),
    h.a.keep (Fr.of_by hg) (fun i hi => ⟨(h.od i hi).1, fun e => by have := h.low i hi; omega⟩) (fun i hi e => by have := (h.a.own hi).2; omega),
    h.od.next hg.size, h.oa.next hg.size, h.ap, h.low, h.rng⟩
theorem Inn.next (h : Inn B b W w r dv av ds al D) (hb : Below w.heap.size w w') : Inn B b W w' r dv av ds al D :=
  ⟨h.fr.trans (S' := fun _ => False) (Fr.of_below hb) (fun _ h => h.elim), h.rw.keep (hb.mono (Nat.le_trans h.B h.fr.size)), h.B, h.d.keep hb, h.a.next hb (fun i hi => (h.od i hi).1), h.od.next hb.size, h.oa.next hb.size, h.ap, h.low, h.rng⟩
theorem Inn.rwBy (h : Inn B b W w r dv av ds al D) {o : Option Nat} (hg : w.grownBy w' o) (ho : ∀ i, o = some i → W.heap.size ≤ i) : IsRw B w' b r :=
  h.rw.keep ⟨hg.os, hg.tape, hg.output, hg.size, fun i hi => hg.block i (by have := h.B; have := h.fr.size; omega) (fun e => by have h1 := ho i e.symm; have := h.B; omega)⟩
theorem Inn.addD {T : TypeId} {xv : Value} {x : Int} (h : Inn B b W w r dv av ds al D) (hx : Ints w xv [x]) (hl : ds.length < 1099511627776)
    (k : ∀ v w', Inn B b W w' r v av (ds ++ [x]) al D → K v w') : oM Tryz.prog (.call { callee := .builtin .append, args := #[.tmp 0, .tmp 1], argTypes := #[24, 24] }) T [dv, xv] K w := by
  have hown := fun i (hi : dv.ownBlock = some i) => (owns_own h.d hi)
  refine append1g h.d h.fr.size hx hl (fun v w' ho hg hv => k v w' ⟨h.fr.by hg (fun i e => .inr (hown i e).2.1), h.rwBy hg (fun i e => (hown i e).2.1), h.B, ho, h.a.keep (Fr.of_by' hg) (fun i hi => ⟨(h.od i hi).1, (h.od i hi).2⟩) (fun i hi e => h.ap i e hi), ?_, h.oa.next hg.size, ?_, h.low, ?_⟩)
  · intro i hi
    refine ⟨Nat.lt_of_lt_of_le (h.od i hi).1 hg.size, fun e => ?_⟩
    rcases hv i e with h1 | h1
    · exact (h.od i hi).2 h1
    · have := (h.od i hi).1; omega
  · intro i e1 e2
    rcases hv i e1 with h1 | h1
    · exact h.ap i h1 e2
    · have := (h.a.own e2).1; omega
  · intro y hy
    rcases List.mem_append.1 hy with hy | hy
    · exact h.rng y hy
    · exact hx.rng y hy
theorem Inn.addA {T : TypeId} {g n c gb : Nat} {ad : Option Addr} {x : List Int} {E : Nat → Prop} (h : Inn B b W w r dv av ds al D) (hh : Holds w gb 24 [.slice ad n c]) (hx : FP E w (fun w => Ints w (.slice ad n c) x)) (hE : ∀ i, E i → W.heap.size ≤ i ∧ i < w.heap.size ∧ dv.ownBlock ≠ some i ∧ av.ownBlock ≠ some i) (hl : al.length < 1099511627776)
    (k : ∀ v w', Inn B b W w' r dv v ds (al ++ [x]) (fun i => D i ∨ E i) → K v w') : oM Tryz.prog (.call { callee := .builtin .append, args := #[.tmp 0, .tmp 1], argTypes := #[30, 30] }) T [av, .slice (some ⟨gb, 0, none⟩) 1 g] K w := by
  have hD' : Off (fun i => D i ∨ E i) w av := fun i hi => hi.elim (h.oa i) (fun hi => ⟨(hE i hi).2.1, (hE i hi).2.2.2⟩)
  have hD2 : Off (fun i => D i ∨ E i) w dv := fun i hi => hi.elim (h.od i) (fun hi => ⟨(hE i hi).2.1, (hE i hi).2.2.1⟩)
  refine ints_append (h.a.mono fun i hi => .inl hi) h.fr.size hh (hx.mono fun i hi => .inr hi) hD' hl (fun v w' hg hb hv ho => k v w' ⟨h.fr.by hb (fun i e => .inr (h.a.own e).2), h.rwBy hb (fun i e => (h.a.own e).2), h.B, owns_keep h.d (fun i hi => hb.block i (owns_own h.d hi).1 (fun e => h.ap i hi (by first | exact e | exact e.symm))), hg, hD2.next hb.size, ho, ?_, ?_, h.rng⟩)
  · intro i e1 e2
    rcases hv i e2 with h1 | h1
    · exact h.ap i e1 h1
    · have := (owns_own h.d e1).1; omega
  · rintro i (hi | hi)
    · exact h.low i hi
    · exact (hE i hi).1
end
theorem itemsR_succ (k : Nat) (r : Rw) : itemsR (k + 1) r = (((nextR r).1 :: (itemsR k (takeR (countR (nextR r).2).1 (countR (nextR r).2).2).2).1.1, (takeR (countR (nextR r).2).1 (countR (nextR r).2).2).1 :: (itemsR k (takeR (countR (nextR r).2).1 (countR (nextR r).2).2).2).1.2), (itemsR k (takeR (countR (nextR r).2).1 (countR (nextR r).2).2).2).2) := rfl
theorem clausesR_succ (k : Nat) (r : Rw) : clausesR (k + 1) r = (((itemsR (countR r).1 (countR r).2).1.1 :: (clausesR k (itemsR (countR r).1 (countR r).2).2).1.1, (itemsR (countR r).1 (countR r).2).1.2 :: (clausesR k (itemsR (countR r).1 (countR r).2).2).1.2), (clausesR k (itemsR (countR r).1 (countR r).2).2).2) := rfl
def IjJ (B b N : Nat) (W : World) (n : Nat) (R : (List Int × List (List Int)) × Rw) (vs : List Value) (w' : World) : Prop := ∃ (dv u av : Value) (k : Nat) (r : Rw) (ds : List Int) (al : List (List Int)) (D : Nat → Prop), vs = [dv, u, av, .int .i64 (k : Int)] ∧ k ≤ n ∧ Inn B b W w' r dv av ds al D ∧ r.left.length ≤ N ∧ ds.length = k ∧ al.length = k ∧
  R = ((ds ++ (itemsR (n - k) r).1.1, al ++ (itemsR (n - k) r).1.2), (itemsR (n - k) r).2)
@[reducible] def zPv : Value := prfV (.slice none 0 0) (.slice none 0 0)
theorem al_prf (w : World) : (Instr.alloc 34 true (.tuple #[])).run Tryz.prog w = .ok (.pointer (some ⟨w.heap.size, 0, none⟩)) (w.alloc (.cells [.slice none 0 0, .slice none 0 0].toArray 34)) := by kernel_rfl
theorem sz_prf (w : World) : (sizeOf 34).run Tryz.prog w = .ok 2 w := by kernel_rfl
theorem prf_one (ad ad2 : Option Addr) (n c n2 c2 : Nat) : ∀ u ∈ prfC (.slice ad n c) (.slice ad2 n2 c2), u.oneCell' = true := by
  intro u hu
  simp only [prfC, List.mem_cons, List.not_mem_nil, or_false] at hu
  rcases hu with rfl | rfl <;> rfl
theorem build_row (T : TypeId) (ad : Option Addr) (n c : Nat) : oM Tryz.prog (Go.Op.build 160 #[(0, (.tmp 0))]) T [.slice ad n c] = pureM (.agg #[.slice ad n c, .bool false]) := by
  funext K w
  kernel_rfl
def OjJ (B3 b15 b6 N n : Nat) (W : World) (R : (List (List Int) × List (List (List Int))) × Rw) (vs : List Value) (w' : World) : Prop := ∃ (u1 u2 u3 dv av : Value) (i : Nat) (r : Rw) (ds : List (List Int)) (al : List (List (List Int))) (D : Nat → Prop), vs = [u1, u2, u3, .int .i64 (i : Int)] ∧ i ≤ n ∧ Fr (fun j => j = b15 ∨ j = b6) W w' ∧ IsRw B3 w' b15 r ∧ Holds w' b6 34 [dv, av] ∧
  ListG W.heap.size D w' dv ds ∧ NumG W.heap.size D w' av al ∧ Off D w' dv ∧ Off D w' av ∧ apart dv av ∧ (∀ j, D j → W.heap.size ≤ j) ∧ r.left.length ≤ N ∧ ds.length = i ∧ al.length = i ∧
  R = ((ds ++ (clausesR (n - i) r).1.1, al ++ (clausesR (n - i) r).1.2), (clausesR (n - i) r).2)
theorem knm_fr {S : Nat → Prop} {g n : Nat} (h : KnM w0 [] g n w) (hf : Fr S w w') (hS : ∀ i, S i → w0.heap.size ≤ i ∧ i ≠ g) : KnM w0 [] g n w' := by
  have hlt := mine_lt h.mine
  refine ⟨⟨⟨hf.os.trans h.kn.below.os, hf.tape.trans h.kn.below.tape, hf.output.trans h.kn.below.output, Nat.le_trans h.kn.below.size hf.size, fun i hi => (hf.block i (Nat.lt_of_lt_of_le hi h.kn.below.size) (fun e => by have := (hS i e).1; omega)).trans (h.kn.below.block i hi)⟩, trivial⟩, ?_, h.base, h.off⟩
  obtain ⟨cur, T, h1, h2⟩ := h.mine
  exact ⟨cur, T, (hf.block g hlt (fun e => (hS g e).2 rfl)).trans h1, h2⟩
theorem own_inB {B : Nat} {v : Value} {l : List Int} (h : OwnI w B v l) {i : Nat} (hi : Value.inBlock v = some i) : v.ownBlock = some i := by
  rcases h.2 with ⟨rfl, _⟩ | ⟨g, cap, cur, rfl, _⟩
  · cases hi
  · exact hi
theorem Decode_ok (s : Bytes) (hs : s.length < 1000000000) (hl : Cd.LaidE w) (k : ∀ w' dv av, Below w.heap.size w w' → ListsR w' dv (decodeM s).1.1 → NumsR w' av (decodeM s).1.2 → K (.tuple #[prfV dv av, .bool (decodeM s).2]) w') : callM Tryz.prog 52 #[.string ⟨s.toArray⟩] K w := by
  apply sh_52_ok
  unfold sh_52
  refine alloc_mine (n := 2) al_prf rfl (.start w) fun g W2 hk hb2 hg => ?_
  have hgW := mine_lt hk.mine
  refine Cd.open_ok s (fun w1 hr1 hb1 => ?_)
  have hk1 := hk.next hb1
  have hl1 := hl.below hk1.below hl.size
  have h8 : 8 ≤ W2.heap.size := Nat.le_trans hl.size hb2.size
  refine Cd.itemsNum_ok W2.heap.size _ hl1 h8 (by show s.length < _; omega) Rd.ok_good hr1 (fun v w2 hr2 hg2 ho2 => ?_)
  have hfr : FrG W2.heap.size w1 w2 := (Fr.refl _ _).by hg2 (fun i e => .inl (Option.some.inj e).symm)
  have hk2 := hk1.fr hfr (by simp) (by omega) hb2.size
  have hvl := rdNums_len s
  have hdec : decodeM s = if doneR (rdNums ⟨s, false⟩).2 && !(rowsM (rdNums ⟨s, false⟩).1).2.bad && decide ((rowsM (rdNums ⟨s, false⟩).1).2.left = []) then ((rowsM (rdNums ⟨s, false⟩).1).1, true) else (([], []), false) := rfl
  have k2 : ∀ w' dv av r, decodeM s = r → Below w.heap.size w w' → ListsR w' dv r.1.1 → NumsR w' av r.1.2 → K (.tuple #[prfV dv av, .bool r.2]) w' := fun w' dv av r e hb h1 h2 => by rw [← e] at h1 h2 ⊢; exact k w' dv av hb h1 h2
  clear k
  obtain ⟨⟨vs, r2⟩, hrd⟩ : ∃ p, rdNums ⟨s, false⟩ = p := ⟨_, rfl⟩
  rw [hrd] at hdec hr2 ho2 hvl
  simp only at hdec hr2 ho2 hvl
  have bad : ∀ w2 (hk : KnM w [] g 2 w2), decodeM s = (([], []), false) →
      oM Tryz.prog (Go.Op.store 34 (.tmp 0) (.tmp 1)) 0 [.pointer (some ⟨g, 0, none⟩), zPv] (fun _ w =>
        ∃ r, (do loadVar 34 (← asAddr (.pointer (some ⟨g, 0, none⟩))) : Sem Value).run Tryz.prog w = .ok r w ∧ K (.tuple #[r, (.bool false)]) w) w2 := fun w2 hk e =>
    store_mine sz_prf rfl rfl (prf_one none none 0 0 0 0) hk (fun W3 hk hc => ⟨_, by simp [go_sem, hc], k2 _ _ _ _ e hk.below SRow.nil SRow.nil⟩)
  obtain ⟨vad, vc, rfl⟩ := owns_len ho2
  rw [build_row]
  refine arr_box (cs := [.slice vad vs.length vc, .bool false]) rfl (fun b15 w3 h3 hg3 hh3 => ?_)
  have hk3 := hk2.next h3
  have hr3 : Cd.IsRd w3 W2.heap.size r2 := by
    unfold Cd.IsRd at hr2 ⊢
    exact (h3.block _ (Array.getElem?_eq_some_iff.1 hr2).1).trans hr2
  refine Cd.done_ok _ r2 hr3 ?_
  have hdd : Cd.rdDone r2 = doneR r2 := rfl
  rw [hdd]
  cases hd : doneR r2 with
  | false =>
    rw [hd] at hdec
    repeat (any_goals (first
    | (with_reducible ((refine idCond ?_); refine yL ?_))
    | ((with_reducible refine idO ?_); (with_reducible refine oM_gen fun Kv hK=>?_); simp [go_sem]; refine hK _ _ ?_; clear hK; clear Kv)))
    exact bad _ hk3 (by rw [hdec]; simp)
  | true =>
  rw [hd, Bool.true_and] at hdec
  iterate 2 (any_goals (first
  | (with_reducible ((refine idCond ?_); refine yM ?_))
  | ((with_reducible refine idO ?_); (with_reducible refine oM_gen fun Kv hK=>?_); simp [go_sem]; refine hK _ _ ?_; clear hK; clear Kv)))
  refine arr_alloc al_prf (fun b6 w4 h4 hg4 hh4 => ?_)
  have hk4 := hk3.next h4
  have hh15 := hh3.next h4
  have hin : ∀ x ∈ vs, I64 x := by
    rcases rdNums_some ⟨s, false⟩ Rd.ok_good with h | ⟨vs', t, h, _, _, h'⟩
    · rw [hrd] at h; cases h; simp
    · rw [hrd] at h; cases h; exact fun x hx => (InR_iff x).1 (h' x hx)
  have ho2' : w2.ownsRow w1.heap.size 3 1 (.slice vad vs.length vc) vs.length (flat intC vs) := by rw [flat_int]; exact ho2
  have hints : Ints w2 (.slice vad vs.length vc) vs := Ints.of_owns ho2' hin (by omega)
  have hcc : CI w2 (.slice vad vs.length vc) vs := by
    refine ⟨hints, vad, vc, rfl, ?_, ?_⟩
    · rcases ho2'.2 with ⟨h1, h2⟩ | ⟨g', cap, cur, h1, _, _, h2, _⟩
      · injection h1 with ha hb hc; omega
      · injection h1 with ha hb hc; omega
    · rintro rfl
      rcases ho2'.2 with ⟨h1, h2⟩ | ⟨g', cap, cur, h1, _, _, h2, _⟩
      · injection h1
      · cases h1
  have hin2 : ∀ i, Value.inBlock (.slice vad vs.length vc) = some i → i < w2.heap.size := fun i hi => by
    rcases ho2'.2 with ⟨h1, _⟩ | ⟨g', cap, cur, h1, _, h2, _⟩
    · injection h1 with ha hb hc; subst ha; cases hi
    · cases h1; cases hi; exact (Array.getElem?_eq_some_iff.1 h2).1
  have s3 := h3.size
  have s4 := h4.size
  have hrw : IsRw w3.heap.size w4 b15 ⟨vs, false⟩ := ⟨_, hh15, hcc.keep (by omega) (fun i hi _ => (h4.block i (by have := hin2 i hi; omega)).trans (h3.block i (hin2 i hi))), hh3.lt, fun i hi => ⟨by have := hin2 i hi; omega, by have := hin2 i hi; omega⟩⟩
  refine count_ok hrw (fun w5 hr5 hg5 => ?_)
  have hcl := countR_len ⟨vs, false⟩
  have hn : (countR ⟨vs, false⟩).1 < 1000000000 := by have := hcl.2.1; simp only at this; omega
  have hN : (countR ⟨vs, false⟩).2.left.length ≤ 1000000000 := by have := hcl.1; simp only at this; omega
  have hR0 : rowsM vs = clausesR (countR ⟨vs, false⟩).1 (countR ⟨vs, false⟩).2 := rfl
  generalize rowsM vs = R at *
  generalize (countR ⟨vs, false⟩).1 = n at *
  generalize (countR ⟨vs, false⟩).2 = r0 at *
  have hlt15 := hh15.lt
  have hlt6 := hh4.lt
  have hg4 : g < w4.heap.size := mine_lt hk4.mine
  have hne : b6 ≠ b15 := by have := hh3.lt; omega
  have hh6 := hh4.other hg5 hne
  refine ⟨OjJ w3.heap.size b15 b6 1000000000 n w4 R, (fun vs _ => match vs with | [_, _, _, .int _ i] => n - i.toNat | _ => 0), ⟨_, _, _, _, _, 0, r0, [], [], fun _ => False, rfl, by omega, Fr.of_by hg5 |>.mono (fun i _ e => .inl e), hr5, hh6, .nil, .nil, fun i h => h.elim, fun i h => h.elim, (fun i h => by cases h), fun i h => h.elim, hN, rfl, rfl, by simpa using hR0⟩, ?_⟩
  rintro _ _ w6 ⟨u1, u2, u3, dv, av, i, r, ds, al, D, rfl, hi, hfr6, hr6, hh6, hgd, hga, hod, hoa, hap, hlow, hN, hdl, hal, hR⟩
  obtain ⟨dad, dc, rfl⟩ := hgd.isSlice
  obtain ⟨aad, ac, rfl⟩ := hga.isSlice
  have hk6 : KnM w [] g 2 w6 := knm_fr hk4 hfr6 (fun j hj => by
    have := hk2.below.size
    rcases hj with rfl | rfl
    · exact ⟨by omega, by have := mine_lt hk2.mine; omega⟩
    · exact ⟨by omega, by have := mine_lt hk3.mine; omega⟩)
  by_cases hin : i = n
  · rw [show n - i = 0 by omega] at hR
    have hR : R = ((ds, al), r) := by rw [hR]; simp [clausesR]
    obtain ⟨lv, hhr, hcr, hbr, hbi⟩ := id hr6
    obtain ⟨ad, c, rfl, hcap, hnn⟩ := id hcr.2
    rw [hR] at hdec
    have hll := hcr.1.len
    cases hbad : r.bad with
    | true =>
      rw [hbad] at hhr
      repeat (any_goals (first
      | (with_reducible first|((refine idGd ?_); refine zD ?_)|((refine idPick ?_); refine yB ?_)|((refine idCond ?_); first|refine yL ?_|refine yO ?_))
      | ((with_reducible refine idO ?_); (with_reducible refine oM_gen fun Kv hK=>?_); simp [go_sem, hhr.are]; refine hK _ _ ?_; clear hK; clear Kv)))
      exact bad _ hk6 (by rw [hdec]; simp [hbad])
    | false =>
    rw [hbad] at hhr
    by_cases hl0 : (0 : Int) < r.left.length
    · have hl0' : ¬ r.left = [] := fun e => by rw [e] at hl0; simp at hl0
      repeat (any_goals (first
      | (with_reducible first|refine pureM_in ?_|((refine idGd ?_); refine zC ?_)|((refine idPick ?_); refine yC ?_)|((refine idCond ?_); first|refine yN ?_|refine yO ?_))
      | ((with_reducible refine idO ?_); (with_reducible refine oM_gen fun Kv hK=>?_); simp [go_sem, hhr.are, hl0]; refine hK _ _ ?_; clear hK; clear Kv)))
      exact bad _ hk6 (by rw [hdec]; simp [hl0'])
    · have hl0' : r.left = [] := List.eq_nil_of_length_eq_zero (by omega)
      repeat (any_goals (first
      | (with_reducible first|refine pureM_in ?_|((refine idGd ?_); refine zC ?_)|((refine idPick ?_); refine yC ?_)|((refine idCond ?_); refine yO ?_))
      | ((with_reducible refine idO ?_); (with_reducible refine oM_gen fun Kv hK=>?_); simp [go_sem, hhr.are, hl0, hh6.are]; refine hK _ _ ?_; clear hK; clear Kv)))
      have hdec : decodeM s = ((ds, al), true) := by rw [hdec]; simp [hbad, hl0']
      obtain ⟨W3, e3, hg3', hm3, hc3⟩ := store_run (P := Tryz.prog) (w := w6) (W := w6) sz_prf (x := prfV (.slice dad ds.length dc) (.slice aad al.length ac)) (xs := prfC (.slice dad ds.length dc) (.slice aad al.length ac)) rfl rfl (prf_one dad aad ds.length dc al.length ac) hk6.mine
      rw [oM_store, e3]
      have hk7 := hk6.kn.wrote hg3' hk6.base hk6.off
      have hDg : ∀ i, D i → i < w6.heap.size ∧ ¬ i = g := fun i hi => ⟨(hod i hi).1, fun e => by have := hlow i hi; omega⟩
      have hgd3 := hgd.keep (Fr.of_by hg3') hDg (fun i hi e => by have := (hgd.own hi).2; omega)
      have hga3 := hga.keep (Fr.of_by hg3') hDg (fun i hi e => by have := (hga.own hi).2; omega)
      exact ⟨prfV (.slice dad ds.length dc) (.slice aad al.length ac), by simp [go_sem, hc3], k2 W3 _ _ _ hdec hk7.below (hgd3.srow (by decide) (show ds.length ≤ _ by omega)) (hga3.srow (by decide) (show al.length ≤ _ by omega))⟩
  obtain ⟨m, hm⟩ : ∃ m, n - i = m + 1 := ⟨n - i - 1, by omega⟩
  rw [hm, clausesR_succ] at hR
  iterate 2 (any_goals (first
  | (with_reducible ((refine idCond ?_); refine yN ?_))
  | ((with_reducible refine idO ?_); (with_reducible refine oM_gen fun Kv hK=>?_); simp [go_sem]; refine hK _ _ ?_; clear hK; clear Kv)))
  refine count_ok hr6 (fun w7 hr7 hg7 => ?_)
  have hcl := countR_len r
  have hn1 : (countR r).1 < 1000000000 + 1 := by omega
  have hN1 : (countR r).2.left.length ≤ 1000000000 := by omega
  generalize (countR r).1 = n1 at *
  generalize (countR r).2 = r1 at *
  have hB7 : w4.heap.size ≤ w7.heap.size := Nat.le_trans hfr6.size hg7.size
  refine ⟨IjJ w3.heap.size b15 1000000000 w7 n1 (itemsR n1 r1), (fun vs _ => match vs with | [_, _, _, .int _ i] => n1 - i.toNat | _ => 0), ⟨_, _, _, 0, r1, [], [], fun _ => False, rfl, by omega, Inn.start hr7 (Nat.le_trans s4 hB7), hN1, rfl, rfl, by simp⟩, ?_⟩
  generalize hR1 : itemsR n1 r1 = R1 at *
  rintro _ _ w8 ⟨dv1, u4, av1, kk, r2, ds1, al1, D1, rfl, hkk, hInn, hN2, hdl1, hal1, hRR⟩
  obtain ⟨d1ad, d1c, hdv1⟩ := owns_len hInn.d
  subst hdv1
  obtain ⟨a1ad, a1c, hav1⟩ := hInn.a.isSlice
  subst hav1
  by_cases hkn : kk = n1
  · rw [show n1 - kk = 0 by omega] at hRR
    have hRR : R1 = ((ds1, al1), r2) := by rw [hRR]; simp [itemsR]
    have h6s := hg7.size
    have h7s := hInn.fr.size
    have hf68 : Fr (fun j => j = b15) w6 w8 := (Fr.of_by hg7).trans hInn.fr (fun i e => .inl e)
    have h46 := hfr6.size
    have hD8 : ∀ i, D i → i < w6.heap.size ∧ ¬ i = b15 := fun i hi => ⟨(hod i hi).1, fun e => by have := hlow i hi; omega⟩
    have hgd8 := hgd.keep hf68 hD8 (fun i hi e => by have := (hgd.own hi).2; omega)
    have hga8 := hga.keep hf68 hD8 (fun i hi e => by have := (hga.own hi).2; omega)
    have hh8 : Holds w8 b6 34 [.slice dad ds.length dc, .slice aad al.length ac] := (hf68.block b6 hh6.lt (fun e => hne e)).trans hh6
    have hodr : Below w8.heap.size w8 { w8 with drawn := w8.drawn + 1 } := .drawn
    have hI9 := hInn.next hodr
    have hgd9 := hgd8.next hodr (fun i hi => Nat.lt_of_lt_of_le (hD8 i hi).1 (Nat.le_trans h6s h7s))
    have hga9 := hga8.next hodr (fun i hi => Nat.lt_of_lt_of_le (hD8 i hi).1 (Nat.le_trans h6s h7s))
    have hh9 := hh8.next hodr
    have hs89 : ({ w8 with drawn := w8.drawn + 1 } : World).heap.size = w8.heap.size := rfl
    have hf69 : Fr (fun j => j = b15) w6 { w8 with drawn := w8.drawn + 1 } := hf68.drew
    have hown1 := fun i hi => (hgd.own (i := i) hi)
    have hown2 := fun i hi => (hga.own (i := i) hi)
    generalize hW9 : ({ w8 with drawn := w8.drawn + 1 } : World) = W9 at *
    have hd1 := fun i (hi : (Value.slice d1ad ds1.length d1c).ownBlock = some i) => owns_own hI9.d hi
    have ha1 := fun i (hi : (Value.slice a1ad al1.length a1c).ownBlock = some i) => hI9.a.own hi
    have hoff : ∀ (v : Value), (∀ i, v.ownBlock = some i → i < w6.heap.size) → Off D w6 v → Off (fun i => D i ∨ D1 i ∨ (Value.slice d1ad ds1.length d1c).ownBlock = some i ∨ (Value.slice a1ad al1.length a1c).ownBlock = some i) W9 v := by
      intro v hv hDv i hi
      rcases hi with hi | hi | hi | hi
      · exact ⟨by have := (hDv i hi).1; omega, (hDv i hi).2⟩
      · exact ⟨(hI9.od i hi).1, fun e => by have := hv i e; have := hI9.low i hi; omega⟩
      · exact ⟨(hd1 i hi).1, fun e => by have := hv i e; have := (hd1 i hi).2.1; omega⟩
      · exact ⟨(ha1 i hi).1, fun e => by have := hv i e; have := (ha1 i hi).2; omega⟩
    have hlow' : ∀ i, (D i ∨ D1 i ∨ (Value.slice d1ad ds1.length d1c).ownBlock = some i ∨ (Value.slice a1ad al1.length a1c).ownBlock = some i) → w4.heap.size ≤ i := by
      intro i hi
      rcases hi with hi | hi | hi | hi
      · exact hlow i hi
      · have := hI9.low i hi; omega
      · have := (hd1 i hi).2.1; omega
      · have := (ha1 i hi).2; omega
    have hduo : DuoI w4.heap.size (fun i => D i ∨ D1 i ∨ (Value.slice d1ad ds1.length d1c).ownBlock = some i ∨ (Value.slice a1ad al1.length a1c).ownBlock = some i) W9 (.slice dad ds.length dc) (.slice aad al.length ac) (.slice d1ad ds1.length d1c) (.slice a1ad al1.length a1c) ds al ds1 al1 :=
      ⟨hgd9.mono (fun i hi => .inl hi), hga9.mono (fun i hi => .inl hi), hoff _ (fun i hi => (hown1 i hi).1) hod, hoff _ (fun i hi => (hown2 i hi).1) hoa, hap, by omega,
        ((hI9.d.ints hI9.rng (by omega)).fp).mono (fun i hi => .inr (.inr (.inl (own_inB hI9.d hi.1)))), (hI9.a.fp (by decide) (by omega)).mono (fun i hi => hi.elim (fun h => .inr (.inl h)) (fun h => .inr (.inr (.inr h)))), by omega, by omega⟩
    obtain ⟨D', hD', hlow2⟩ : ∃ D' : Nat → Prop, D' = (fun i => D i ∨ D1 i ∨ (Value.slice d1ad ds1.length d1c).ownBlock = some i ∨ (Value.slice a1ad al1.length a1c).ownBlock = some i) ∧ ∀ i, D' i → w4.heap.size ≤ i := ⟨_, rfl, fun i hi => hlow' i hi⟩
    rw [← hD'] at hduo
    clear hD' hlow' hoff
    have h6W : b6 < W9.heap.size := hh9.lt
    have hcell : ∀ w', Fr (fun i => (Value.slice dad ds.length dc).ownBlock = some i ∨ (Value.slice aad al.length ac).ownBlock = some i) W9 w' → Holds w' b6 34 [.slice dad ds.length dc, .slice aad al.length ac] := fun w' h => (h.block b6 h6W (fun e => by
      rcases e with e | e
      · have := (hown1 _ e).2; omega
      · have := (hown2 _ e).2; omega)).trans hh9
    have hcellC : ∀ w', DuoC w4.heap.size D' W9 (.slice dad ds.length dc) (.slice aad al.length ac) ds al w' → Holds w' b6 34 [.slice dad ds.length dc, .slice aad al.length ac] := fun w' h => hcell w' h.1
    repeat (any_goals (first
    | (with_reducible ((refine idCond ?_); refine yO ?_))
    | ((with_reducible refine idO ?_); (with_reducible refine oM_gen fun Kv hK=>?_); simp [go_sem]; refine hK _ _ ?_; clear hK; clear Kv)))
    refine ⟨DuoC w4.heap.size D' W9 (.slice dad ds.length dc) (.slice aad al.length ac) ds al, by rw [hW9]; exact ⟨Fr.refl _ _, hduo.a, hduo.b⟩, rfl, ?_⟩
    repeat (any_goals (first
    | (with_reducible refine pureH_in ?_)
    | ((with_reducible refine idOH ?_); (with_reducible refine oH_of ⟨_, rfl⟩ (fun W0 hW0 => by (refine oM_gen (fun Kv hK => ?_)); simp [go_sem, (hcellC _ hW0).are]; (first | exact hK _ _ ⟨rfl, rfl⟩ | exact ⟨by omega, hK _ _ ⟨rfl, rfl⟩⟩)) ?_))))
    refine duo_free hduo (i1 := 0) (fun K' w h => ?_) (fun w v u hfr hA hB hap' => ?_)
    · repeat (any_goals ((with_reducible refine idO ?_); (with_reducible refine oM_gen fun Kv hK=>?_); simp [go_sem]; refine hK _ _ ?_; clear hK; clear Kv))
      exact h
    have hh10 := hcell w hfr
    obtain ⟨vad', vc', rfl⟩ := hA.1.isSlice
    obtain ⟨uad', uc', rfl⟩ := hB.1.isSlice
    refine arr_set (i := 0) sz_intsR rfl rfl hh10 (by simp) (fun w11 hg11 hh11 => ?_)
    iterate 1 (any_goals ((with_reducible refine idO ?_); (with_reducible refine oM_gen fun Kv hK=>?_); simp [go_sem]; refine hK _ _ ?_; clear hK; clear Kv))
    refine arr_set (i := 1) sz_intsR rfl rfl hh11 (by simp) (fun w12 hg12 hh12 => ?_)
    repeat (any_goals ((with_reducible refine idO ?_); (with_reducible refine oM_gen fun Kv hK=>?_); simp [go_sem]; (try simp (disch := omega) only [wrapI64, wrapU8, wrapU32, wrapU64]); refine hK _ _ ?_; clear hK; clear Kv))
    have hg13 := grown_two hg11 hg12
    have hws := hfr.size
    have hb6v : ∀ i, D' i → i < w.heap.size ∧ ¬ i = b6 := fun i hi => ⟨(hA.2.1 i hi).1, fun e => by have := hlow2 i hi; omega⟩
    have hvB : ∀ i, (Value.slice vad' (ds ++ [ds1]).length vc').ownBlock = some i → ¬ i = b6 := fun i hi e => by have := (hA.1.own hi).2; omega
    have huB : ∀ i, (Value.slice uad' (al ++ [al1]).length uc').ownBlock = some i → ¬ i = b6 := fun i hi e => by have := (hB.1.own hi).2; omega
    have hf46 : Fr (fun j => j = b15 ∨ j = b6) w4 w12 := ((hfr6.trans hf69 (fun i e => .inl (.inl e))).trans hfr (fun i e => .inr (e.elim (fun e => (hown1 i e).2) (fun e => (hown2 i e).2)))).by hg13 (fun i e => .inl (.inr (Option.some.inj e).symm))
    have hrw12 : IsRw w3.heap.size w12 b15 r2 := hI9.rw.keep ⟨hg13.os.trans hfr.os, hg13.tape.trans hfr.tape, hg13.output.trans hfr.output, Nat.le_trans hfr.size hg13.size, fun i hi => (hg13.block i (by omega) (fun e => by have := Option.some.inj e; omega)).trans (hfr.block i (by omega) (fun e => by
      rcases e with e | e
      · have := (hown1 _ e).2; omega
      · have := (hown2 _ e).2; omega))⟩
    refine ⟨⟨_, _, _, _, _, i + 1, r2, ds ++ [ds1], al ++ [al1], D', rfl, by omega, hf46, hrw12, hh12, hA.1.keep (Fr.of_by hg13) hb6v hvB, hB.1.keep (Fr.of_by hg13) hb6v huB, hA.2.1.next hg13.size, hB.2.1.next hg13.size, hap', hlow2, by omega, by rw [List.length_append, List.length_singleton]; omega, by rw [List.length_append, List.length_singleton]; omega, ?_⟩, by show n - (((i + 1 : Nat) : Int)).toNat < n - ((i : Nat) : Int).toNat; omega⟩
    rw [hR, hRR, show n - (i + 1) = m by omega]
    simp
  obtain ⟨m1, hm1⟩ : ∃ m, n1 - kk = m + 1 := ⟨n1 - kk - 1, by omega⟩
  rw [hm1, itemsR_succ] at hRR
  iterate 2 (any_goals (first
  | (with_reducible ((refine idCond ?_); refine yN ?_))
  | ((with_reducible refine idO ?_); (with_reducible refine oM_gen fun Kv hK=>?_); simp [go_sem]; refine hK _ _ ?_; clear hK; clear Kv)))
  refine next_ok hInn.rw (fun w9 hr9 hg9 hx9 => ?_)
  have hI9 := hInn.read hg9 hr9
  have hnl := nextR_len r2
  generalize (nextR r2).1 = x at *
  generalize (nextR r2).2 = r3 at *
  refine mk1g x hx9 (fun v10 w10 h10 hi10 _ => ?_)
  refine (hI9.next h10).addD hi10 (by omega) (fun dv2 w11 hI11 => ?_)
  refine count_ok hI11.rw (fun w12 hr12 hg12 => ?_)
  have hI12 := hI11.read hg12 hr12
  have hcl3 := countR_len r3
  generalize (countR r3).1 = n3 at *
  generalize (countR r3).2 = r4 at *
  obtain ⟨lv, hhr, hcr, hbr, hbi⟩ := id hI12.rw
  obtain ⟨ad, c, hlv, hcap, hnn⟩ := id hcr.2
  subst hlv
  iterate 3 (any_goals ((with_reducible refine idO ?_); (with_reducible refine oM_gen fun Kv hK=>?_); simp [go_sem, hhr.are]; refine hK _ _ ?_; clear hK; clear Kv))
  refine CI.to hcr n3 hcl3.2.2 (fun v13 hi13 => ?_)
  refine Clone_ok hi13 (by rw [List.length_take]; omega) (fun v14 w14 ho14 h14 hown14 => ?_)
  have hI14 := hI12.next h14
  obtain ⟨ad14, c14, hv14⟩ := owns_len ho14
  subst hv14
  refine lit_ints _ _ _ (fun g15 w15 h15 hg15 hh15' => ?_)
  have hI15 := hI14.next h15
  have h7s := hI12.fr.size
  have h14s := h14.size
  have h15s := h15.size
  have hi14 : Ints w14 (.slice ad14 (r4.left.take n3).length c14) (r4.left.take n3) := Ints.of_owns ho14 hi13.rng hi13.len
  refine hI15.addA (E := fun i => (Value.slice ad14 (r4.left.take n3).length c14).ownBlock = some i) hh15' ((hi14.fp.mono (fun i hi => own_inB ho14 hi.1)).next h15 (fun i hi => (owns_own ho14 hi).1)) (fun i hi => ?_) (by omega) (fun av2 w16 hI16 => ?_)
  · have e1 := hown14 i hi
    have e2 := (owns_own ho14 hi).1
    exact ⟨by omega, by omega, fun e => by have := (owns_own hI12.d e).1; omega, fun e => by have := (hI12.a.own e).1; omega⟩
  obtain ⟨lv2, hhr2, hcr2, hbr2, hbi2⟩ := id hI16.rw
  obtain ⟨ad2, c2, hlv2, hcap2, hnn2⟩ := id hcr2.2
  subst hlv2
  iterate 3 (any_goals ((with_reducible refine idO ?_); (with_reducible refine oM_gen fun Kv hK=>?_); simp [go_sem, hhr2.are]; refine hK _ _ ?_; clear hK; clear Kv))
  refine CI.from hcr2 n3 hcl3.2.2 (fun v17 hc17 hb17 => ?_)
  obtain ⟨ad17, c17, hv17, _, _⟩ := id hc17.2
  subst hv17
  iterate 2 (any_goals ((with_reducible refine idO ?_); (with_reducible refine oM_gen fun Kv hK=>?_); simp [go_sem]; refine hK _ _ ?_; clear hK; clear Kv))
  refine arr_set (i := 0) sz_intsR rfl rfl hhr2 (by simp) (fun w18 hg18 hh18 => ?_)
  have hI18 := hI16.read (r' := (takeR n3 r4).2) hg18 ⟨_, hh18, hc17.keep hg18.size (fun i hi hlt => hg18.block i hlt (fun e => (hbi2 i (hb17 ▸ hi)).2 (by first | exact Option.some.inj e | exact (Option.some.inj e).symm))), hbr2, fun i hi => hbi2 i (hb17 ▸ hi)⟩
  have htl : (takeR n3 r4).2.left.length ≤ r4.left.length := by unfold takeR; simp
  have eta : (takeR n3 r4).1 = r4.left.take n3 := rfl
  rw [eta] at hRR
  generalize (takeR n3 r4).2 = r5 at *
  repeat (any_goals ((with_reducible refine idO ?_); (with_reducible refine oM_gen fun Kv hK=>?_); simp [go_sem]; (try simp (disch := omega) only [wrapI64, wrapU8, wrapU32, wrapU64]); refine hK _ _ ?_; clear hK; clear Kv))
  refine ⟨⟨_, _, _, kk + 1, r5, _, _, _, rfl, by omega, hI18, by omega, by rw [List.length_append, List.length_singleton]; omega, by rw [List.length_append, List.length_singleton]; omega, ?_⟩, by show n1 - (((kk + 1 : Nat) : Int)).toNat < n1 - ((kk : Nat) : Int).toNat; omega⟩
  rw [hRR, show n1 - (kk + 1) = m1 by omega]
  simp
end
end Go.Proofs
set_option linter.unusedVariables false
set_option maxRecDepth 100000
namespace Go.Proofs
open Go Go.Sh
def sh_62 (a0 : Value) (a1 : Value) (K : Value → World → Prop) (w : World) : Prop :=
 oM Tryz.prog (.call (Go.Call.mk (.builtin .len) #[(.tmp 0)] #[24])) 3 [a0] (fun v7_1 w =>
 oM Tryz.prog (.call (Go.Call.mk (.builtin .len) #[(.tmp 0)] #[24])) 3 [a1] (fun v9_2 w =>
 oM Tryz.prog (.binOp .neq 3 (.tmp 0) (.tmp 1) 3) 4 [v7_1, v9_2] (fun v10_3 w =>
 condM v10_3
 (K (.bool false) w)
 (loopM [(.bool false), (.int .i64 0)] w (fun J_4 m_5 l_6 u_l_6 w0_l_6 => (fun w => (
 oM Tryz.prog (.call (Go.Call.mk (.builtin .len) #[(.tmp 0)] #[24])) 3 [a0] (fun v13_7 w =>
 oM Tryz.prog (.binOp .lss 3 (.tmp 0) (.tmp 1) 3) 4 [(l_6.getD 1 undef), v13_7] (fun v14_8 w =>
 condM v14_8
 (quietM w (fun C_9 => (oQ Tryz.prog (.indexAddr 24 (.tmp 0) (.tmp 1)) 0 [a0, (l_6.getD 1 undef)] C_9 (fun v19_10 =>
 oQ Tryz.prog (.load 3 (.tmp 0)) 3 [v19_10] C_9 (fun v20_11 =>
 oQ Tryz.prog (.indexAddr 24 (.tmp 0) (.tmp 1)) 0 [a1, (l_6.getD 1 undef)] C_9 (fun v23_12 =>
 oQ Tryz.prog (.load 3 (.tmp 0)) 3 [v23_12] C_9 (fun v24_13 =>
 oQ Tryz.prog (.binOp .neq 3 (.tmp 0) (.tmp 1) 3) 4 [v20_11, v24_13] C_9 (fun v25_14 =>
 ∀ w, C_9 w → (condM v25_14
 (K (.bool false) w)
 (oM Tryz.prog (.binOp .add 3 (.tmp 0) (.tmp 1) 3) 3 [(l_6.getD 1 undef), (.int .i64 1)] (fun v16_15 w =>
 J_4 [(l_6.getD 0 undef), v16_15] w ∧ m_5 [(l_6.getD 0 undef), v16_15] w < m_5 l_6 w0_l_6) w))))))))))
 (K (.bool true) w)) w) w)) w0_l_6))) w) w) w
theorem sh_62_eq (a0 : Value) (a1 : Value) (K : Value → World → Prop) (w : World) : sh_62 a0 a1 K w = code Tryz.prog (fun _ => 0) 26 (Tryz.f62.body.getD .skip) (slotsAt [a0, a1]) (retK Tryz.prog [.tmp 4] K) w := by kernel_rfl
theorem sh_62_ok {a0 a1 : Value} {K : Value → World → Prop} {w : World} (h : sh_62 a0 a1 K w) : callM Tryz.prog 62 #[a0, a1] K w :=
  calls_of_code (fun _ => 0) (fn := Tryz.f62) (rs := [.tmp 4]) Tryz.func62 rfl rfl (by kernel_rfl) (Nat.le_of_ble_eq_true rfl) ((sh_62_eq a0 a1 K w).mp h)
def sh_105 (a0 : Value) (a1 : Value) (K : Value → World → Prop) (w : World) : Prop :=
 oM Tryz.prog (.call (Go.Call.mk (.builtin .len) #[(.tmp 0)] #[30])) 3 [a0] (fun v7_1 w =>
 oM Tryz.prog (.call (Go.Call.mk (.builtin .len) #[(.tmp 0)] #[30])) 3 [a1] (fun v9_2 w =>
 oM Tryz.prog (.binOp .neq 3 (.tmp 0) (.tmp 1) 3) 4 [v7_1, v9_2] (fun v10_3 w =>
 condM v10_3
 (K (.bool false) w)
 (loopM [(.bool false), (.int .i64 0)] w (fun J_4 m_5 l_6 u_l_6 w0_l_6 => (fun w => (
 oM Tryz.prog (.call (Go.Call.mk (.builtin .len) #[(.tmp 0)] #[30])) 3 [a0] (fun v13_7 w =>
 oM Tryz.prog (.binOp .lss 3 (.tmp 0) (.tmp 1) 3) 4 [(l_6.getD 1 undef), v13_7] (fun v14_8 w =>
 condM v14_8
 (quietM w (fun C_9 => (oQ Tryz.prog (.indexAddr 30 (.tmp 0) (.tmp 1)) 0 [a0, (l_6.getD 1 undef)] C_9 (fun v19_10 =>
 oQ Tryz.prog (.load 24 (.tmp 0)) 24 [v19_10] C_9 (fun v20_11 =>
 oQ Tryz.prog (.indexAddr 30 (.tmp 0) (.tmp 1)) 0 [a1, (l_6.getD 1 undef)] C_9 (fun v23_12 =>
 oQ Tryz.prog (.load 24 (.tmp 0)) 24 [v23_12] C_9 (fun v24_13 =>
 callQ Tryz.prog 62 #[v20_11, v24_13] C_9 (fun v25_14 =>
 oQ Tryz.prog (.unOp .not 4 (.tmp 0)) 4 [v25_14] C_9 (fun v26_15 =>
 ∀ w, C_9 w → (condM v26_15
 (K (.bool false) w)
 (oM Tryz.prog (.binOp .add 3 (.tmp 0) (.tmp 1) 3) 3 [(l_6.getD 1 undef), (.int .i64 1)] (fun v16_16 w =>
 J_4 [(l_6.getD 0 undef), v16_16] w ∧ m_5 [(l_6.getD 0 undef), v16_16] w < m_5 l_6 w0_l_6) w)))))))))))
 (K (.bool true) w)) w) w)) w0_l_6))) w) w) w
theorem sh_105_eq (a0 : Value) (a1 : Value) (K : Value → World → Prop) (w : World) : sh_105 a0 a1 K w = code Tryz.prog (fun _ => 0) 27 (Tryz.f105.body.getD .skip) (slotsAt [a0, a1]) (retK Tryz.prog [.tmp 4] K) w := by kernel_rfl
theorem sh_105_ok {a0 a1 : Value} {K : Value → World → Prop} {w : World} (h : sh_105 a0 a1 K w) : callM Tryz.prog 105 #[a0, a1] K w :=
  calls_of_code (fun _ => 0) (fn := Tryz.f105) (rs := [.tmp 4]) Tryz.func105 rfl rfl (by kernel_rfl) (Nat.le_of_ble_eq_true rfl) ((sh_105_eq a0 a1 K w).mp h)
def sh_106 (a0 : Value) (a1 : Value) (K : Value → World → Prop) (w : World) : Prop :=
 oM Tryz.prog (.call (Go.Call.mk (.builtin .len) #[(.tmp 0)] #[29])) 3 [a0] (fun v7_1 w =>
 oM Tryz.prog (.call (Go.Call.mk (.builtin .len) #[(.tmp 0)] #[29])) 3 [a1] (fun v9_2 w =>
 oM Tryz.prog (.binOp .neq 3 (.tmp 0) (.tmp 1) 3) 4 [v7_1, v9_2] (fun v10_3 w =>
 condM v10_3
 (K (.bool false) w)
 (loopM [(.bool false), (.int .i64 0)] w (fun J_4 m_5 l_6 u_l_6 w0_l_6 => (fun w => (
 oM Tryz.prog (.call (Go.Call.mk (.builtin .len) #[(.tmp 0)] #[29])) 3 [a0] (fun v13_7 w =>
 oM Tryz.prog (.binOp .lss 3 (.tmp 0) (.tmp 1) 3) 4 [(l_6.getD 1 undef), v13_7] (fun v14_8 w =>
 condM v14_8
 (quietM w (fun C_9 => (oQ Tryz.prog (.indexAddr 29 (.tmp 0) (.tmp 1)) 0 [a0, (l_6.getD 1 undef)] C_9 (fun v19_10 =>
 oQ Tryz.prog (.load 30 (.tmp 0)) 30 [v19_10] C_9 (fun v20_11 =>
 oQ Tryz.prog (.indexAddr 29 (.tmp 0) (.tmp 1)) 0 [a1, (l_6.getD 1 undef)] C_9 (fun v23_12 =>
 oQ Tryz.prog (.load 30 (.tmp 0)) 30 [v23_12] C_9 (fun v24_13 =>
 callQ Tryz.prog 105 #[v20_11, v24_13] C_9 (fun v25_14 =>
 oQ Tryz.prog (.unOp .not 4 (.tmp 0)) 4 [v25_14] C_9 (fun v26_15 =>
 ∀ w, C_9 w → (condM v26_15
 (K (.bool false) w)
 (oM Tryz.prog (.binOp .add 3 (.tmp 0) (.tmp 1) 3) 3 [(l_6.getD 1 undef), (.int .i64 1)] (fun v16_16 w =>
 J_4 [(l_6.getD 0 undef), v16_16] w ∧ m_5 [(l_6.getD 0 undef), v16_16] w < m_5 l_6 w0_l_6) w)))))))))))
 (K (.bool true) w)) w) w)) w0_l_6))) w) w) w
theorem sh_106_eq (a0 : Value) (a1 : Value) (K : Value → World → Prop) (w : World) : sh_106 a0 a1 K w = code Tryz.prog (fun _ => 0) 27 (Tryz.f106.body.getD .skip) (slotsAt [a0, a1]) (retK Tryz.prog [.tmp 4] K) w := by kernel_rfl
theorem sh_106_ok {a0 a1 : Value} {K : Value → World → Prop} {w : World} (h : sh_106 a0 a1 K w) : callM Tryz.prog 106 #[a0, a1] K w :=
  calls_of_code (fun _ => 0) (fn := Tryz.f106) (rs := [.tmp 4]) Tryz.func106 rfl rfl (by kernel_rfl) (Nat.le_of_ble_eq_true rfl) ((sh_106_eq a0 a1 K w).mp h)
def sh_20 (a0 : Value) (a1 : Value) (K : Value → World → Prop) (w : World) : Prop :=
 oM Tryz.prog (.box 34 (.tmp 0)) 0 [a0] (fun v2_1 w =>
 oM Tryz.prog (.box 34 (.tmp 0)) 0 [a1] (fun v3_2 w =>
 oM Tryz.prog (.fieldAddr 34 (.tmp 0) 0) 0 [v2_1] (fun v5_3 w =>
 oM Tryz.prog (.load 30 (.tmp 0)) 30 [v5_3] (fun v6_4 w =>
 oM Tryz.prog (.fieldAddr 34 (.tmp 0) 0) 0 [v3_2] (fun v7_5 w =>
 oM Tryz.prog (.load 30 (.tmp 0)) 30 [v7_5] (fun v8_6 w =>
 callM Tryz.prog 105 #[v6_4, v8_6] (fun v9_7 w =>
 gdM (gd v9_7 true) (oM Tryz.prog (.fieldAddr 34 (.tmp 0) 1) 0 [v2_1]) (fun v11_8 w =>
 gdM (gd v9_7 true) (oM Tryz.prog (.load 29 (.tmp 0)) 29 [v11_8]) (fun v12_9 w =>
 gdM (gd v9_7 true) (oM Tryz.prog (.fieldAddr 34 (.tmp 0) 1) 0 [v3_2]) (fun v13_10 w =>
 gdM (gd v9_7 true) (oM Tryz.prog (.load 29 (.tmp 0)) 29 [v13_10]) (fun v14_11 w =>
 gdM (gd v9_7 true) (callM Tryz.prog 106 #[v12_9, v14_11]) (fun v15_12 w =>
 oM Tryz.prog (.pick (.tmp 0) (.tmp 1) (.tmp 2)) 4 [v9_7, v15_12, (.bool false)] (fun v16_13 w =>
 K v16_13 w) w) w) w) w) w) w) w) w) w) w) w) w) w
theorem sh_20_eq (a0 : Value) (a1 : Value) (K : Value → World → Prop) (w : World) : sh_20 a0 a1 K w = code Tryz.prog (fun _ => 0) 17 (Tryz.f20.body.getD .skip) (slotsAt [a0, a1]) (retK Tryz.prog [.tmp 4] K) w := by kernel_rfl
theorem sh_20_ok {a0 a1 : Value} {K : Value → World → Prop} {w : World} (h : sh_20 a0 a1 K w) : callM Tryz.prog 20 #[a0, a1] K w :=
  calls_of_code (fun _ => 0) (fn := Tryz.f20) (rs := [.tmp 4]) Tryz.func20 rfl rfl (by kernel_rfl) (Nat.le_of_ble_eq_true rfl) ((sh_20_eq a0 a1 K w).mp h)
def sh_86 (K : Value → World → Prop) (w : World) : Prop :=
 oM Tryz.prog (.alloc 26) 0 [] (fun v0_1 w =>
 oM Tryz.prog (.build 23 #[(0, (.tmp 0)), (1, (.tmp 1)), (2, (.tmp 2))]) 23 [(.int .i64 23), (.int .i64 11), (.int .i64 4)] (fun v1_2 w =>
 oM Tryz.prog (.buildSlice 24 2 #[(0, (.tmp 0)), (1, (.tmp 1))]) 24 [(.int .i64 16), (.int .i64 18)] (fun v2_3 w =>
 oM Tryz.prog (.build 26 #[(0, (.tmp 0)), (1, (.tmp 1)), (2, (.tmp 2))]) 26 [v1_2, v2_3, (.int .i64 12)] (fun v3_4 w =>
 oM Tryz.prog (.store 26 (.tmp 0) (.tmp 1)) 0 [v0_1, v3_4] (fun _ w =>
 ∃ r_5, (do loadVar 26 (← asAddr v0_1) : Sem Value).run Tryz.prog w = .ok r_5 w ∧ K r_5 w) w) w) w) w) w
theorem sh_86_eq (K : Value → World → Prop) (w : World) : sh_86 K w = code Tryz.prog (fun _ => 0) 4 (Tryz.f86.body.getD .skip) (slotsAt []) (retK Tryz.prog [.cell 0 26] K) w := by kernel_rfl
theorem sh_86_ok {K : Value → World → Prop} {w : World} (h : sh_86 K w) : callM Tryz.prog 86 #[] K w :=
  calls_of_code (fun _ => 0) (fn := Tryz.f86) (rs := [.cell 0 26]) Tryz.func86 rfl rfl (by kernel_rfl) (Nat.le_of_ble_eq_true rfl) ((sh_86_eq K w).mp h)
def sh_39 (a0 : Value) (K : Value → World → Prop) (w : World) : Prop :=
 oM Tryz.prog (.box 26 (.tmp 0)) 0 [a0] (fun v1_1 w =>
 oM Tryz.prog (.fieldAddr 26 (.tmp 0) 1) 0 [v1_1] (fun v3_2 w =>
 oM Tryz.prog (.load 24 (.tmp 0)) 24 [v3_2] (fun v4_3 w =>
 oM Tryz.prog (.call (Go.Call.mk (.builtin .len) #[(.tmp 0)] #[24])) 3 [v4_3] (fun v5_4 w =>
 oM Tryz.prog (.binOp .leq 3 (.tmp 0) (.tmp 1) 3) 4 [v5_4, (.int .i64 9)] (fun v6_5 w =>
 K v6_5 w) w) w) w) w) w
theorem sh_39_eq (a0 : Value) (K : Value → World → Prop) (w : World) : sh_39 a0 K w = code Tryz.prog (fun _ => 0) 7 (Tryz.f39.body.getD .skip) (slotsAt [a0]) (retK Tryz.prog [.tmp 2] K) w := by kernel_rfl
theorem sh_39_ok {a0 : Value} {K : Value → World → Prop} {w : World} (h : sh_39 a0 K w) : callM Tryz.prog 39 #[a0] K w :=
  calls_of_code (fun _ => 0) (fn := Tryz.f39) (rs := [.tmp 2]) Tryz.func39 rfl rfl (by kernel_rfl) (Nat.le_of_ble_eq_true rfl) ((sh_39_eq a0 K w).mp h)
def sh_38 (K : Value → World → Prop) (w : World) : Prop :=
 callM Tryz.prog 86 #[] (fun v16_1 w =>
 oM Tryz.prog (.alloc 26) 0 [] (fun v1_2 w =>
 oM Tryz.prog (.store 26 (.tmp 0) (.tmp 1)) 0 [v1_2, v16_1] (fun _ w =>
 oM Tryz.prog (.load 26 (.tmp 0)) 26 [v1_2] (fun v18_3 w =>
 oM Tryz.prog (.buildSlice 24 2 #[(0, (.tmp 0)), (1, (.tmp 1))]) 24 [(.int .i64 4), (.int .i64 4)] (fun v19_4 w =>
 callM Tryz.prog 74 #[v18_3, v19_4] (fun v20_5 w =>
 oM Tryz.prog (.extract (.tmp 0) 0) 3 [v20_5] (fun v21_6 w =>
 oM Tryz.prog (.extract (.tmp 0) 1) 4 [v20_5] (fun v22_7 w =>
 oM Tryz.prog (.load 26 (.tmp 0)) 26 [v1_2] (fun v24_8 w =>
 oM Tryz.prog (.buildSlice 24 2 #[(0, (.tmp 0)), (1, (.tmp 1))]) 24 [(.int .i64 1), (.int .i64 2)] (fun v25_9 w =>
 callM Tryz.prog 76 #[v24_8, (.int .i64 2), v25_9] (fun v26_10 w =>
 oM Tryz.prog (.extract (.tmp 0) 0) 24 [v26_10] (fun v27_11 w =>
 oM Tryz.prog (.extract (.tmp 0) 1) 28 [v26_10] (fun v28_12 w =>
 oM Tryz.prog (.extract (.tmp 0) 2) 4 [v26_10] (fun v29_13 w =>
 heldM w (fun C_14 w => (((true : Bool) = true) ∧ (oH Tryz.prog (.load 26 (.tmp 0)) 26 [v1_2] C_14 (fun v30_15 =>
 oH Tryz.prog (.load 26 (.tmp 0)) 26 [v1_2] C_14 (fun v31_16 =>
 pureH v27_11 C_14 (fun v33_17 =>
 ∃ S_18 : World → World → Prop, ∃ R_19 : Value → World → Prop, (∀ v w w_1, S_18 w w_1 → R_19 v w → R_19 v w_1) ∧
 (∀ w, C_14 w → (callM Tryz.prog 44 #[v31_16, (.int .i64 2), (.int .i64 3)] (fun v w_1 => C_14 w_1 ∧ S_18 w w_1 ∧ R_19 v w_1) w)) ∧
 (∀ w, C_14 w → ∀ v32_20, R_19 v32_20 w → (
 callM Tryz.prog 40 #[v30_15, v32_20, v33_17] (fun v34_21 w =>
 oM Tryz.prog (.unOp .not 4 (.tmp 0)) 4 [v22_7] (fun v36_22 w =>
 gdM (gd v36_22 false) (pureM v21_6) (fun v38_23 w =>
 gdM (gd v36_22 false) (oM Tryz.prog (.binOp .neq 3 (.tmp 0) (.const (.int .i64 18)) 3) 4 [v38_23]) (fun v39_24 w =>
 oM Tryz.prog (.pick (.tmp 0) (.tmp 1) (.tmp 2)) 4 [v36_22, (.bool true), v39_24] (fun v40_25 w =>
 gdM (gd v40_25 false) (pureM v29_13) (fun v42_26 w =>
 gdM (gd v40_25 false) (oM Tryz.prog (.unOp .not 4 (.tmp 0)) 4 [v42_26]) (fun v43_27 w =>
 oM Tryz.prog (.pick (.tmp 0) (.tmp 1) (.tmp 2)) 4 [v40_25, (.bool true), v43_27] (fun v44_28 w =>
 gdM (gd v44_28 false) (pureM v27_11) (fun v46_29 w =>
 gdM (gd v44_28 false) (oM Tryz.prog (.buildSlice 24 2 #[(0, (.tmp 0)), (1, (.tmp 1))]) 24 [(.int .i64 12), (.int .i64 1)]) (fun v47_30 w =>
 gdM (gd v44_28 false) (callM Tryz.prog 62 #[v46_29, v47_30]) (fun v48_31 w =>
 gdM (gd v44_28 false) (oM Tryz.prog (.unOp .not 4 (.tmp 0)) 4 [v48_31]) (fun v49_32 w =>
 oM Tryz.prog (.pick (.tmp 0) (.tmp 1) (.tmp 2)) 4 [v44_28, (.bool true), v49_32] (fun v50_33 w =>
 gdM (gd v50_33 false) (oM Tryz.prog (.load 26 (.tmp 0)) 26 [v1_2]) (fun v52_34 w =>
 gdM (gd v50_33 false) (oM Tryz.prog (.buildSlice 24 2 #[(0, (.tmp 0)), (1, (.tmp 1))]) 24 [(.int .i64 1), (.int .i64 2)]) (fun v53_35 w =>
 gdM (gd v50_33 false) (callM Tryz.prog 71 #[v52_34, (.int .i64 3), v53_35]) (fun v54_36 w =>
 gdM (gd v50_33 false) (oM Tryz.prog (.binOp .neq 3 (.tmp 0) (.const (.int .i64 9)) 3) 4 [v54_36]) (fun v55_37 w =>
 oM Tryz.prog (.pick (.tmp 0) (.tmp 1) (.tmp 2)) 4 [v50_33, (.bool true), v55_37] (fun v56_38 w =>
 gdM (gd v56_38 false) (pureM v34_21) (fun v58_39 w =>
 gdM (gd v56_38 false) (oM Tryz.prog (.call (Go.Call.mk (.builtin .len) #[(.tmp 0)] #[27])) 3 [v58_39]) (fun v59_40 w =>
 gdM (gd v56_38 false) (oM Tryz.prog (.binOp .neq 3 (.tmp 0) (.const (.int .i64 3)) 3) 4 [v59_40]) (fun v60_41 w =>
 oM Tryz.prog (.pick (.tmp 0) (.tmp 1) (.tmp 2)) 4 [v56_38, (.bool true), v60_41] (fun v61_42 w =>
 condM v61_42
 (K (.bool false) w)
 (oM Tryz.prog (.indexAddr 27 (.tmp 0) (.tmp 1)) 0 [v34_21, (.int .i64 2)] (fun v63_43 w =>
 oM Tryz.prog (.load 65 (.tmp 0)) 65 [v63_43] (fun v64_44 w =>
 oM Tryz.prog (.alloc 65) 0 [] (fun v8_45 w =>
 oM Tryz.prog (.store 65 (.tmp 0) (.tmp 1)) 0 [v8_45, v64_44] (fun _ w =>
 oM Tryz.prog (.fieldAddr 65 (.tmp 0) 1) 0 [v8_45] (fun v65_46 w =>
 oM Tryz.prog (.load 63 (.tmp 0)) 63 [v65_46] (fun v66_47 w =>
 oM Tryz.prog (.call (Go.Call.mk (.builtin .len) #[(.tmp 0)] #[63])) 3 [v66_47] (fun v67_48 w =>
 oM Tryz.prog (.binOp .neq 3 (.tmp 0) (.const (.int .i64 1)) 3) 4 [v67_48] (fun v68_49 w =>
 gdM (gd v68_49 false) (pureM v28_12) (fun v70_50 w =>
 gdM (gd v68_49 false) (oM Tryz.prog (.call (Go.Call.mk (.builtin .len) #[(.tmp 0)] #[28])) 3 [v70_50]) (fun v71_51 w =>
 gdM (gd v68_49 false) (oM Tryz.prog (.binOp .neq 3 (.tmp 0) (.const (.int .i64 2)) 3) 4 [v71_51]) (fun v72_52 w =>
 oM Tryz.prog (.pick (.tmp 0) (.tmp 1) (.tmp 2)) 4 [v68_49, (.bool true), v72_52] (fun v73_53 w =>
 gdM (gd v73_53 false) (pureM v28_12) (fun v75_54 w =>
 gdM (gd v73_53 false) (oM Tryz.prog (.indexAddr 28 (.tmp 0) (.tmp 1)) 0 [v75_54, (.int .i64 0)]) (fun v76_55 w =>
 gdM (gd v73_53 false) (oM Tryz.prog (.load 114 (.tmp 0)) 114 [v76_55]) (fun v77_56 w =>
 gdM (gd v73_53 false) (oM Tryz.prog (.call (Go.Call.mk (.builtin .len) #[(.tmp 0)] #[114])) 3 [v77_56]) (fun v78_57 w =>
 gdM (gd v73_53 false) (oM Tryz.prog (.binOp .neq 3 (.tmp 0) (.const (.int .i64 2)) 3) 4 [v78_57]) (fun v79_58 w =>
 oM Tryz.prog (.pick (.tmp 0) (.tmp 1) (.tmp 2)) 4 [v73_53, (.bool true), v79_58] (fun v80_59 w =>
 gdM (gd v80_59 false) (pureM v28_12) (fun v82_60 w =>
 gdM (gd v80_59 false) (oM Tryz.prog (.indexAddr 28 (.tmp 0) (.tmp 1)) 0 [v82_60, (.int .i64 0)]) (fun v83_61 w =>
 gdM (gd v80_59 false) (oM Tryz.prog (.load 114 (.tmp 0)) 114 [v83_61]) (fun v84_62 w =>
 gdM (gd v80_59 false) (oM Tryz.prog (.indexAddr 114 (.tmp 0) (.tmp 1)) 0 [v84_62, (.int .i64 0)]) (fun v85_63 w =>
 gdM (gd v80_59 false) (oM Tryz.prog (.fieldAddr 113 (.tmp 0) 0) 0 [v85_63]) (fun v86_64 w =>
 gdM (gd v80_59 false) (oM Tryz.prog (.load 4 (.tmp 0)) 4 [v86_64]) (fun v87_65 w =>
 gdM (gd v80_59 false) (oM Tryz.prog (.unOp .not 4 (.tmp 0)) 4 [v87_65]) (fun v88_66 w =>
 oM Tryz.prog (.pick (.tmp 0) (.tmp 1) (.tmp 2)) 4 [v80_59, (.bool true), v88_66] (fun v89_67 w =>
 gdM (gd v89_67 false) (pureM v28_12) (fun v91_68 w =>
 gdM (gd v89_67 false) (oM Tryz.prog (.indexAddr 28 (.tmp 0) (.tmp 1)) 0 [v91_68, (.int .i64 0)]) (fun v92_69 w =>
 gdM (gd v89_67 false) (oM Tryz.prog (.load 114 (.tmp 0)) 114 [v92_69]) (fun v93_70 w =>
 gdM (gd v89_67 false) (oM Tryz.prog (.indexAddr 114 (.tmp 0) (.tmp 1)) 0 [v93_70, (.int .i64 1)]) (fun v94_71 w =>
 gdM (gd v89_67 false) (oM Tryz.prog (.fieldAddr 113 (.tmp 0) 0) 0 [v94_71]) (fun v95_72 w =>
 gdM (gd v89_67 false) (oM Tryz.prog (.load 4 (.tmp 0)) 4 [v95_72]) (fun v96_73 w =>
 oM Tryz.prog (.pick (.tmp 0) (.tmp 1) (.tmp 2)) 4 [v89_67, (.bool true), v96_73] (fun v97_74 w =>
 condM v97_74
 (K (.bool false) w)
 (oM Tryz.prog (.load 26 (.tmp 0)) 26 [v1_2] (fun v99_75 w =>
 callM Tryz.prog 45 #[v99_75, (.int .i64 3), (.int .i64 5), (.string ⟨#[104, 101, 108, 108, 111]⟩)] (fun v100_76 w =>
 oM Tryz.prog (.extract (.tmp 0) 0) 74 [v100_76] (fun v101_77 w =>
 oM Tryz.prog (.extract (.tmp 0) 1) 4 [v100_76] (fun v102_78 w =>
 oM Tryz.prog (.alloc 74) 0 [] (fun v9_79 w =>
 oM Tryz.prog (.store 74 (.tmp 0) (.tmp 1)) 0 [v9_79, v101_77] (fun _ w =>
 oM Tryz.prog (.buildSlice 24 1 #[(0, (.tmp 0))]) 24 [(.int .i64 4)] (fun v103_80 w =>
 oM Tryz.prog (.buildSlice 30 1 #[(0, (.tmp 0))]) 30 [v103_80] (fun v104_81 w =>
 oM Tryz.prog (.buildSlice 24 2 #[(0, (.tmp 0)), (1, (.tmp 1))]) 24 [(.int .i64 5), (.int .i64 6)] (fun v105_82 w =>
 oM Tryz.prog (.buildSlice 30 1 #[(0, (.tmp 0))]) 30 [v105_82] (fun v106_83 w =>
 oM Tryz.prog (.buildSlice 29 1 #[(0, (.tmp 0))]) 29 [v106_83] (fun v107_84 w =>
 oM Tryz.prog (.build 34 #[(0, (.tmp 0)), (1, (.tmp 1))]) 34 [v104_81, v107_84] (fun v108_85 w =>
 oM Tryz.prog (.alloc 34) 0 [] (fun v11_86 w =>
 oM Tryz.prog (.store 34 (.tmp 0) (.tmp 1)) 0 [v11_86, v108_85] (fun _ w =>
 oM Tryz.prog (.load 34 (.tmp 0)) 34 [v11_86] (fun v110_87 w =>
 callM Tryz.prog 51 #[v110_87] (fun v111_88 w =>
 oM Tryz.prog (.extract (.tmp 0) 0) 9 [v111_88] (fun v112_89 w =>
 oM Tryz.prog (.extract (.tmp 0) 1) 4 [v111_88] (fun v113_90 w =>
 callM Tryz.prog 52 #[v112_89] (fun v116_91 w =>
 oM Tryz.prog (.extract (.tmp 0) 0) 34 [v116_91] (fun v117_92 w =>
 oM Tryz.prog (.extract (.tmp 0) 1) 4 [v116_91] (fun v118_93 w =>
 oM Tryz.prog (.alloc 34) 0 [] (fun v14_94 w =>
 oM Tryz.prog (.store 34 (.tmp 0) (.tmp 1)) 0 [v14_94, v117_92] (fun _ w =>
 heldM w (fun C_95 w => (((true : Bool) = true) ∧ (oH Tryz.prog (.load 26 (.tmp 0)) 26 [v1_2] C_95 (fun v119_96 =>
 oH Tryz.prog (.fieldAddr 65 (.tmp 0) 1) 0 [v8_45] C_95 (fun v120_97 =>
 oH Tryz.prog (.load 63 (.tmp 0)) 63 [v120_97] C_95 (fun v121_98 =>
 oH Tryz.prog (.indexAddr 63 (.tmp 0) (.tmp 1)) 0 [v121_98, (.int .i64 0)] C_95 (fun v122_99 =>
 oH Tryz.prog (.load 69 (.tmp 0)) 69 [v122_99] C_95 (fun v123_100 =>
 ∃ S_101 : World → World → Prop, ∃ R_102 : Value → World → Prop, (∀ v w w_1, S_101 w w_1 → R_102 v w → R_102 v w_1) ∧
 (∀ w, C_95 w → (oM Tryz.prog (.buildSlice 24 1 #[(0, (.tmp 0))]) 24 [(.int .i64 9)] (fun v w_1 => C_95 w_1 ∧ S_101 w w_1 ∧ R_102 v w_1) w)) ∧
 (∃ R_103 : Value → World → Prop, (∀ v w w_1, S_101 w w_1 → R_103 v w → R_103 v w_1) ∧
 (∀ w, C_95 w → ∀ v124_104, R_102 v124_104 w → (callM Tryz.prog 41 #[v119_96, v123_100, v124_104] (fun v w_1 => C_95 w_1 ∧ S_101 w w_1 ∧ R_103 v w_1) w)) ∧
 (∃ R_105 : Value → World → Prop, (∀ v w w_1, S_101 w w_1 → R_105 v w → R_105 v w_1) ∧
 (∀ w, C_95 w → ∀ v125_106, R_103 v125_106 w → (C_95 w ∧ S_101 w w ∧ R_105 v125_106 w)) ∧
 (∃ R_107 : Value → World → Prop, (∀ v w w_1, S_101 w w_1 → R_107 v w → R_107 v w_1) ∧
 (∀ w, C_95 w → ∀ v126_108, R_105 v126_108 w → (gdM (gd v126_108 true) (pureM v102_78) (fun v w_1 => C_95 w_1 ∧ S_101 w w_1 ∧ R_107 v w_1) w)) ∧
 (∃ R_109 : Value → World → Prop, (∀ v w w_1, S_101 w w_1 → R_109 v w → R_109 v w_1) ∧
 (∀ w, C_95 w → ∀ v126_110, R_105 v126_110 w → ∀ v127_111, R_107 v127_111 w → (oM Tryz.prog (.pick (.tmp 0) (.tmp 1) (.tmp 2)) 4 [v126_110, v127_111, (.bool false)] (fun v w_1 => C_95 w_1 ∧ S_101 w w_1 ∧ R_109 v w_1) w)) ∧
 (∃ R_112 : Value → World → Prop, (∀ v w w_1, S_101 w w_1 → R_112 v w → R_112 v w_1) ∧
 (∀ w, C_95 w → ∀ v128_113, R_109 v128_113 w → (C_95 w ∧ S_101 w w ∧ R_112 v128_113 w)) ∧
 (∃ R_114 : Value → World → Prop, (∀ v w w_1, S_101 w w_1 → R_114 v w → R_114 v w_1) ∧
 (∀ w, C_95 w → ∀ v129_115, R_112 v129_115 w → (gdM (gd v129_115 true) (oM Tryz.prog (.load 26 (.tmp 0)) 26 [v1_2]) (fun v w_1 => C_95 w_1 ∧ S_101 w w_1 ∧ R_114 v w_1) w)) ∧
 (∃ R_116 : Value → World → Prop, (∀ v w w_1, S_101 w w_1 → R_116 v w → R_116 v w_1) ∧
 (∀ w, C_95 w → ∀ v129_117, R_112 v129_117 w → (gdM (gd v129_117 true) (oM Tryz.prog (.load 74 (.tmp 0)) 74 [v9_79]) (fun v w_1 => C_95 w_1 ∧ S_101 w w_1 ∧ R_116 v w_1) w)) ∧
 (∃ R_118 : Value → World → Prop, (∀ v w w_1, S_101 w w_1 → R_118 v w → R_118 v w_1) ∧
 (∀ w, C_95 w → ∀ v129_119, R_112 v129_119 w → ∀ v130_120, R_114 v130_120 w → ∀ v131_121, R_116 v131_121 w → (gdM (gd v129_119 true) (callM Tryz.prog 47 #[v130_120, (.int .i64 18), (.string ⟨#[104, 101, 108, 108, 111]⟩), v131_121]) (fun v w_1 => C_95 w_1 ∧ S_101 w w_1 ∧ R_118 v w_1) w)) ∧
 (∃ R_122 : Value → World → Prop, (∀ v w w_1, S_101 w w_1 → R_122 v w → R_122 v w_1) ∧
 (∀ w, C_95 w → ∀ v129_123, R_112 v129_123 w → ∀ v132_124, R_118 v132_124 w → (oM Tryz.prog (.pick (.tmp 0) (.tmp 1) (.tmp 2)) 4 [v129_123, v132_124, (.bool false)] (fun v w_1 => C_95 w_1 ∧ S_101 w w_1 ∧ R_122 v w_1) w)) ∧
 (∃ R_125 : Value → World → Prop, (∀ v w w_1, S_101 w w_1 → R_125 v w → R_125 v w_1) ∧
 (∀ w, C_95 w → ∀ v133_126, R_122 v133_126 w → (C_95 w ∧ S_101 w w ∧ R_125 v133_126 w)) ∧
 (∃ R_127 : Value → World → Prop, (∀ v w w_1, S_101 w w_1 → R_127 v w → R_127 v w_1) ∧
 (∀ w, C_95 w → ∀ v134_128, R_125 v134_128 w → (gdM (gd v134_128 true) (pureM v113_90) (fun v w_1 => C_95 w_1 ∧ S_101 w w_1 ∧ R_127 v w_1) w)) ∧
 (∃ R_129 : Value → World → Prop, (∀ v w w_1, S_101 w w_1 → R_129 v w → R_129 v w_1) ∧
 (∀ w, C_95 w → ∀ v134_130, R_125 v134_130 w → ∀ v135_131, R_127 v135_131 w → (oM Tryz.prog (.pick (.tmp 0) (.tmp 1) (.tmp 2)) 4 [v134_130, v135_131, (.bool false)] (fun v w_1 => C_95 w_1 ∧ S_101 w w_1 ∧ R_129 v w_1) w)) ∧
 (∃ R_132 : Value → World → Prop, (∀ v w w_1, S_101 w w_1 → R_132 v w → R_132 v w_1) ∧
 (∀ w, C_95 w → ∀ v136_133, R_129 v136_133 w → (C_95 w ∧ S_101 w w ∧ R_132 v136_133 w)) ∧
 (∃ R_134 : Value → World → Prop, (∀ v w w_1, S_101 w w_1 → R_134 v w → R_134 v w_1) ∧
 (∀ w, C_95 w → ∀ v137_135, R_132 v137_135 w → (gdM (gd v137_135 true) (pureM v118_93) (fun v w_1 => C_95 w_1 ∧ S_101 w w_1 ∧ R_134 v w_1) w)) ∧
 (∃ R_136 : Value → World → Prop, (∀ v w w_1, S_101 w w_1 → R_136 v w → R_136 v w_1) ∧
 (∀ w, C_95 w → ∀ v137_137, R_132 v137_137 w → ∀ v138_138, R_134 v138_138 w → (oM Tryz.prog (.pick (.tmp 0) (.tmp 1) (.tmp 2)) 4 [v137_137, v138_138, (.bool false)] (fun v w_1 => C_95 w_1 ∧ S_101 w w_1 ∧ R_136 v w_1) w)) ∧
 (∃ R_139 : Value → World → Prop, (∀ v w w_1, S_101 w w_1 → R_139 v w → R_139 v w_1) ∧
 (∀ w, C_95 w → ∀ v139_140, R_136 v139_140 w → (C_95 w ∧ S_101 w w ∧ R_139 v139_140 w)) ∧
 (∃ R_141 : Value → World → Prop, (∀ v w w_1, S_101 w w_1 → R_141 v w → R_141 v w_1) ∧
 (∀ w, C_95 w → ∀ v140_142, R_139 v140_142 w → (gdM (gd v140_142 true) (oM Tryz.prog (.load 34 (.tmp 0)) 34 [v11_86]) (fun v w_1 => C_95 w_1 ∧ S_101 w w_1 ∧ R_141 v w_1) w)) ∧
 (∃ R_143 : Value → World → Prop, (∀ v w w_1, S_101 w w_1 → R_143 v w → R_143 v w_1) ∧
 (∀ w, C_95 w → ∀ v140_144, R_139 v140_144 w → (gdM (gd v140_144 true) (oM Tryz.prog (.load 34 (.tmp 0)) 34 [v14_94]) (fun v w_1 => C_95 w_1 ∧ S_101 w w_1 ∧ R_143 v w_1) w)) ∧
 (∀ w, C_95 w → ∀ v124_145, R_102 v124_145 w → ∀ v125_146, R_103 v125_146 w → ∀ v126_147, R_105 v126_147 w → ∀ v127_148, R_107 v127_148 w → ∀ v128_149, R_109 v128_149 w → ∀ v129_150, R_112 v129_150 w → ∀ v130_151, R_114 v130_151 w → ∀ v131_152, R_116 v131_152 w → ∀ v132_153, R_118 v132_153 w → ∀ v133_154, R_122 v133_154 w → ∀ v134_155, R_125 v134_155 w → ∀ v135_156, R_127 v135_156 w → ∀ v136_157, R_129 v136_157 w → ∀ v137_158, R_132 v137_158 w → ∀ v138_159, R_134 v138_159 w → ∀ v139_160, R_136 v139_160 w → ∀ v140_161, R_139 v140_161 w → ∀ v141_162, R_141 v141_162 w → ∀ v142_163, R_143 v142_163 w → (
 gdM (gd v140_161 true) (callM Tryz.prog 20 #[v141_162, v142_163]) (fun v143_164 w =>
 oM Tryz.prog (.pick (.tmp 0) (.tmp 1) (.tmp 2)) 4 [v140_161, v143_164, (.bool false)] (fun v144_165 w =>
 K v144_165 w) w) w))))))))))))))))))))))))))))) w) w) w) w) w) w) w) w) w) w) w) w) w) w) w) w) w) w) w) w) w) w) w)) w) w) w) w) w) w) w) w) w) w) w) w) w) w) w) w) w) w) w) w) w) w) w) w) w) w) w) w) w) w) w) w) w)) w) w) w) w) w) w) w) w) w) w) w) w) w) w) w) w) w) w) w) w) w) w))))))))) w) w) w) w) w) w) w) w) w) w) w) w) w) w
theorem sh_38_eq (K : Value → World → Prop) (w : World) : sh_38 K w = code Tryz.prog (fun i => bif Nat.beq i 4 then .free [0, 1, 3] [2] [4, 5] else bif Nat.beq i 14 then .free [0, 1, 2, 3, 4] [5, 6, 7, 8, 9, 10, 11, 12, 13, 14, 15, 16, 17, 18, 19, 20, 21, 22, 23] [24, 25, 26] else 0) 145 (Tryz.f38.body.getD .skip) (slotsAt []) (retK Tryz.prog [.tmp 0] K) w := by kernel_rfl
theorem sh_38_ok {K : Value → World → Prop} {w : World} (h : sh_38 K w) : callM Tryz.prog 38 #[] K w :=
  calls_of_code (fun i => bif Nat.beq i 4 then .free [0, 1, 3] [2] [4, 5] else bif Nat.beq i 14 then .free [0, 1, 2, 3, 4] [5, 6, 7, 8, 9, 10, 11, 12, 13, 14, 15, 16, 17, 18, 19, 20, 21, 22, 23] [24, 25, 26] else 0) (fn := Tryz.f38) (rs := [.tmp 0]) Tryz.func38 rfl rfl (by kernel_rfl) (Nat.le_of_ble_eq_true rfl) ((sh_38_eq K w).mp h)
end Go.Proofs
namespace Go.Proofs
open Go Go.Sh Go.RowKit FdSpec TkSpec CodeSpec PrSpec
set_option linter.unusedSimpArgs false
set_option linter.unusedVariables false
set_option maxRecDepth 10000
section
variable {K : Value → World → Prop} {w w' w0 W : World} {L : List (Addr × Value)}
def SmJ {α : Type} (a b : List α) (w0 : World) (vs : List Value) (w' : World) : Prop := Below w0.heap.size w0 w' ∧ ∃ (u : Value) (i : Nat), vs = [u, .int .i64 (i : Int)] ∧ i ≤ a.length ∧ a.take i = b.take i
theorem SameInts_ok {v u : Value} {a b : List Int} (ha : Ints w v a) (hb : Ints w u b) (k : ∀ w', Below w.heap.size w w' → K (.bool (decide (a = b))) w') : callM Tryz.prog 62 #[v, u] K w := by
  apply sh_62_ok
  unfold sh_62
  obtain ⟨ad1, c1, rfl⟩ := ha.isSlice
  obtain ⟨ad2, c2, rfl⟩ := hb.isSlice
  have l1 := ha.len
  have l2 := hb.len
  by_cases hl : ¬ a.length = b.length
  · have hl' : ¬ (a.length : Int) = b.length := by omega
    have k := k _ (Below.refl _ _)
    rw [decide_eq_false (by rintro rfl; exact hl rfl)] at k
    repeat (any_goals (first
    | (with_reducible ((refine idCond ?_); refine yL ?_))
    | ((with_reducible refine idO ?_); (with_reducible refine oM_gen fun Kv hK=>?_); simp [go_sem, hl']; refine hK _ _ ?_; clear hK; clear Kv)))
    exact k
  have hl : a.length = b.length := by omega
  have hl' : (a.length : Int) = b.length := by omega
  repeat (any_goals (first
  | (with_reducible ((refine idCond ?_); refine yM ?_))
  | ((with_reducible refine idO ?_); (with_reducible refine oM_gen fun Kv hK=>?_); simp [go_sem, hl']; refine hK _ _ ?_; clear hK; clear Kv)))
  refine ⟨SmJ a b w, fun vs _ => match vs with | [_, .int _ i] => a.length - i.toNat | _ => 0, ⟨Below.refl _ _, _, 0, rfl, by omega, rfl⟩, ?_⟩
  rintro _ _ w1 ⟨h1, u1, i, rfl, hi, he⟩
  by_cases hin : i = a.length
  · have e : a = b := by
      rw [List.take_of_length_le (by omega), List.take_of_length_le (by omega)] at he
      exact he
    have k := k _ h1
    rw [decide_eq_true e] at k
    repeat (any_goals (first
    | (with_reducible ((refine idCond ?_); refine yO ?_))
    | ((with_reducible refine idO ?_); (with_reducible refine oM_gen fun Kv hK=>?_); simp [go_sem, hl']; refine hK _ _ ?_; clear hK; clear Kv)))
    exact k
  obtain ⟨b1, o1, rfl, hb1, ca, ra, _⟩ := ha.at (i := i) (by omega)
  obtain ⟨b2, o2, rfl, hb2, cb, rb, _⟩ := hb.at (i := i) (by omega)
  have hib : (i : Int) < b.length := by omega
  repeat (any_goals (first
  | (with_reducible ((refine idCond ?_); refine yN ?_))
  | ((with_reducible refine idO ?_); (with_reducible refine oM_gen fun Kv hK=>?_); simp [go_sem, hl']; refine hK _ _ ?_; clear hK; clear Kv)))
  refine ⟨Below w.heap.size w, h1.trans .drawn, ?_⟩
  by_cases hx : a[i] = b[i]
  · repeat (any_goals ((with_reducible refine idOQ ?_); (with_reducible refine oQ_of ⟨_, rfl⟩ (fun W0 hW0 => by (refine oM_gen (fun Kv hK => ?_)); simp [go_sem, ca _ hW0, cb _ hW0, hl', hx]; (first | exact hK _ _ ⟨rfl, rfl⟩ | exact ⟨by omega, hK _ _ ⟨rfl, rfl⟩⟩)) ?_)))
    intro w2 h2
    repeat (any_goals (first
    | (with_reducible ((refine idCond ?_); refine yM ?_))
    | ((with_reducible refine idO ?_); (with_reducible refine oM_gen fun Kv hK=>?_); simp [go_sem, hx]; (try simp (disch := omega) only [wrapI64, wrapU8, wrapU32, wrapU64]); refine hK _ _ ?_; clear hK; clear Kv)))
    refine ⟨⟨h2, _, i + 1, rfl, by omega, ?_⟩, by show a.length - (((i + 1 : Nat) : Int)).toNat < a.length - ((i : Nat) : Int).toNat; omega⟩
    rw [List.take_succ_eq_append_getElem (by omega), List.take_succ_eq_append_getElem (by omega), he, hx]
  · repeat (any_goals ((with_reducible refine idOQ ?_); (with_reducible refine oQ_of ⟨_, rfl⟩ (fun W0 hW0 => by (refine oM_gen (fun Kv hK => ?_)); simp [go_sem, ca _ hW0, cb _ hW0, hl', hx]; (first | exact hK _ _ ⟨rfl, rfl⟩ | exact ⟨by omega, hK _ _ ⟨rfl, rfl⟩⟩)) ?_)))
    intro w2 h2
    have k := k _ h2
    rw [decide_eq_false (by rintro rfl; exact hx rfl)] at k
    repeat (any_goals (with_reducible ((refine idCond ?_); refine yL ?_)))
    exact k
theorem SameLists_ok {v u : Value} {a b : List (List Int)} (ha : ListsR w v a) (hb : ListsR w u b) (k : ∀ w', Below w.heap.size w w' → K (.bool (decide (a = b))) w') : callM Tryz.prog 105 #[v, u] K w := by
  apply sh_105_ok
  unfold sh_105
  obtain ⟨ad1, c1, rfl⟩ := ha.isSlice
  obtain ⟨ad2, c2, rfl⟩ := hb.isSlice
  have l1 := ha.len
  have l2 := hb.len
  by_cases hl : ¬ a.length = b.length
  · have hl' : ¬ (a.length : Int) = b.length := by omega
    have k := k _ (Below.refl _ _)
    rw [decide_eq_false (by rintro rfl; exact hl rfl)] at k
    repeat (any_goals (first
    | (with_reducible ((refine idCond ?_); refine yL ?_))
    | ((with_reducible refine idO ?_); (with_reducible refine oM_gen fun Kv hK=>?_); simp [go_sem, hl']; refine hK _ _ ?_; clear hK; clear Kv)))
    exact k
  have hl : a.length = b.length := by omega
  have hl' : (a.length : Int) = b.length := by omega
  repeat (any_goals (first
  | (with_reducible ((refine idCond ?_); refine yM ?_))
  | ((with_reducible refine idO ?_); (with_reducible refine oM_gen fun Kv hK=>?_); simp [go_sem, hl']; refine hK _ _ ?_; clear hK; clear Kv)))
  refine ⟨SmJ a b w, fun vs _ => match vs with | [_, .int _ i] => a.length - i.toNat | _ => 0, ⟨Below.refl _ _, _, 0, rfl, by omega, rfl⟩, ?_⟩
  rintro _ _ w1 ⟨h1, u1, i, rfl, hi, he⟩
  by_cases hin : i = a.length
  · have e : a = b := by
      rw [List.take_of_length_le (by omega), List.take_of_length_le (by omega)] at he
      exact he
    have k := k _ h1
    rw [decide_eq_true e] at k
    repeat (any_goals (first
    | (with_reducible ((refine idCond ?_); refine yO ?_))
    | ((with_reducible refine idO ?_); (with_reducible refine oM_gen fun Kv hK=>?_); simp [go_sem, hl']; refine hK _ _ ?_; clear hK; clear Kv)))
    exact k
  obtain ⟨b1, o1, v1, rfl, hb1, ca, ia⟩ := ha.one (i := i) (by omega)
  obtain ⟨b2, o2, v2, rfl, hb2, cb, ib⟩ := hb.one (i := i) (by omega)
  have hib : (i : Int) < b.length := by omega
  repeat (any_goals (first
  | (with_reducible ((refine idCond ?_); refine yN ?_))
  | ((with_reducible refine idO ?_); (with_reducible refine oM_gen fun Kv hK=>?_); simp [go_sem, hl']; refine hK _ _ ?_; clear hK; clear Kv)))
  refine ⟨Below w.heap.size w, h1.trans .drawn, ?_⟩
  repeat (any_goals ((with_reducible refine idOQ ?_); (with_reducible refine oQ_of ⟨_, rfl⟩ (fun W0 hW0 => by (refine oM_gen (fun Kv hK => ?_)); simp [go_sem, (hW0.cell hb1).trans ca, (hW0.cell hb2).trans cb, hl']; (first | exact hK _ _ ⟨rfl, rfl⟩ | exact ⟨by omega, hK _ _ ⟨rfl, rfl⟩⟩)) ?_)))
  refine callQ_of (fun W hW => SameInts_ok (ia.next hW) (ib.next hW) (fun w' hb => ⟨rfl, hW.on hb⟩)) ?_
  by_cases hx : a[i] = b[i]
  · rw [decide_eq_true hx]
    repeat (any_goals ((with_reducible refine idOQ ?_); (with_reducible refine oQ_of ⟨_, rfl⟩ (fun W0 hW0 => by (refine oM_gen (fun Kv hK => ?_)); simp [go_sem, hl', hx]; (first | exact hK _ _ ⟨rfl, rfl⟩ | exact ⟨by omega, hK _ _ ⟨rfl, rfl⟩⟩)) ?_)))
    intro w2 h2
    repeat (any_goals (first
    | (with_reducible ((refine idCond ?_); refine yM ?_))
    | ((with_reducible refine idO ?_); (with_reducible refine oM_gen fun Kv hK=>?_); simp [go_sem, hx]; (try simp (disch := omega) only [wrapI64, wrapU8, wrapU32, wrapU64]); refine hK _ _ ?_; clear hK; clear Kv)))
    refine ⟨⟨h2, _, i + 1, rfl, by omega, ?_⟩, by show a.length - (((i + 1 : Nat) : Int)).toNat < a.length - ((i : Nat) : Int).toNat; omega⟩
    rw [List.take_succ_eq_append_getElem (by omega), List.take_succ_eq_append_getElem (by omega), he, hx]
  · rw [decide_eq_false hx]
    repeat (any_goals ((with_reducible refine idOQ ?_); (with_reducible refine oQ_of ⟨_, rfl⟩ (fun W0 hW0 => by (refine oM_gen (fun Kv hK => ?_)); simp [go_sem, hl', hx]; (first | exact hK _ _ ⟨rfl, rfl⟩ | exact ⟨by omega, hK _ _ ⟨rfl, rfl⟩⟩)) ?_)))
    intro w2 h2
    have k := k _ h2
    rw [decide_eq_false (by rintro rfl; exact hx rfl)] at k
    repeat (any_goals (with_reducible ((refine idCond ?_); refine yL ?_)))
    exact k
theorem SameNums_ok {v u : Value} {a b : List (List (List Int))} (ha : NumsR w v a) (hb : NumsR w u b) (k : ∀ w', Below w.heap.size w w' → K (.bool (decide (a = b))) w') : callM Tryz.prog 106 #[v, u] K w := by
  apply sh_106_ok
  unfold sh_106
  obtain ⟨ad1, c1, rfl⟩ := ha.isSlice
  obtain ⟨ad2, c2, rfl⟩ := hb.isSlice
  have l1 := ha.len
  have l2 := hb.len
  by_cases hl : ¬ a.length = b.length
  · have hl' : ¬ (a.length : Int) = b.length := by omega
    have k := k _ (Below.refl _ _)
    rw [decide_eq_false (by rintro rfl; exact hl rfl)] at k
    repeat (any_goals (first
    | (with_reducible ((refine idCond ?_); refine yL ?_))
    | ((with_reducible refine idO ?_); (with_reducible refine oM_gen fun Kv hK=>?_); simp [go_sem, hl']; refine hK _ _ ?_; clear hK; clear Kv)))
    exact k
  have hl : a.length = b.length := by omega
  have hl' : (a.length : Int) = b.length := by omega
  repeat (any_goals (first
  | (with_reducible ((refine idCond ?_); refine yM ?_))
  | ((with_reducible refine idO ?_); (with_reducible refine oM_gen fun Kv hK=>?_); simp [go_sem, hl']; refine hK _ _ ?_; clear hK; clear Kv)))
  refine ⟨SmJ a b w, fun vs _ => match vs with | [_, .int _ i] => a.length - i.toNat | _ => 0, ⟨Below.refl _ _, _, 0, rfl, by omega, rfl⟩, ?_⟩
  rintro _ _ w1 ⟨h1, u1, i, rfl, hi, he⟩
  by_cases hin : i = a.length
  · have e : a = b := by
      rw [List.take_of_length_le (by omega), List.take_of_length_le (by omega)] at he
      exact he
    have k := k _ h1
    rw [decide_eq_true e] at k
    repeat (any_goals (first
    | (with_reducible ((refine idCond ?_); refine yO ?_))
    | ((with_reducible refine idO ?_); (with_reducible refine oM_gen fun Kv hK=>?_); simp [go_sem, hl']; refine hK _ _ ?_; clear hK; clear Kv)))
    exact k
  obtain ⟨b1, o1, v1, rfl, hb1, ca, ia⟩ := ha.one (i := i) (by omega)
  obtain ⟨b2, o2, v2, rfl, hb2, cb, ib⟩ := hb.one (i := i) (by omega)
  have hib : (i : Int) < b.length := by omega
  repeat (any_goals (first
  | (with_reducible ((refine idCond ?_); refine yN ?_))
  | ((with_reducible refine idO ?_); (with_reducible refine oM_gen fun Kv hK=>?_); simp [go_sem, hl']; refine hK _ _ ?_; clear hK; clear Kv)))
  refine ⟨Below w.heap.size w, h1.trans .drawn, ?_⟩
  repeat (any_goals ((with_reducible refine idOQ ?_); (with_reducible refine oQ_of ⟨_, rfl⟩ (fun W0 hW0 => by (refine oM_gen (fun Kv hK => ?_)); simp [go_sem, (hW0.cell hb1).trans ca, (hW0.cell hb2).trans cb, hl']; (first | exact hK _ _ ⟨rfl, rfl⟩ | exact ⟨by omega, hK _ _ ⟨rfl, rfl⟩⟩)) ?_)))
  refine callQ_of (fun W hW => SameLists_ok (ia.next (atOf_stay ints_stay) hW) (ib.next (atOf_stay ints_stay) hW) (fun w' hb => ⟨rfl, hW.on hb⟩)) ?_
  by_cases hx : a[i] = b[i]
  · rw [decide_eq_true hx]
    repeat (any_goals ((with_reducible refine idOQ ?_); (with_reducible refine oQ_of ⟨_, rfl⟩ (fun W0 hW0 => by (refine oM_gen (fun Kv hK => ?_)); simp [go_sem, hl', hx]; (first | exact hK _ _ ⟨rfl, rfl⟩ | exact ⟨by omega, hK _ _ ⟨rfl, rfl⟩⟩)) ?_)))
    intro w2 h2
    repeat (any_goals (first
    | (with_reducible ((refine idCond ?_); refine yM ?_))
    | ((with_reducible refine idO ?_); (with_reducible refine oM_gen fun Kv hK=>?_); simp [go_sem, hx]; (try simp (disch := omega) only [wrapI64, wrapU8, wrapU32, wrapU64]); refine hK _ _ ?_; clear hK; clear Kv)))
    refine ⟨⟨h2, _, i + 1, rfl, by omega, ?_⟩, by show a.length - (((i + 1 : Nat) : Int)).toNat < a.length - ((i : Nat) : Int).toNat; omega⟩
    rw [List.take_succ_eq_append_getElem (by omega), List.take_succ_eq_append_getElem (by omega), he, hx]
  · rw [decide_eq_false hx]
    repeat (any_goals ((with_reducible refine idOQ ?_); (with_reducible refine oQ_of ⟨_, rfl⟩ (fun W0 hW0 => by (refine oM_gen (fun Kv hK => ?_)); simp [go_sem, hl', hx]; (first | exact hK _ _ ⟨rfl, rfl⟩ | exact ⟨by omega, hK _ _ ⟨rfl, rfl⟩⟩)) ?_)))
    intro w2 h2
    have k := k _ h2
    rw [decide_eq_false (by rintro rfl; exact hx rfl)] at k
    repeat (any_goals (with_reducible ((refine idCond ?_); refine yL ?_)))
    exact k
theorem SameProof_ok {dv av dv2 av2 : Value} {d d2 : List (List Int)} {a a2 : List (List (List Int))} (hd : ListsR w dv d) (ha : NumsR w av a) (hd2 : ListsR w dv2 d2) (ha2 : NumsR w av2 a2) (k : ∀ w', Below w.heap.size w w' → K (.bool (decide (d = d2) && decide (a = a2))) w') : callM Tryz.prog 20 #[prfV dv av, prfV dv2 av2] K w := by
  apply sh_20_ok
  unfold sh_20
  have hd' := hd
  have ha' := ha
  have hd2' := hd2
  have ha2' := ha2
  obtain ⟨ad1, c1, rfl⟩ := hd.isSlice
  obtain ⟨ad2, c2, rfl⟩ := ha.isSlice
  obtain ⟨ad3, c3, rfl⟩ := hd2.isSlice
  obtain ⟨ad4, c4, rfl⟩ := ha2.isSlice
  refine box_kn (cs := prfC (.slice ad1 d.length c1) (.slice ad2 a.length c2)) rfl (.start w) fun b1 W hk hb1 hbb => ?_
  refine box_kn (cs := prfC (.slice ad3 d2.length c3) (.slice ad4 a2.length c4)) rfl hk fun b2 W2 hk hb2 hbb => ?_
  clear hb1 hb2 hbb
  repeat (any_goals ((with_reducible refine idO ?_); (with_reducible refine oM_gen fun Kv hK=>?_); simp [go_sem, hk.cells]; refine hK _ _ ?_; clear hK; clear Kv))
  refine SameLists_ok (hd'.next (atOf_stay ints_stay) hk.below) (hd2'.next (atOf_stay ints_stay) hk.below) (fun w3 h3 => ?_)
  have hk := hk.next h3
  by_cases hx : d = d2
  · rw [decide_eq_true hx]
    rw [decide_eq_true hx, Bool.true_and] at k
    repeat (any_goals (first
    | (with_reducible ((refine idGd ?_); refine zA ?_))
    | ((with_reducible refine idO ?_); (with_reducible refine oM_gen fun Kv hK=>?_); simp [go_sem, hk.cells]; refine hK _ _ ?_; clear hK; clear Kv)))
    refine SameNums_ok (ha'.next (atOf_stay lists_vstay) hk.below) (ha2'.next (atOf_stay lists_vstay) hk.below) (fun w4 h4 => ?_)
    have hk := hk.next h4
    have k := k _ hk.below
    generalize decide (a = a2) = q at *
    repeat (any_goals (with_reducible ((refine idPick ?_); refine yB ?_)))
    exact k
  · rw [decide_eq_false hx]
    rw [decide_eq_false hx, Bool.false_and] at k
    repeat (any_goals (with_reducible first|((refine idGd ?_); refine zB ?_)|((refine idPick ?_); refine yC ?_)))
    exact k _ hk.below
end
end Go.Proofs
namespace Go.Proofs
open Go Go.Sh Go.RowKit FdSpec TkSpec CodeSpec PrSpec
set_option linter.unusedSimpArgs false
set_option linter.unusedVariables false
set_option maxRecDepth 10000
section
variable {K : Value → World → Prop} {w w' w0 W : World} {L : List (Addr × Value)}
theorem range_ex : PrSpec.rangeM ex (commitM ex 2 3) [12, 1] = [bitC ex 12, bitC ex 1, lastC ex (commitM ex 2 3) (weighM ex [12, 1]).1] := by decide +kernel
theorem ex_R {v : Value} (hi : Ints w v [16, 18]) (hT : DbT w) : SetR w ex v := ⟨⟨by constructor <;> decide, by constructor <;> decide, by constructor <;> decide⟩, hi, by constructor <;> decide, hT⟩
theorem mk2g {T : TypeId} (x y : Int) (hx : I64 x) (hy : I64 y) (k : ∀ v W, Below w.heap.size w W → Ints W v [x, y] → Value.inBlock v = some w.heap.size → K v W) : oM Tryz.prog (.buildSlice 24 2 #[(0, .tmp 0), (1, .tmp 1)]) T [.int .i64 x, .int .i64 y] K w := by
  rw [oM_buildSlice2]
  have e : (Instr.buildSlice 24 2 #[(0, .int .i64 x), (1, .int .i64 y)]).run Tryz.prog w = .ok (.slice (some ⟨w.heap.size, 0, none⟩) 2 2) (w.alloc (.cells #[.int .i64 x, .int .i64 y] 3)) := by kernel_rfl
  rw [e]
  exact k _ _ ((Below.refl _ w).alloc (Nat.le_refl _) _) (ints_alloc w [x, y] _ 2 (by simp; exact ⟨hx, hy⟩) (by simp)) rfl
theorem example_ok (hT : DbT w) (k : ∀ w' v, Below w.heap.size w w' → SetR w' ex v → K (stpV ex v) w') : callM Tryz.prog 86 #[] K w := by
  apply sh_86_ok
  unfold sh_86
  refine alloc_mine (n := 5) al_stp rfl (.start w) fun g0 W3 hk hb3 hg0 => ?_
  repeat (any_goals (first
  | ((with_reducible refine mk2g 16 18 i64lit i64lit ?_); intro v9 W9 hb9 hi9 hv9)
  | ((with_reducible refine idO ?_); (with_reducible refine oM_gen fun Kv hK=>?_); simp [go_sem]; refine hK _ _ ?_; clear hK; clear Kv)))
  have hlt := mine_lt hk.mine
  have hk := hk.next hb9
  obtain ⟨ad, c, rfl⟩ := hi9.isSlice
  repeat (any_goals ((with_reducible refine idO ?_); (with_reducible refine oM_gen fun Kv hK=>?_); simp [go_sem]; refine hK _ _ ?_; clear hK; clear Kv))
  refine store_stp ex ad 2 c hk (fun W3 hk hc hg3 => ⟨_, by simp [go_sem, hc], k W3 _ hk.below (ex_R (ints_grown hi9 hg3 (fun i e1 e2 => ?_)) (hT.next hk.below))⟩)
  rw [hv9] at e1
  cases e1
  have := Option.some.inj e2
  omega
theorem sz_cls (w : World) : (sizeOf 65).run Tryz.prog w = .ok 2 w := by kernel_rfl
theorem al_cls (w : World) : (Instr.alloc 65 true (.tuple #[])).run Tryz.prog w = .ok (.pointer (some ⟨w.heap.size, 0, none⟩)) (w.alloc (.cells [.int .i64 0, .slice none 0 0].toArray 65)) := by kernel_rfl
theorem local_cls {T' T2 : TypeId} (a : Int) (ad : Option Addr) (n c : Nat) (hk : Kn w0 L w)
    (k : ∀ b W, Kn w0 (cellsOf L b 0 [.int .i64 a, .slice ad n c]) W → Below w.heap.size w W → w.heap.size ≤ b → K (.pointer (some ⟨b, 0, none⟩)) W) :
    oM Tryz.prog (.alloc 65) T' [] (fun v w => oM Tryz.prog (.store 65 (.tmp 0) (.tmp 1)) T2 [v, .agg #[.int .i64 a, .slice ad n c]] (fun _ w => K v w) w) w :=
  local_kn al_cls rfl sz_cls rfl rfl (clm_one a ad n c) hk k
theorem local_sig {T' T2 : TypeId} (c z : Int) (hk : Kn w0 L w)
    (k : ∀ b W, Kn w0 (cellsOf L b 0 (sigC c z)) W → Below w.heap.size w W → w.heap.size ≤ b → K (.pointer (some ⟨b, 0, none⟩)) W) :
    oM Tryz.prog (.alloc 74) T' [] (fun v w => oM Tryz.prog (.store 74 (.tmp 0) (.tmp 1)) T2 [v, sigV c z] (fun _ w => K v w) w) w :=
  local_kn al_sig rfl sz_sig rfl rfl (sig_one c z) hk k
theorem local_prf {T' T2 : TypeId} (ad ad2 : Option Addr) (n c n2 c2 : Nat) (hk : Kn w0 L w)
    (k : ∀ b W, Kn w0 (cellsOf L b 0 (prfC (.slice ad n c) (.slice ad2 n2 c2))) W → Below w.heap.size w W → w.heap.size ≤ b → K (.pointer (some ⟨b, 0, none⟩)) W) :
    oM Tryz.prog (.alloc 34) T' [] (fun v w => oM Tryz.prog (.store 34 (.tmp 0) (.tmp 1)) T2 [v, prfV (.slice ad n c) (.slice ad2 n2 c2)] (fun _ w => K v w) w) w :=
  local_kn al_prf rfl sz_prf rfl rfl (prf_one ad ad2 n c n2 c2) hk k
@[go_sem] theorem idx_cls (T : TypeId) (b o n c : Nat) (x : Int) : oM Tryz.prog (.indexAddr 27 (.tmp 0) (.tmp 1)) T [.slice (some ⟨b, o, none⟩) n c, .int .i64 x] = onM (0 ≤ x ∧ x < n) (.pointer (some ⟨b, o + x.toNat * 2, none⟩)) :=
  idx_row (K := fun _ _ => True) _ T (by kernel_rfl) (fun w => by kernel_rfl) b o n c x
@[go_sem] theorem idx_clm (T : TypeId) (b o n c : Nat) (x : Int) : oM Tryz.prog (.indexAddr 63 (.tmp 0) (.tmp 1)) T [.slice (some ⟨b, o, none⟩) n c, .int .i64 x] = onM (0 ≤ x ∧ x < n) (.pointer (some ⟨b, o + x.toNat * 2, none⟩)) :=
  idx_row (K := fun _ _ => True) _ T (by kernel_rfl) (fun w => by kernel_rfl) b o n c x
@[go_sem] theorem idx_knw' (T : TypeId) (b o n c : Nat) (x : Int) : oM Tryz.prog (.indexAddr 114 (.tmp 0) (.tmp 1)) T [.slice (some ⟨b, o, none⟩) n c, .int .i64 x] = onM (0 ≤ x ∧ x < n) (.pointer (some ⟨b, o + x.toNat * 2, none⟩)) := idx_knw T b o n c x
@[go_sem] theorem idx_knws (T : TypeId) (b o n c : Nat) (x : Int) : oM Tryz.prog (.indexAddr 28 (.tmp 0) (.tmp 1)) T [.slice (some ⟨b, o, none⟩) n c, .int .i64 x] = onM (0 ≤ x ∧ x < n) (.pointer (some ⟨b, o + x.toNat, none⟩)) := by
  have := idx_row (K := fun _ _ => True) (P := Tryz.prog) (n := 1) 28 T (by kernel_rfl) (fun w => by kernel_rfl) b o n c x
  rwa [Nat.mul_one] at this
theorem less_ok (hT : DbT w) (hl : Cd.LaidE w) (k : ∀ w', Below w.heap.size w w' → K (.bool true) w') : callM Tryz.prog 38 #[] K w := by
  apply sh_38_ok
  unfold sh_38
  obtain ⟨f1, f2, f3, f4, f5, f6, f7, f8, f9⟩ := less_facts
  refine example_ok hT (fun w1 v1 h1 hs => ?_)
  have hs' := hs
  obtain ⟨ad, c, rfl⟩ := hs.ints.isSlice
  refine local_stp ex ad 2 c (.next (.start w) h1) (fun b1 W1 hk hb1 hg1 => ?_)
  have hs1 := hs'.next hb1
  repeat (any_goals (first
  | ((with_reducible refine mk2 4 4 i64lit i64lit ?_); intro v9 W9 hb9 hi9)
  | ((with_reducible refine idO ?_); (with_reducible refine oM_gen fun Kv hK=>?_); simp [go_sem, hk.cells]; refine hK _ _ ?_; clear hK; clear Kv)))
  have hk := hk.next hb9
  have hs1 := hs1.next hb9
  refine Weigh_ok ex [4, 4] hs1 hi9 (fun w2 h2 => ?_)
  rw [f1]
  have hk := hk.next h2
  have hs1 := hs1.next h2
  repeat (any_goals (first
  | ((with_reducible refine mk2 1 2 i64lit i64lit ?_); intro v9 W9 hb9 hi9)
  | ((with_reducible refine idO ?_); (with_reducible refine oM_gen fun Kv hK=>?_); simp [go_sem, hk.cells]; refine hK _ _ ?_; clear hK; clear Kv)))
  have hk := hk.next hb9
  have hs1 := hs1.next hb9
  refine Split_ok ex 2 [1, 2] hs1 i64lit hi9 (fun w3 bv kv D h3 hbits hknow hD hap => ?_)
  rw [f2] at hbits hknow ⊢
  have hknow := hknow.srow (by decide) (by decide)
  have hk := hk.next h3
  have hs1 := hs1.next h3
  repeat (any_goals ((with_reducible refine idO ?_); (with_reducible refine oM_gen fun Kv hK=>?_); simp [go_sem, hk.cells]; refine hK _ _ ?_; clear hK; clear Kv))
  have hk := hk.drew
  have hodr : Below w3.heap.size w3 { w3 with drawn := w3.drawn + 1 } := .drawn
  have hs1 := hs1.next hodr
  have hbits := hbits.next hodr
  have hknow := hknow.next (atOf_stay knws_vstay) hodr
  refine ⟨Nx { w3 with drawn := w3.drawn + 1 }, Below.refl _ _, rfl, ?_⟩
  generalize ({ w3 with drawn := w3.drawn + 1 } : World) = W at hk hs1 hbits hknow ⊢
  repeat (any_goals (first
  | (with_reducible refine pureH_in ?_)
  | ((with_reducible refine idOH ?_); (with_reducible refine oH_of ⟨_, rfl⟩ (fun W0 hW0 => by (refine oM_gen (fun Kv hK => ?_)); simp [go_sem, (hk.next hW0).cells]; (first | exact hK _ _ ⟨rfl, rfl⟩ | exact ⟨by omega, hK _ _ ⟨rfl, rfl⟩⟩)) ?_))))
  refine ⟨Nx, ?_⟩
  apply monoE
  · intro w1 h1
    exact Commit_ok ex 2 3 (hs1.next h1) i64lit i64lit (fun w2 h2 => ⟨h1.on h2, h2, rfl⟩)
  rintro w9 h9 _ rfl
  have hk := hk.next h9
  have hs1 := hs1.next h9
  have hbits := hbits.next h9
  have hknow := hknow.next (atOf_stay knws_vstay) h9
  refine Range_ok ex (commitM ex 2 3) [12, 1] hs1 (commitM_I64 _ _ _) hbits (fun w4 gv h4 hgoal => ?_)
  have hk := hk.next h4
  have hs1 := hs1.next h4
  have hbits := hbits.next h4
  have hknow := hknow.next (atOf_stay knws_vstay) h4
  rw [range_ex] at hgoal
  obtain ⟨gad, gc, rfl⟩ := id hgoal.isSlice
  obtain ⟨bad, bc, rfl⟩ := id hbits.isSlice
  obtain ⟨kad, kc, rfl⟩ := id hknow.isSlice
  have hbits : Ints w4 (.slice bad 2 bc) [12, 1] := hbits
  have hknow : KnowR w4 (.slice kad 2 kc) [[⟨true, [1]⟩, ⟨false, []⟩], [⟨false, []⟩, ⟨true, [2]⟩]] := hknow
  have hgoal : GoalR w4 (.slice gad 3 gc) [bitC ex 12, bitC ex 1, lastC ex (commitM ex 2 3) (weighM ex [12, 1]).1] := hgoal
  simp only [List.length_cons, List.length_nil]
  repeat (any_goals (first
  | ((with_reducible refine mk2 12 1 i64lit i64lit ?_); intro v9 W9 hb9 hi9)
  | (with_reducible first|refine pureM_in ?_|((refine idGd ?_); refine zC ?_)|((refine idPick ?_); refine yC ?_))
  | ((with_reducible refine idO ?_); (with_reducible refine oM_gen fun Kv hK=>?_); simp [go_sem, hk.cells]; refine hK _ _ ?_; clear hK; clear Kv)))
  have hk := hk.next hb9
  refine SameInts_ok (hbits.next hb9) hi9 (fun w5 h5 => ?_)
  have hk := hk.next h5
  rw [decide_eq_true rfl]
  have hb45 := hb9.on h5
  repeat (any_goals (first
  | ((with_reducible refine mk2 1 2 i64lit i64lit ?_); intro v9 W9 hb9 hi9)
  | (with_reducible first|((refine idGd ?_); refine zC ?_)|((refine idPick ?_); refine yC ?_))
  | ((with_reducible refine idO ?_); (with_reducible refine oM_gen fun Kv hK=>?_); simp [go_sem, hk.cells]; refine hK _ _ ?_; clear hK; clear Kv)))
  have hk := hk.next hb9
  have hb4W := hb45.on hb9
  refine Rest_ok ex 3 [1, 2] (hs1.next hb4W) hi9 (fun w6 h6 => ?_)
  rw [f3]
  have hk := hk.next h6
  have hb46 := hb4W.on h6
  obtain ⟨bg, og, rfl, hbg, cc, hcl, hcell, gv, rfl, hI, hclm⟩ := (hgoal.next (atOf_stay cls_vstay) hb46).at (i := 2) (by decide)
  have g0 := hcell 0 _ rfl
  have g1 := hcell 1 _ rfl
  obtain ⟨gvad, gvc, rfl⟩ := id hclm.isSlice
  obtain ⟨bk, ok', kv0, rfl, hbk, ck0, hk0⟩ := (hknow.next (atOf_stay knws_vstay) hb46).one (i := 0) (by decide)
  obtain ⟨kvad, kvc, rfl⟩ := id hk0.isSlice
  have hclm : SRow 2 (AtOf 2 VClm) w6 (.slice gvad 1 gvc) [blindedM ex (overG ex.g (commitM ex 2 3) (weighM ex [12, 1]).1)] := hclm
  have hk0 : KnwsR w6 (.slice kvad 2 kvc) [⟨true, [1]⟩, ⟨false, []⟩] := hk0
  have g1 : w6.cell? ⟨bg, og + 2 * 2 + 1, none⟩ = some (.slice gvad 1 gvc) := g1
  have g0 : w6.cell? ⟨bg, og + 2 * 2 + 0, none⟩ = some (.int .i64 1) := g0
  have ck0 : w6.cell? ⟨bk, ok' + 0, none⟩ = some (.slice kvad 2 kvc) := ck0
  have g0r := g0
  have g1r := g1
  simp only [Nat.reduceMul, Nat.reduceAdd, Nat.add_zero, Nat.add_assoc] at g0 g1 ck0
  obtain ⟨bw, ow, rfl, hbw, kc0, hkc0, hkcell0, kvv0, rfl, _⟩ := hk0.at (i := 0) (by decide)
  obtain ⟨bw', ow', e', _, kc1, hkc1, hkcell1, kvv1, rfl, _⟩ := hk0.at (i := 1) (by decide)
  cases e'
  have q0 := hkcell0 0 _ rfl
  have q1 := hkcell1 0 _ rfl
  have q0 : w6.cell? ⟨bw, ow + 0 * 2 + 0, none⟩ = some (.bool true) := q0
  have q1 : w6.cell? ⟨bw, ow + 1 * 2 + 0, none⟩ = some (.bool false) := q1
  simp only [Nat.reduceMul, Nat.reduceAdd, Nat.add_zero, Nat.add_assoc] at q0 q1
  have hcall : cellsAre w6 [(⟨bg, og + 4 + 1, none⟩, .slice gvad 1 gvc), (⟨bg, og + 5, none⟩, .slice gvad 1 gvc), (⟨bg, og + 4, none⟩, .int .i64 1), (⟨bk, ok', none⟩, .slice (some ⟨bw, ow, none⟩) 2 kvc), (⟨bw, ow, none⟩, .bool true), (⟨bw, ow + 2, none⟩, .bool false)] := ⟨g1, g1, g0, ck0, q0, q1, trivial⟩
  obtain ⟨bcl, ocl, rfl, hbcl, kcl, _, hclcell, clv, rfl, hClm⟩ := hclm.at (i := 0) (by decide)
  obtain ⟨ead, ec, rfl⟩ := id hClm.eqs.isSlice
  have p0 : w6.cell? ⟨bcl, ocl + 0 * 2 + 0, none⟩ = some (.int .i64 1) := hclcell 0 _ rfl
  have p1 : w6.cell? ⟨bcl, ocl + 0 * 2 + 1, none⟩ = some (.slice ead 1 ec) := hclcell 1 _ rfl
  obtain ⟨c0, hc0, hc1, hClm⟩ : ∃ c0 : Clm, c0.vars = 1 ∧ HoldsM ex c0 [9] = true ∧ ClmR w6 c0 (.slice ead 1 ec) := ⟨_, rfl, f5, hClm⟩
  simp only [Nat.reduceMul, Nat.reduceAdd, Nat.add_zero, Nat.add_assoc] at p0 p1
  have hk : Kn w ((⟨bcl, ocl, none⟩, .int .i64 1) :: (⟨bcl, ocl + 1, none⟩, .slice ead 1 ec) :: (⟨bk, ok', none⟩, .slice (some ⟨bw, ow, none⟩) 2 kvc) :: (⟨bw, ow, none⟩, .bool true) :: (⟨bw, ow + 2, none⟩, .bool false) :: (cellsOf [] b1 0 (stpC ex (.slice ad 2 c)))) w6 := ⟨hk.below, p0, p1, ck0, q0, q1, hk.cells⟩
  iterate 13 (any_goals (first
  | (with_reducible first|refine pureM_in ?_|((refine idGd ?_); refine zC ?_)|((refine idPick ?_); refine yC ?_)|((refine idCond ?_); refine yM ?_))
  | ((with_reducible refine idO ?_); (with_reducible refine oM_gen fun Kv hK=>?_); simp [go_sem, hk.cells, g0r, g1r]; refine hK _ _ ?_; clear hK; clear Kv)))
  refine local_cls 1 (some ⟨bcl, ocl, none⟩) 1 gvc hk (fun b7 W7 hk hb7 hg7 => ?_)
  repeat (any_goals (first
  | (with_reducible first|refine pureM_in ?_|((refine idGd ?_); refine zC ?_)|((refine idPick ?_); refine yC ?_)|((refine idCond ?_); refine yM ?_))
  | ((with_reducible refine idO ?_); (with_reducible refine oM_gen fun Kv hK=>?_); simp [go_sem, hk.cells]; refine hK _ _ ?_; clear hK; clear Kv)))
  have hb5W := hb46.on hb7
  have hs7 := hs1.next hb5W
  have hsg : (signM ex 3 5 [104, 101, 108, 108, 111]).2 = true := by unfold signM; rw [if_pos (by rw [f6, f7, f8]; rfl)]
  have hsd := (sign_signed hsg).1
  rw [f9] at hsd
  have hlE : Cd.LaidE W7 := hl.below hk.below hl.size
  refine Sign_ok ex 3 5 [104, 101, 108, 108, 111] hs7 hlE.toLaid i64lit i64lit (by decide) (fun w8 h8 => ?_)
  rw [hsg]
  generalize (signM ex 3 5 [104, 101, 108, 108, 111]).1.1 = sc at *
  generalize (signM ex 3 5 [104, 101, 108, 108, 111]).1.2 = sz at *
  have hk := hk.next h8
  iterate 2 (any_goals ((with_reducible refine idO ?_); (with_reducible refine oM_gen fun Kv hK=>?_); simp [go_sem]; refine hK _ _ ?_; clear hK; clear Kv))
  refine local_sig sc sz hk (fun b9 W9 hk hb9 hg9 => ?_)
  refine mk1g 4 i64lit (fun v10 w10 h10 hi10 hv10 => ?_)
  obtain ⟨ad10, c10, rfl⟩ := hi10.isSlice
  refine lit_ints _ _ _ (fun g11 w11 h11 hg11 hh11 => ?_)
  refine mk2g 5 6 i64lit i64lit (fun v12 w12 h12 hi12 hv12 => ?_)
  obtain ⟨ad12, c12, rfl⟩ := hi12.isSlice
  refine lit_ints _ _ _ (fun g13 w13 h13 hg13 hh13 => ?_)
  refine lit_lists _ _ _ (fun g14 w14 h14 hg14 hh14 => ?_)
  have hd14 : ListsR w14 (.slice (some ⟨g11, 0, none⟩) 1 1) [[4]] := srow_lit1 (((hh11.next h12).next h13).next h14) rfl ⟨_, rfl, (((hi10.next h11).next h12).next h13).next h14⟩
  have ha14 : NumsR w14 (.slice (some ⟨g14, 0, none⟩) 1 1) [[[5, 6]]] := srow_lit1 hh14 rfl ⟨_, rfl, srow_lit1 (hh13.next h14) rfl ⟨_, rfl, (hi12.next h13).next h14⟩⟩
  have hk := ((((hk.next h10).next h11).next h12).next h13).next h14
  iterate 1 (any_goals ((with_reducible refine idO ?_); (with_reducible refine oM_gen fun Kv hK=>?_); simp [go_sem]; refine hK _ _ ?_; clear hK; clear Kv))
  refine local_prf _ _ 1 1 1 1 hk (fun b15 W15 hk hb15 hg15 => ?_)
  have hd15 := hd14.next (atOf_stay ints_stay) hb15
  have ha15 := ha14.next (atOf_stay lists_vstay) hb15
  repeat (any_goals ((with_reducible refine idO ?_); (with_reducible refine oM_gen fun Kv hK=>?_); simp [go_sem, hk.cells]; refine hK _ _ ?_; clear hK; clear Kv))
  have hlE : Cd.LaidE W15 := hl.below hk.below hl.size
  refine Encode_ok [[4]] [[[5, 6]]] hd15 ha15 hlE.toLaid ⟨by decide, by decide, by decide⟩ (fun w16 h16 => ?_)
  rw [show (encodeM [[4]] [[[5, 6]]]).2 = true from by decide +kernel]
  have hk := hk.next h16
  repeat (any_goals ((with_reducible refine idO ?_); (with_reducible refine oM_gen fun Kv hK=>?_); simp [go_sem]; refine hK _ _ ?_; clear hK; clear Kv))
  have hlE : Cd.LaidE w16 := hl.below hk.below hl.size
  have hde : decodeM (encodeM [[4]] [[[5, 6]]]).1 = (([[4]], [[[5, 6]]]), true) := decode_encode (by decide) (by simp [clauseL, itemL, InR]) (by decide)
  refine Decode_ok _ (by decide +kernel) hlE (fun w17 dv av h17 hdv hav => ?_)
  rw [hde] at hdv hav ⊢
  have hdv : ListsR w17 dv [[4]] := hdv
  have hav : NumsR w17 av [[[5, 6]]] := hav
  obtain ⟨dad, dc, rfl⟩ := hdv.isSlice
  obtain ⟨aad, ac, rfl⟩ := hav.isSlice
  have hk := hk.next h17
  iterate 2 (any_goals ((with_reducible refine idO ?_); (with_reducible refine oM_gen fun Kv hK=>?_); simp [go_sem]; refine hK _ _ ?_; clear hK; clear Kv))
  refine local_prf _ _ _ _ _ _ hk (fun b18 W18 hk hb18 hg18 => ?_)
  have hk := hk.drew
  have hodr : Below W18.heap.size W18 { W18 with drawn := W18.drawn + 1 } := .drawn
  have hd18 := ((((hd15.next (atOf_stay ints_stay) h16).next (atOf_stay ints_stay) h17).next (atOf_stay ints_stay) hb18)).next (atOf_stay ints_stay) hodr
  have ha18 := ((((ha15.next (atOf_stay lists_vstay) h16).next (atOf_stay lists_vstay) h17).next (atOf_stay lists_vstay) hb18)).next (atOf_stay lists_vstay) hodr
  have hdv := (hdv.next (atOf_stay ints_stay) hb18).next (atOf_stay ints_stay) hodr
  have hav := (hav.next (atOf_stay lists_vstay) hb18).next (atOf_stay lists_vstay) hodr
  have h7d : Below W7.heap.size W7 { W18 with drawn := W18.drawn + 1 } := ((((((((((((h8.on hb9).on h10).on h11).on h12).on h13).on h14).on hb15).on h16).on h17).on hb18)).on hodr)
  have hs18 := hs7.next h7d
  have hClm18 := (hClm.next hb7).next h7d
  have hl18 := hlE.toLaid.below ((h17.on hb18).on hodr) hlE.toLaid.size
  refine ⟨Nx { W18 with drawn := W18.drawn + 1 }, Below.refl _ _, trivial, ?_⟩
  generalize ({ W18 with drawn := W18.drawn + 1 } : World) = W at hk hs18 hClm18 hd18 ha18 hdv hav hl18 ⊢
  have hH : ∀ w1, Nx W w1 → ∀ lv, Ints w1 lv [9] → ∀ K' : Value → World → Prop, (∀ w2, Below w1.heap.size w1 w2 → K' (.bool true) w2) → callM Tryz.prog 41 #[stpV ex (.slice ad 2 c), .agg #[.int .i64 1, .slice ead 1 ec], lv] K' w1 := by
    intro w1 h1 lv hi1 K' hk'
    have := Holds_ok (K := K') ex c0 [9] (hs18.next h1) (hClm18.next h1) hi1 (fun w2 h2 => by rw [hc1]; exact hk' w2 h2)
    unfold clmV at this
    rw [hc0] at this
    exact this
  repeat (any_goals ((with_reducible refine idOH ?_); (with_reducible refine oH_of ⟨_, rfl⟩ (fun W0 hW0 => by (refine oM_gen (fun Kv hK => ?_)); simp [go_sem, (hk.next hW0).cells]; (first | exact hK _ _ ⟨rfl, rfl⟩ | exact ⟨by omega, hK _ _ ⟨rfl, rfl⟩⟩)) ?_)))
  refine ⟨Nx, ?_⟩
  refine monoR (fun v w' => Ints w' v [9]) (fun v w w1 hS h => h.next hS) ?_ ?_
  · intro w1 h1
    exact mk1 9 i64lit (fun v w2 h2 hi => ⟨h1.on h2, h2, hi⟩)
  apply monoE
  · rintro w1 h1 v1 hi1
    exact hH w1 h1 v1 hi1 _ (fun w2 h2 => ⟨h1.on h2, h2, rfl⟩)
  repeat (apply monoE; focus (intro w9 h9; (repeat (intro v9 e9; try (obtain rfl := e9))); (repeat (any_goals (first
    | (with_reducible first|refine pureM_in ?_|((refine idGd ?_); refine zA ?_)|((refine idPick ?_); refine yB ?_))
    | ((with_reducible refine idO ?_); (with_reducible refine oM_gen fun Kv hK=>?_); simp [go_sem, (hk.next h9).cells]; refine hK _ _ ?_; clear hK; clear Kv)))); exact ⟨h9, Below.refl _ _, rfl⟩))
  apply monoE
  · (intro w9 h9; repeat (intro v9 e9; try (obtain rfl := e9)))
    repeat (any_goals (with_reducible ((refine idGd ?_); refine zA ?_)))
    refine Signed_ok ex 18 [104, 101, 108, 108, 111] sc sz (hs18.next h9) (hl18.below h9 hl18.size) i64lit (by decide) (fun w2 h2 => ?_)
    rw [hsd]
    exact ⟨h9.on h2, h2, rfl⟩
  repeat (apply monoE; focus (intro w9 h9; (repeat (intro v9 e9; try (obtain rfl := e9))); (repeat (any_goals (first
    | (with_reducible first|refine pureM_in ?_|((refine idGd ?_); refine zA ?_)|((refine idPick ?_); refine yB ?_))
    | ((with_reducible refine idO ?_); (with_reducible refine oM_gen fun Kv hK=>?_); simp [go_sem, (hk.next h9).cells]; refine hK _ _ ?_; clear hK; clear Kv)))); exact ⟨h9, Below.refl _ _, rfl⟩))
  (intro w9 h9; repeat (intro v9 e9; try (obtain rfl := e9)))
  repeat (any_goals (with_reducible ((refine idGd ?_); refine zA ?_)))
  refine SameProof_ok (hd18.next (atOf_stay ints_stay) h9) (ha18.next (atOf_stay lists_vstay) h9) (hdv.next (atOf_stay ints_stay) h9) (hav.next (atOf_stay lists_vstay) h9) (fun w2 h2 => ?_)
  rw [decide_eq_true rfl, decide_eq_true rfl]
  repeat (any_goals (with_reducible ((refine idPick ?_); refine yB ?_)))
  exact k _ (hk.next (h9.on h2)).below
end
end Go.Proofs
set_option linter.unusedVariables false
set_option maxRecDepth 100000
namespace Go.Proofs
open Go Go.Sh
end Go.Proofs
namespace Go.Proofs
open Go Go.Sh Go.RowKit FdSpec TkSpec CodeSpec PrSpec
set_option linter.unusedSimpArgs false
set_option linter.unusedVariables false
set_option maxRecDepth 10000
section
variable {K : Value → World → Prop} {w w' w0 W : World} {L : List (Addr × Value)}
theorem FewSetup_ok (s : Stp) {v : Value} (hs : SetR w s v) (k : ∀ w', Below w.heap.size w w' → K (.bool (decide ((s.bases.length : Int) ≤ 9))) w') : callM Tryz.prog 39 #[stpV s v] K w := by
  apply sh_39_ok
  unfold sh_39
  obtain ⟨ad, c, rfl⟩ := hs.ints.isSlice
  refine box_kn (cs := stpC s (.slice ad s.bases.length c)) rfl (.start w) fun b1 W hk hb1 hbb => ?_
  have k := k _ hk.below
  generalize hq : decide ((s.bases.length : Int) ≤ 9) = q at *
  repeat (any_goals ((with_reducible refine idO ?_); (with_reducible refine oM_gen fun Kv hK=>?_); simp [go_sem, hk.cells]; refine hK _ _ ?_; clear hK; clear Kv))
  rw [hq]
  exact k
end
end Go.Proofs
set_option linter.unusedVariables false
set_option maxRecDepth 100000
namespace Go.Proofs
open Go Go.Sh
def sh_8 (a0 : Value) (a1 : Value) (a2 : Value) (a3 : Value) (a4 : Value) (K : Value → World → Prop) (w : World) : Prop :=
 oM Tryz.prog (.box 26 (.tmp 0)) 0 [a0] (fun v5_1 w =>
 callM Tryz.prog 38 #[] (fun v19_2 w =>
 oM Tryz.prog (.call (Go.Call.mk (.builtin .len) #[(.tmp 0)] #[24])) 3 [a2] (fun v21_3 w =>
 oM Tryz.prog (.load 26 (.tmp 0)) 26 [v5_1] (fun v22_4 w =>
 callM Tryz.prog 39 #[v22_4] (fun v23_5 w =>
 oM Tryz.prog (.unOp .not 4 (.tmp 0)) 4 [v23_5] (fun v24_6 w =>
 gdM (gd v24_6 false) (pureM v21_3) (fun v26_7 w =>
 gdM (gd v24_6 false) (oM Tryz.prog (.binOp .gtr 3 (.tmp 0) (.tmp 1) 3) 4 [v26_7, (.int .i64 12)]) (fun v27_8 w =>
 oM Tryz.prog (.pick (.tmp 0) (.tmp 1) (.tmp 2)) 4 [v24_6, (.bool true), v27_8] (fun v28_9 w =>
 gdM (gd v28_9 false) (pureM a3) (fun v30_10 w =>
 gdM (gd v28_9 false) (oM Tryz.prog (.call (Go.Call.mk (.builtin .len) #[(.tmp 0)] #[61])) 3 [v30_10]) (fun v31_11 w =>
 gdM (gd v28_9 false) (pureM v21_3) (fun v32_12 w =>
 gdM (gd v28_9 false) (oM Tryz.prog (.binOp .lss 3 (.tmp 0) (.tmp 1) 3) 4 [v31_11, v32_12]) (fun v33_13 w =>
 oM Tryz.prog (.pick (.tmp 0) (.tmp 1) (.tmp 2)) 4 [v28_9, (.bool true), v33_13] (fun v34_14 w =>
 gdM (gd v34_14 false) (pureM a4) (fun v36_15 w =>
 gdM (gd v34_14 false) (oM Tryz.prog (.call (Go.Call.mk (.builtin .len) #[(.tmp 0)] #[24])) 3 [v36_15]) (fun v37_16 w =>
 gdM (gd v34_14 false) (pureM v21_3) (fun v38_17 w =>
 gdM (gd v34_14 false) (oM Tryz.prog (.binOp .leq 3 (.tmp 0) (.tmp 1) 3) 4 [v37_16, v38_17]) (fun v39_18 w =>
 oM Tryz.prog (.pick (.tmp 0) (.tmp 1) (.tmp 2)) 4 [v34_14, (.bool true), v39_18] (fun v40_19 w =>
 condM v40_19
 (K v19_2 w)
 (oM Tryz.prog (.load 26 (.tmp 0)) 26 [v5_1] (fun v42_20 w =>
 callM Tryz.prog 40 #[v42_20, a1, a2] (fun v45_21 w =>
 oM Tryz.prog (.call (Go.Call.mk (.builtin .len) #[(.tmp 0)] #[27])) 3 [v45_21] (fun v47_22 w =>
 oM Tryz.prog (.binOp .add 3 (.tmp 0) (.tmp 1) 3) 3 [v21_3, (.int .i64 1)] (fun v49_23 w =>
 oM Tryz.prog (.binOp .neq 3 (.tmp 0) (.tmp 1) 3) 4 [v47_22, v49_23] (fun v50_24 w =>
 condM v50_24
 (gdM (gd v19_2 true) (pureM v45_21) (fun v53_25 w =>
 gdM (gd v19_2 true) (oM Tryz.prog (.call (Go.Call.mk (.builtin .len) #[(.tmp 0)] #[27])) 3 [v53_25]) (fun v54_26 w =>
 gdM (gd v19_2 true) (oM Tryz.prog (.binOp .eql 3 (.tmp 0) (.const (.int .i64 0)) 3) 4 [v54_26]) (fun v55_27 w =>
 oM Tryz.prog (.pick (.tmp 0) (.tmp 1) (.tmp 2)) 4 [v19_2, v55_27, (.bool false)] (fun v56_28 w =>
 K v56_28 w) w) w) w) w)
 (oM Tryz.prog (.fieldAddr 26 (.tmp 0) 0) 0 [v5_1] (fun v57_29 w =>
 oM Tryz.prog (.fieldAddr 23 (.tmp 0) 1) 0 [v57_29] (fun v58_30 w =>
 oM Tryz.prog (.load 3 (.tmp 0)) 3 [v58_30] (fun v59_31 w =>
 loopM [undef, (.bool false), (.int .i64 0), (.int .i64 0), (.int .i64 0)] w (fun J_32 m_33 l_34 u_l_34 w0_l_34 => (fun w => (
 oM Tryz.prog (.binOp .lss 3 (.tmp 0) (.tmp 1) 3) 4 [(l_34.getD 4 undef), v21_3] (fun v62_35 w =>
 condM v62_35
 (joinM (fun M_36 => (oM Tryz.prog (.indexAddr 61 (.tmp 0) (.tmp 1)) 0 [a3, (l_34.getD 4 undef)] (fun v67_38 w =>
 oM Tryz.prog (.load 4 (.tmp 0)) 4 [v67_38] (fun v68_39 w =>
 condM v68_39
 (M_36 [(.int .i64 1)] w)
 (M_36 [(.int .i64 0)] w)) w) w))
 (fun l_37 u_l_37 w => (oM Tryz.prog (.indexAddr 27 (.tmp 0) (.tmp 1)) 0 [v45_21, (l_34.getD 4 undef)] (fun v71_40 w =>
 oM Tryz.prog (.fieldAddr 65 (.tmp 0) 1) 0 [v71_40] (fun v72_41 w =>
 oM Tryz.prog (.load 63 (.tmp 0)) 63 [v72_41] (fun v73_42 w =>
 oM Tryz.prog (.call (Go.Call.mk (.builtin .len) #[(.tmp 0)] #[63])) 3 [v73_42] (fun v74_43 w =>
 oM Tryz.prog (.binOp .neq 3 (.tmp 0) (.const (.int .i64 2)) 3) 4 [v74_43] (fun v75_44 w =>
 condM v75_44
 (K (.bool false) w)
 (heldM w (fun C_45 w => (((true : Bool) = true) ∧ (oH Tryz.prog (.load 26 (.tmp 0)) 26 [v5_1] C_45 (fun v76_46 =>
 pureH v45_21 C_45 (fun v77_47 =>
 pureH (l_34.getD 4 undef) C_45 (fun v78_48 =>
 oH Tryz.prog (.indexAddr 27 (.tmp 0) (.tmp 1)) 0 [v77_47, v78_48] C_45 (fun v79_49 =>
 oH Tryz.prog (.fieldAddr 65 (.tmp 0) 1) 0 [v79_49] C_45 (fun v80_50 =>
 oH Tryz.prog (.load 63 (.tmp 0)) 63 [v80_50] C_45 (fun v81_51 =>
 pureH (l_37.getD 0 undef) C_45 (fun v82_52 =>
 oH Tryz.prog (.indexAddr 63 (.tmp 0) (.tmp 1)) 0 [v81_51, v82_52] C_45 (fun v83_53 =>
 oH Tryz.prog (.load 69 (.tmp 0)) 69 [v83_53] C_45 (fun v84_54 =>
 pureH a4 C_45 (fun v85_55 =>
 pureH (l_34.getD 4 undef) C_45 (fun v86_56 =>
 pureH (l_34.getD 4 undef) C_45 (fun v87_57 =>
 oH Tryz.prog (.binOp .add 3 (.tmp 0) (.tmp 1) 3) 3 [v87_57, (.int .i64 1)] C_45 (fun v88_58 =>
 oH Tryz.prog (.slice 24 (.tmp 0) (some (.tmp 1)) (some (.tmp 2)) none) 24 [v85_55, v86_56, v88_58] C_45 (fun v89_59 =>
 ∃ S_60 : World → World → Prop, ∀ w, C_45 w → (
 callM Tryz.prog 41 #[v76_46, v84_54, v89_59] (fun v90_61 w =>
 oM Tryz.prog (.unOp .not 4 (.tmp 0)) 4 [v90_61] (fun v91_62 w =>
 condM v91_62
 (K v19_2 w)
 (oM Tryz.prog (.binOp .shl 3 (.tmp 0) (.tmp 1) 3) 3 [(l_37.getD 0 undef), (l_34.getD 4 undef)] (fun v96_63 w =>
 oM Tryz.prog (.binOp .add 3 (.tmp 0) (.tmp 1) 3) 3 [(l_34.getD 2 undef), v96_63] (fun v97_64 w =>
 heldM w (fun C_65 w => (((true : Bool) = true) ∧ (pureH v59_31 C_65 (fun v98_66 =>
 pureH (l_34.getD 3 undef) C_65 (fun v99_67 =>
 pureH v59_31 C_65 (fun v100_68 =>
 pureH a4 C_65 (fun v101_69 =>
 pureH (l_34.getD 4 undef) C_65 (fun v102_70 =>
 oH Tryz.prog (.indexAddr 24 (.tmp 0) (.tmp 1)) 0 [v101_69, v102_70] C_65 (fun v103_71 =>
 oH Tryz.prog (.load 3 (.tmp 0)) 3 [v103_71] C_65 (fun v104_72 =>
 pureH (l_34.getD 4 undef) C_65 (fun v105_73 =>
 oH Tryz.prog (.binOp .shl 3 (.tmp 0) (.tmp 1) 3) 3 [(.int .i64 1), v105_73] C_65 (fun v106_74 =>
 ∃ S_75 : World → World → Prop, ∃ R_76 : Value → World → Prop, (∀ v w w_1, S_75 w w_1 → R_76 v w → R_76 v w_1) ∧
 (∀ w, C_65 w → (callM Tryz.prog 43 #[v100_68, v104_72, v106_74] (fun v w_1 => C_65 w_1 ∧ S_75 w w_1 ∧ R_76 v w_1) w)) ∧
 (∀ w, C_65 w → ∀ v107_77, R_76 v107_77 w → (
 callM Tryz.prog 42 #[v98_66, v99_67, v107_77] (fun v108_78 w =>
 oM Tryz.prog (.binOp .add 3 (.tmp 0) (.tmp 1) 3) 3 [(l_34.getD 4 undef), (.int .i64 1)] (fun v64_79 w =>
 J_32 [(l_37.getD 0 undef), (l_34.getD 1 undef), v97_64, v108_78, v64_79] w ∧ m_33 [(l_37.getD 0 undef), (l_34.getD 1 undef), v97_64, v108_78, v64_79] w < m_33 l_34 w0_l_34) w) w))))))))))))))) w) w)) w) w)))))))))))))))))))) w) w) w) w) w)))
 (oM Tryz.prog (.indexAddr 27 (.tmp 0) (.tmp 1)) 0 [v45_21, v21_3] (fun v111_80 w =>
 oM Tryz.prog (.fieldAddr 65 (.tmp 0) 1) 0 [v111_80] (fun v112_81 w =>
 oM Tryz.prog (.load 63 (.tmp 0)) 63 [v112_81] (fun v113_82 w =>
 oM Tryz.prog (.call (Go.Call.mk (.builtin .len) #[(.tmp 0)] #[63])) 3 [v113_82] (fun v114_83 w =>
 oM Tryz.prog (.binOp .neq 3 (.tmp 0) (.const (.int .i64 1)) 3) 4 [v114_83] (fun v115_84 w =>
 condM v115_84
 (K (.bool false) w)
 (heldM w (fun C_85 w => (((true : Bool) = true) ∧ (pureH v19_2 C_85 (fun v116_86 =>
 pureH v116_86 C_85 (fun v117_87 =>
 gdH (gd v117_87 true) (oH Tryz.prog (.load 26 (.tmp 0)) 26 [v5_1]) C_85 (fun v118_88 =>
 gdH (gd v117_87 true) (pureH v45_21) C_85 (fun v119_89 =>
 gdH (gd v117_87 true) (pureH v21_3) C_85 (fun v120_90 =>
 gdH (gd v117_87 true) (oH Tryz.prog (.indexAddr 27 (.tmp 0) (.tmp 1)) 0 [v119_89, v120_90]) C_85 (fun v121_91 =>
 gdH (gd v117_87 true) (oH Tryz.prog (.fieldAddr 65 (.tmp 0) 1) 0 [v121_91]) C_85 (fun v122_92 =>
 gdH (gd v117_87 true) (oH Tryz.prog (.load 63 (.tmp 0)) 63 [v122_92]) C_85 (fun v123_93 =>
 gdH (gd v117_87 true) (oH Tryz.prog (.indexAddr 63 (.tmp 0) (.tmp 1)) 0 [v123_93, (.int .i64 0)]) C_85 (fun v124_94 =>
 gdH (gd v117_87 true) (oH Tryz.prog (.load 69 (.tmp 0)) 69 [v124_94]) C_85 (fun v125_95 =>
 gdH (gd v117_87 true) (pureH a4) C_85 (fun v126_96 =>
 gdH (gd v117_87 true) (pureH v21_3) C_85 (fun v127_97 =>
 gdH (gd v117_87 true) (pureH v21_3) C_85 (fun v128_98 =>
 gdH (gd v117_87 true) (oH Tryz.prog (.binOp .add 3 (.tmp 0) (.tmp 1) 3) 3 [v128_98, (.int .i64 1)]) C_85 (fun v129_99 =>
 gdH (gd v117_87 true) (oH Tryz.prog (.slice 24 (.tmp 0) (some (.tmp 1)) (some (.tmp 2)) none) 24 [v126_96, v127_97, v129_99]) C_85 (fun v130_100 =>
 ∃ S_101 : World → World → Prop, ∃ R_102 : Value → World → Prop, (∀ v w w_1, S_101 w w_1 → R_102 v w → R_102 v w_1) ∧
 (∀ w, C_85 w → (gdM (gd v117_87 true) (callM Tryz.prog 41 #[v118_88, v125_95, v130_100]) (fun v w_1 => C_85 w_1 ∧ S_101 w w_1 ∧ R_102 v w_1) w)) ∧
 (∃ R_103 : Value → World → Prop, (∀ v w w_1, S_101 w w_1 → R_103 v w → R_103 v w_1) ∧
 (∀ w, C_85 w → ∀ v131_104, R_102 v131_104 w → (gdM (gd v117_87 true) (oM Tryz.prog (.unOp .not 4 (.tmp 0)) 4 [v131_104]) (fun v w_1 => C_85 w_1 ∧ S_101 w w_1 ∧ R_103 v w_1) w)) ∧
 (∃ R_105 : Value → World → Prop, (∀ v w w_1, S_101 w w_1 → R_105 v w → R_105 v w_1) ∧
 (∀ w, C_85 w → ∀ v132_106, R_103 v132_106 w → (gdM (gd v117_87 true) (pureM v132_106) (fun v w_1 => C_85 w_1 ∧ S_101 w w_1 ∧ R_105 v w_1) w)) ∧
 (∃ R_107 : Value → World → Prop, (∀ v w w_1, S_101 w w_1 → R_107 v w → R_107 v w_1) ∧
 (∀ w, C_85 w → ∀ v133_108, R_105 v133_108 w → (gdM (gd v133_108 false) (oM Tryz.prog (.load 26 (.tmp 0)) 26 [v5_1]) (fun v w_1 => C_85 w_1 ∧ S_101 w w_1 ∧ R_107 v w_1) w)) ∧
 (∃ R_109 : Value → World → Prop, (∀ v w w_1, S_101 w w_1 → R_109 v w → R_109 v w_1) ∧
 (∀ w, C_85 w → ∀ v133_110, R_105 v133_110 w → (gdM (gd v133_110 false) (pureM (l_34.getD 2 undef)) (fun v w_1 => C_85 w_1 ∧ S_101 w w_1 ∧ R_109 v w_1) w)) ∧
 (∃ R_111 : Value → World → Prop, (∀ v w w_1, S_101 w w_1 → R_111 v w → R_111 v w_1) ∧
 (∀ w, C_85 w → ∀ v133_112, R_105 v133_112 w → (gdM (gd v133_112 false) (pureM v59_31) (fun v w_1 => C_85 w_1 ∧ S_101 w w_1 ∧ R_111 v w_1) w)) ∧
 (∃ R_113 : Value → World → Prop, (∀ v w w_1, S_101 w w_1 → R_113 v w → R_113 v w_1) ∧
 (∀ w, C_85 w → ∀ v133_114, R_105 v133_114 w → (gdM (gd v133_114 false) (pureM (l_34.getD 3 undef)) (fun v w_1 => C_85 w_1 ∧ S_101 w w_1 ∧ R_113 v w_1) w)) ∧
 (∃ R_115 : Value → World → Prop, (∀ v w w_1, S_101 w w_1 → R_115 v w → R_115 v w_1) ∧
 (∀ w, C_85 w → ∀ v133_116, R_105 v133_116 w → (gdM (gd v133_116 false) (pureM a4) (fun v w_1 => C_85 w_1 ∧ S_101 w w_1 ∧ R_115 v w_1) w)) ∧
 (∃ R_117 : Value → World → Prop, (∀ v w w_1, S_101 w w_1 → R_117 v w → R_117 v w_1) ∧
 (∀ w, C_85 w → ∀ v133_118, R_105 v133_118 w → (gdM (gd v133_118 false) (pureM v21_3) (fun v w_1 => C_85 w_1 ∧ S_101 w w_1 ∧ R_117 v w_1) w)) ∧
 (∃ R_119 : Value → World → Prop, (∀ v w w_1, S_101 w w_1 → R_119 v w → R_119 v w_1) ∧
 (∀ w, C_85 w → ∀ v133_120, R_105 v133_120 w → ∀ v138_121, R_115 v138_121 w → ∀ v139_122, R_117 v139_122 w → (gdM (gd v133_120 false) (oM Tryz.prog (.indexAddr 24 (.tmp 0) (.tmp 1)) 0 [v138_121, v139_122]) (fun v w_1 => C_85 w_1 ∧ S_101 w w_1 ∧ R_119 v w_1) w)) ∧
 (∃ R_123 : Value → World → Prop, (∀ v w w_1, S_101 w w_1 → R_123 v w → R_123 v w_1) ∧
 (∀ w, C_85 w → ∀ v133_124, R_105 v133_124 w → ∀ v140_125, R_119 v140_125 w → (gdM (gd v133_124 false) (oM Tryz.prog (.load 3 (.tmp 0)) 3 [v140_125]) (fun v w_1 => C_85 w_1 ∧ S_101 w w_1 ∧ R_123 v w_1) w)) ∧
 (∃ R_126 : Value → World → Prop, (∀ v w w_1, S_101 w w_1 → R_126 v w → R_126 v w_1) ∧
 (∀ w, C_85 w → ∀ v133_127, R_105 v133_127 w → ∀ v136_128, R_111 v136_128 w → ∀ v137_129, R_113 v137_129 w → ∀ v141_130, R_123 v141_130 w → (gdM (gd v133_127 false) (callM Tryz.prog 42 #[v136_128, v137_129, v141_130]) (fun v w_1 => C_85 w_1 ∧ S_101 w w_1 ∧ R_126 v w_1) w)) ∧
 (∃ R_131 : Value → World → Prop, (∀ v w w_1, S_101 w w_1 → R_131 v w → R_131 v w_1) ∧
 (∀ w, C_85 w → ∀ v133_132, R_105 v133_132 w → ∀ v134_133, R_107 v134_133 w → ∀ v135_134, R_109 v135_134 w → ∀ v142_135, R_126 v142_135 w → (gdM (gd v133_132 false) (callM Tryz.prog 44 #[v134_133, v135_134, v142_135]) (fun v w_1 => C_85 w_1 ∧ S_101 w w_1 ∧ R_131 v w_1) w)) ∧
 (∃ R_136 : Value → World → Prop, (∀ v w w_1, S_101 w w_1 → R_136 v w → R_136 v w_1) ∧
 (∀ w, C_85 w → ∀ v133_137, R_105 v133_137 w → (gdM (gd v133_137 false) (pureM a1) (fun v w_1 => C_85 w_1 ∧ S_101 w w_1 ∧ R_136 v w_1) w)) ∧
 (∀ w, C_85 w → ∀ v131_138, R_102 v131_138 w → ∀ v132_139, R_103 v132_139 w → ∀ v133_140, R_105 v133_140 w → ∀ v134_141, R_107 v134_141 w → ∀ v135_142, R_109 v135_142 w → ∀ v136_143, R_111 v136_143 w → ∀ v137_144, R_113 v137_144 w → ∀ v138_145, R_115 v138_145 w → ∀ v139_146, R_117 v139_146 w → ∀ v140_147, R_119 v140_147 w → ∀ v141_148, R_123 v141_148 w → ∀ v142_149, R_126 v142_149 w → ∀ v143_150, R_131 v143_150 w → ∀ v144_151, R_136 v144_151 w → (
 gdM (gd v133_140 false) (oM Tryz.prog (.binOp .eql 3 (.tmp 0) (.tmp 1) 3) 4 [v143_150, v144_151]) (fun v145_152 w =>
 gdM (gd v117_87 true) (oM Tryz.prog (.pick (.tmp 0) (.tmp 1) (.tmp 2)) 4 [v133_140, (.bool true), v145_152]) (fun v146_153 w =>
 oM Tryz.prog (.pick (.tmp 0) (.tmp 1) (.tmp 2)) 4 [v117_87, v146_153, (.bool false)] (fun v147_154 w =>
 K v147_154 w) w) w) w))))))))))))))))))))))))))))))))))) w) w) w) w) w)) w)) w0_l_34)) w) w) w)) w) w) w) w) w)) w) w) w) w) w) w) w) w) w) w) w) w) w) w) w) w) w) w) w
theorem sh_8_eq (a0 : Value) (a1 : Value) (a2 : Value) (a3 : Value) (a4 : Value) (K : Value → World → Prop) (w : World) : sh_8 a0 a1 a2 a3 a4 K w = code Tryz.prog (fun i => bif Nat.beq i 19 then .free [0, 1, 2, 3, 4, 5, 6, 7, 8, 9, 10, 11, 12, 13] [] [14, 15] else bif Nat.beq i 22 then .free [0, 1, 2, 3, 4, 5, 6, 7, 8] [9] [10, 11] else bif Nat.beq i 25 then .free [0, 1, 2, 3, 4, 5, 6, 7, 8, 9, 10, 11, 12, 13, 14] [15, 16, 17, 18, 19, 20, 21, 22, 23, 24, 25, 26, 27, 28] [29, 30, 31, 32] else 0) 148 (Tryz.f8.body.getD .skip) (slotsAt [a0, a1, a2, a3, a4]) (retK Tryz.prog [.tmp 10] K) w := by kernel_rfl
theorem sh_8_ok {a0 a1 a2 a3 a4 : Value} {K : Value → World → Prop} {w : World} (h : sh_8 a0 a1 a2 a3 a4 K w) : callM Tryz.prog 8 #[a0, a1, a2, a3, a4] K w :=
  calls_of_code (fun i => bif Nat.beq i 19 then .free [0, 1, 2, 3, 4, 5, 6, 7, 8, 9, 10, 11, 12, 13] [] [14, 15] else bif Nat.beq i 22 then .free [0, 1, 2, 3, 4, 5, 6, 7, 8] [9] [10, 11] else bif Nat.beq i 25 then .free [0, 1, 2, 3, 4, 5, 6, 7, 8, 9, 10, 11, 12, 13, 14] [15, 16, 17, 18, 19, 20, 21, 22, 23, 24, 25, 26, 27, 28] [29, 30, 31, 32] else 0) (fn := Tryz.f8) (rs := [.tmp 10]) Tryz.func8 rfl rfl (by kernel_rfl) (Nat.le_of_ble_eq_true rfl) ((sh_8_eq a0 a1 a2 a3 a4 K w).mp h)
end Go.Proofs
namespace PrSpec
open FdSpec TkSpec CodeSpec FdPoly GrLaw
theorem prod_cg {g : Grp} (h : Gv g) {bs es : List Int} (hl : bs.length = es.length) : Cg g.P (prodG g bs es).1 (PX g (bs.zip es)) ∧ 0 ≤ (prodG g bs es).1 ∧ (prodG g bs es).1 < g.P := by
  have hp := h.okP
  have hq := h.okQ
  have hp0 : 0 < g.P := by have := hp.1; omega
  unfold prodG
  rw [if_pos ⟨hp, hq, hl⟩]
  have h1 := prodL_cg h (bs.zip es) (1 % g.P)
  have h2 := prodL_range h (bs.zip es) (1 % g.P) ⟨Int.emod_nonneg _ (by omega), Int.emod_lt_of_pos _ hp0⟩
  refine ⟨h1.trans ?_, h2⟩
  have := (Cg.mod g.P 1).mul (Cg.refl g.P (PX g (bs.zip es)))
  rwa [Int.one_mul] at this
theorem zip_wt : ∀ (l : List Bt) (k : Nat), (l.map Bt.x).zip ((List.range l.length).map fun i => (2 : Int) ^ (k + i)) = wtL k l
  | [], k => rfl
  | t :: l, k => by
    have ih := zip_wt l (k + 1)
    rw [List.length_cons, List.range_succ_eq_map]
    simp only [List.map_cons, List.zip_cons_cons, wtL, Nat.add_zero, List.map_map]
    congr 1
    rw [← ih]
    congr 2
    funext i
    show (2 : Int) ^ (k + (i + 1)) = 2 ^ (k + 1 + i)
    rw [show k + 1 + i = k + (i + 1) by omega]
theorem sumB_snoc (f : Bt → Int) : ∀ (l : List Bt) (k : Nat) (t : Bt), sumB f k (l ++ [t]) = sumB f k l + f t * 2 ^ (k + l.length)
  | [], k, t => by simp [sumB]
  | a :: l, k, t => by
    have := sumB_snoc f l (k + 1) t
    simp only [List.cons_append, sumB, this, List.length_cons]
    rw [show k + 1 + l.length = k + (l.length + 1) by omega]
    omega
theorem blind_el {s : Stp} (hv : validS s = true) : El s.g s.blind := by
  have hg := gv_setup hv
  unfold validS at hv
  simp only [Bool.and_eq_true] at hv
  have := hv.2
  unfold otherM at this
  simp only [Bool.and_eq_true] at this
  exact (El.of_elem hg this.2).1
theorem holds_blind {s : Stp} {t x : Int} (h : HoldsM s (blindedM s t) [x] = true) : validS s = true ∧ elemG s.g t = true ∧ Cg s.g.P (Ex s.g s.blind x) t := by
  unfold HoldsM at h
  simp only [Bool.and_eq_true] at h
  obtain ⟨⟨hv, hc⟩, hh⟩ := h
  have hg := gv_setup hv
  have ht : elemG s.g t = true := by
    unfold claimM blindedM at hc
    simp only [Bool.and_eq_true, List.all_cons, List.all_nil, Bool.and_true] at hc
    have := hc.2
    unfold eqnFine at this
    simp only [Bool.and_eq_true] at this
    exact this.1.1
  refine ⟨hv, ht, ?_⟩
  unfold holdsM blindedM at hh
  simp only [Bool.and_eq_true, List.any_cons, List.any_nil, Bool.or_false, Bool.not_eq_true', Bool.not_eq_false', decide_eq_true_eq] at hh
  have h2 := hh.2
  have hp := prod_cg hg (bs := [s.blind]) (es := [x]) rfl
  have e : leftM s ⟨t, [⟨0, s.blind⟩]⟩ [x] = (prodG s.g [s.blind] [x]).1 := rfl
  rw [e] at h2
  rw [h2] at hp
  have h3 := hp.1.symm
  simpa [PX] using h3
theorem bit_zero {s : Stp} {e v : Int} (h : HoldsM s (blindedM s e) [v] = true) : Cg s.g.P e (Ex s.g s.g.G 0 * Ex s.g s.blind v) := by
  obtain ⟨_, _, h3⟩ := holds_blind h
  rw [Ex_zero, Int.one_mul]
  exact h3.symm
theorem bit_one {s : Stp} {e v : Int} (h : HoldsM s (blindedM s (overG s.g e s.g.G)) [v] = true) : Cg s.g.P e (Ex s.g s.g.G 1 * Ex s.g s.blind v) := by
  obtain ⟨hv, _, h3⟩ := holds_blind h
  have hg := gv_setup hv
  have hG := El.gen hg
  have h4 := overG_cg hg e (hG.unit hg)
  have h5 : Cg s.g.P (Ex s.g s.g.G 1) s.g.G := by
    unfold Ex
    have hq := hg.q0
    rw [Int.emod_eq_of_lt (by omega) (by omega)]
    show Cg s.g.P (s.g.G ^ 1) s.g.G
    rw [Int.pow_succ, Int.pow_zero, Int.one_mul]
    exact Cg.refl _ _
  refine h4.symm.trans ?_
  rw [Int.mul_comm]
  exact h5.symm.mul h3.symm
theorem weigh_eq {s : Stp} {bits : List Int} (h : (weighM s bits).2 = true) : validS s = true ∧ (weighM s bits).1 = (prodG s.g bits (pows bits.length)).1 := by
  unfold weighM at h ⊢
  split
  · rename_i hc
    simp only [Bool.and_eq_true] at hc
    exact ⟨hc.1.1.1, rfl⟩
  · rename_i hc
    rw [if_neg hc] at h
    cases h
theorem opened {s : Stp} {c : Int} {l : List Bt} {vn v r : Int} (hw : (weighM s (l.map Bt.x)).2 = true) (hc : elemG s.g c = true) (hl : ∀ t ∈ l, Cg s.g.P t.x (Ex s.g s.g.G t.b * Ex s.g s.blind t.v))
    (hn : HoldsM s (blindedM s (overG s.g c (weighM s (l.map Bt.x)).1)) [vn] = true) (ev : v = sumB Bt.b 0 l) (er : r % s.g.Q = (sumB Bt.v 0 l + vn) % s.g.Q) : commitM s v r = c := by
  obtain ⟨hv, ew⟩ := weigh_eq hw
  have hg := gv_setup hv
  have hG := El.gen hg
  have hb := blind_el hv
  obtain ⟨_, _, h3⟩ := holds_blind hn
  rw [ew] at h3
  have hz : (l.map Bt.x).zip (pows (l.map Bt.x).length) = wtL 0 l := by
    have := zip_wt l 0
    simp only [Nat.zero_add] at this
    unfold pows
    rw [List.length_map]
    exact this
  have hp := prod_cg hg (bs := l.map Bt.x) (es := pows (l.map Bt.x).length) (by simp [pows])
  rw [hz] at hp
  generalize (prodG s.g (l.map Bt.x) (pows (l.map Bt.x).length)).1 = w at *
  have hwc := hp.1.trans (weigh_cg hg hb l 0 hl)
  have hwu : U s.g.P w := ((((hG.ex _).mul (hb.ex _)).cg hwc)).unit hg
  have h4 := overG_cg hg c hwu
  have hcr := El.of_elem hg hc
  have h5 : Cg s.g.P c (Ex s.g s.g.G v * Ex s.g s.blind r) := by
    have e1 : Cg s.g.P c (Ex s.g s.blind vn * (Ex s.g s.g.G (sumB Bt.b 0 l) * Ex s.g s.blind (sumB Bt.v 0 l))) := h4.symm.trans (h3.symm.mul hwc)
    rw [← ev] at e1
    rw [Ex_cong er]
    refine e1.trans ?_
    have e2 := Ex_add hg hb (sumB Bt.v 0 l) vn
    have e3 := (Cg.refl s.g.P (Ex s.g s.g.G v)).mul e2
    refine Cg.trans ?_ e3.symm
    have : Ex s.g s.blind vn * (Ex s.g s.g.G v * Ex s.g s.blind (sumB Bt.v 0 l)) = Ex s.g s.g.G v * (Ex s.g s.blind (sumB Bt.v 0 l) * Ex s.g s.blind vn) := by grind
    rw [this]
    exact Cg.refl _ _
  unfold commitM
  rw [if_pos hv]
  have hq := prod_cg hg (bs := [s.g.G, s.blind]) (es := [v, r]) rfl
  refine (hq.1.trans ?_).eq hq.2 ⟨by omega, hcr.2.2⟩
  have : PX s.g ([s.g.G, s.blind].zip [v, r]) = Ex s.g s.g.G v * Ex s.g s.blind r := by simp [PX]
  rw [this]
  exact h5.symm
end PrSpec
namespace Go.Proofs
open Go Go.Sh Go.RowKit FdSpec TkSpec CodeSpec PrSpec
set_option linter.unusedSimpArgs false
set_option linter.unusedVariables false
set_option maxRecDepth 10000
section
variable {K : Value → World → Prop} {w w' w0 W : World} {L : List (Addr × Value)}
def BoolR (_ : World) (v : Value) (b : Bool) : Prop := v = .bool b
abbrev BoolsR (w : World) (v : Value) (l : List Bool) : Prop := SRow 1 (AtOf 1 (VOne BoolR)) w v l
@[go_sem] theorem idx_bools (T : TypeId) (b o n c : Nat) (x : Int) : oM Tryz.prog (.indexAddr 61 (.tmp 0) (.tmp 1)) T [.slice (some ⟨b, o, none⟩) n c, .int .i64 x] = onM (0 ≤ x ∧ x < n) (.pointer (some ⟨b, o + x.toNat, none⟩)) := by
  have := idx_row (K := fun _ _ => True) (P := Tryz.prog) (n := 1) 61 T (by kernel_rfl) (fun w => by kernel_rfl) b o n c x
  rwa [Nat.mul_one] at this
theorem shlB {P : Program} {t t' T : TypeId} {n : Nat} {b : Int} {K : Value → World → Prop} {w : World} (hb : b = 0 ∨ b = 1) (h : n ≤ 62) (k : K (.int .i64 (b * 2 ^ n)) w) : oM P (.binOp .shl t (.tmp 0) (.tmp 1) t') T [.int .i64 b, .int .i64 (n : Int)] K w := by
  rcases hb with rfl | rfl
  · have e : oM P (.binOp .shl t (.tmp 0) (.tmp 1) t') T [.int .i64 0, .int .i64 (n : Int)] K w = K (.int .i64 0) w := by
      simp [oM, opM, xop, execOp, evalL, evE, binOp, Op.shift]
      rfl
    rw [e]
    simpa using k
  · rw [Int.one_mul] at k
    exact shlI h k
theorem slice_one {T : TypeId} {b o n c : Nat} (i : Nat) (hi : i < n) (hc : n ≤ c) : oM Tryz.prog (.slice 24 (.tmp 0) (some (.tmp 1)) (some (.tmp 2)) none) T [.slice (some ⟨b, o, none⟩) n c, .int .i64 (i : Int), .int .i64 ((i : Int) + 1)] = pureM (.slice (some ⟨b, o + i, none⟩) 1 (c - i)) := by
  funext K w
  have ht : Tryz.prog.underlying 24 = some (.slice (Tryz.prog.elem 24)) := by kernel_rfl
  have hs : (sizeOf (Tryz.prog.elem 24)).run Tryz.prog w = .ok 1 w := by kernel_rfl
  have e0 : oM Tryz.prog (.slice 24 (.tmp 0) (some (.tmp 1)) (some (.tmp 2)) none) T [.slice (some ⟨b, o, none⟩) n c, .int .i64 (i : Int), .int .i64 ((i : Int) + 1)] K w = rM ((Instr.sliceAt 24 (.slice (some ⟨b, o, none⟩) n c) (some (.int .i64 (i : Int))) (some (.int .i64 ((i : Int) + 1))) none).run Tryz.prog w) K := by
    exact rM_of (by simp [xop, execOp, evalL, evE])
  rw [e0, run_sliceAt_slice w _ _ _ _ _ ht, run_slice_lh w _ _ n c ht .i64 .i64 i (i + 1) (by omega) (by omega) (by omega), hs]
  have e1 : ((i : Int) + 1).toNat = i + 1 := by omega
  have e2 : ¬ c = i := by omega
  have e3 : i + 1 - i = 1 := by omega
  simp only [Result.andThen_ok, sliced, Int.toNat_natCast, e1, if_neg e2, Option.map_some, add_none, Nat.mul_one, e3]
  rfl
theorem slice_oneH {T : TypeId} {b o n c : Nat} {C : World → Prop} {KQ : Value → Prop} (i : Nat) (hi : i < n) (hc : n ≤ c) (hn : n ≤ 9223372036854775807) (k : KQ (.slice (some ⟨b, o + i, none⟩) 1 (c - i))) :
    oH Tryz.prog (.slice 24 (.tmp 0) (some (.tmp 1)) (some (.tmp 2)) none) T [.slice (some ⟨b, o, none⟩) n c, .int .i64 (i : Int), .int .i64 (IntKind.i64.wrap ((i : Int) + 1))] C KQ := by
  rw [wrapI64 _ (by omega) (by omega)]
  refine oH_of (v := .slice (some ⟨b, o + i, none⟩) 1 (c - i)) ⟨Instr.sliceAt 24 (.slice (some ⟨b, o, none⟩) n c) (some (.int .i64 (i : Int))) (some (.int .i64 ((i : Int) + 1))) none, by simp [xop, execOp, evalL, evE]⟩ (fun w hw => ?_) k
  rw [slice_one i hi hc]
  exact ⟨rfl, rfl⟩
theorem shlH {P : Program} {t t' T : TypeId} {n : Nat} {C : World → Prop} {KQ : Value → Prop} (h : n ≤ 62) (k : KQ (.int .i64 (2 ^ n))) : oH P (.binOp .shl t (.tmp 0) (.tmp 1) t') T [.int .i64 1, .int .i64 (n : Int)] C KQ := by
  refine oH_of (v := .int .i64 (2 ^ n)) ⟨_, rfl⟩ (fun w hw => ?_) k
  exact shlI h ⟨rfl, rfl⟩
theorem ints_one {b o c n i : Nat} {l : List Int} {x : Int} (h : Ints w (.slice (some ⟨b, o, none⟩) n c) l) (hi : l[i]? = some x) (c2 : Nat) : Ints w (.slice (some ⟨b, o + i, none⟩) 1 c2) [x] := by
  obtain ⟨⟨ad, c', hv, h0, hc⟩, hr, _⟩ := h
  injection hv with e1 _ _
  have hlt := (List.getElem?_eq_some_iff.1 hi).1
  rcases hc with hc | ⟨b', o', e2, hb, hcell⟩
  · rw [hc] at hi; simp at hi
  · rw [← e1] at e2
    cases e2
    refine ⟨⟨_, c2, rfl, (fun e => by cases e), .inr ⟨b, o + i, rfl, hb, fun j u hj => ?_⟩⟩, fun n hn => ?_, by simp⟩
    · have hj0 : j = 0 := by have := (List.getElem?_eq_some_iff.1 hj).1; simp [flat, intC] at this; omega
      subst hj0
      have := hcell i u (by rw [flat_int, List.getElem?_map, hi]; simpa [flat, intC] using hj)
      simpa using this
    · simp at hn; subst hn; exact hr _ (List.mem_of_getElem? hi)
end
end Go.Proofs
namespace Go.Proofs
open Go Go.Sh Go.RowKit Go.Lib CodeSpec TkSpec FdSpec PrSpec Go.ChangeShapes Go.WideShapes Go.ChangeAt Go.Deep
set_option linter.unusedSimpArgs false
set_option maxRecDepth 100000
section
variable {H : Type} {enc : TypeId × Value → H} {w : World} {sp : Nat → Bool} {hd : Bool}
theorem open_bools {b0 : Nat} {v : Value} {d : DataW H} {ps : List MemPlace} (hval : Value.okWide Tryz.prog w .any b0 61 v) (h : DataW.Trod enc Tryz.prog w 0 sp hd 61 v d ps) : ∃ l, BoolsR w v l := by
  obtain ⟨a, n, c, rfl⟩ := okWide_slice Tryz.underlying61 hval
  obtain ⟨fu, hf⟩ := h
  exact rowsOpen Tryz.underlying61 (by kernel_rfl) (by decide) (fun cs b p m D hl hc ht => by
    match cs, hl with
    | [u], _ =>
      obtain ⟨k, e, _⟩ := DataW.trod_bool Tryz.underlying4 ht
      simp only [List.cons.injEq, and_true] at e
      exact ⟨k, [u], rfl, hc, u, rfl, e⟩) hf
theorem open_ci {b0 : Nat} {v : Value} {d : DataW H} {ps : List MemPlace} (hval : Value.okWide Tryz.prog w .any b0 24 v) (h : DataW.Trod enc Tryz.prog w 0 sp hd 24 v d ps) : ∃ l, CI w v l := by
  obtain ⟨a, n, c, hv, hnc, _⟩ := open_elems Tryz.underlying24 (by rw [cells_int]; decide) hval h
  obtain ⟨fu, hf⟩ := h
  subst hv
  have hf : DataW.trod enc Tryz.prog w 0 sp hd fu 24 [.slice a n c] = some (d, ps) := hf
  obtain ⟨l, hl⟩ := open_ints hf
  obtain ⟨⟨ad, c', hv, _, _⟩, _, _⟩ := id hl
  injection hv with e1 e2 e3
  subst e2
  refine ⟨l, hl, a, c, rfl, hnc, fun e => ?_⟩
  subst e
  exact (nil_len Tryz.underlying24 hf).2
end
end Go.Proofs
namespace Go.Proofs
open Go Go.Sh Go.RowKit FdSpec TkSpec CodeSpec PrSpec
set_option linter.unusedSimpArgs false
set_option linter.unusedVariables false
set_option maxRecDepth 10000
section
variable {K : Value → World → Prop} {w w' w0 W : World} {L : List (Addr × Value)}
def OpJ (s : Stp) (bits : List Int) (W : World) (vs : List Value) (w' : World) : Prop := Below W.heap.size W w' ∧ ∃ (u : Value) (i : Nat) (l : List Bt) (v r : Int), vs = [u, .bool false, .int .i64 v, .int .i64 r, .int .i64 (i : Int)] ∧ i ≤ bits.length ∧ l.length = i ∧ l.map Bt.x = bits.take i ∧
  (∀ t ∈ l, GrLaw.Cg s.g.P t.x (GrLaw.Ex s.g s.g.G t.b * GrLaw.Ex s.g s.blind t.v)) ∧ v = sumB Bt.b 0 l ∧ r % s.g.Q = sumB Bt.v 0 l % s.g.Q ∧ 0 ≤ v ∧ v < 2 ^ i
theorem opens_ok (s : Stp) (c : Int) (bits : List Int) (which : List Bool) (vals : List Int) {sv bv wv vv : Value} (hs : SetR w s sv) (hc : I64 c) (hb : Ints w bv bits) (hwh : BoolsR w wv which) (hv : CI w vv vals) (hl : Cd.LaidE w) (k : ∀ w', Below w.heap.size w w' → K (.bool true) w') :
    callM Tryz.prog 8 #[stpV s sv, .int .i64 c, bv, wv, vv] K w := by
  apply sh_8_ok
  unfold sh_8
  have hs' := hs
  obtain ⟨ad, ca, rfl⟩ := hs.ints.isSlice
  have hb' := hb
  obtain ⟨bad, bc, rfl⟩ := hb.isSlice
  have hwh' := hwh
  obtain ⟨wad, wc, rfl⟩ := hwh.isSlice
  have hv' := hv
  obtain ⟨vad, vc, rfl, hcap, hvn⟩ := hv.2
  have hvI := hv'.1
  have hvl := hvI.len
  have hwl := hwh'.len
  refine box_kn (cs := stpC s (.slice ad s.bases.length ca)) rfl (.start w) fun b1 W hk hb1 hbb => ?_
  clear hb1 hbb
  refine less_ok (hs'.db.next hk.below) (hl.below hk.below hl.size) (fun w1 h1 => ?_)
  have hk := hk.next h1
  repeat (any_goals ((with_reducible refine idO ?_); (with_reducible refine oM_gen fun Kv hK=>?_); simp [go_sem, hk.cells]; refine hK _ _ ?_; clear hK; clear Kv))
  refine FewSetup_ok s (hs'.next hk.below) (fun w2 h2 => ?_)
  have hk := hk.next h2
  by_cases hb9 : ¬ (s.bases.length : Int) ≤ 9
  · rw [decide_eq_false hb9]
    repeat (any_goals (first
    | (with_reducible first|((refine idGd ?_); refine zD ?_)|((refine idPick ?_); refine yB ?_)|((refine idCond ?_); refine yL ?_))
    | ((with_reducible refine idO ?_); (with_reducible refine oM_gen fun Kv hK=>?_); simp [go_sem, hk.cells]; refine hK _ _ ?_; clear hK; clear Kv)))
    exact k _ hk.below
  have hb9 : (s.bases.length : Int) ≤ 9 := by omega
  rw [decide_eq_true hb9]
  by_cases h12 : (12 : Int) < bits.length
  · repeat (any_goals (first
    | (with_reducible first|refine pureM_in ?_|((refine idGd ?_); first|refine zC ?_|refine zD ?_)|((refine idPick ?_); first|refine yB ?_|refine yC ?_)|((refine idCond ?_); refine yL ?_))
    | ((with_reducible refine idO ?_); (with_reducible refine oM_gen fun Kv hK=>?_); simp [go_sem, hk.cells, h12]; refine hK _ _ ?_; clear hK; clear Kv)))
    exact k _ hk.below
  by_cases hww : (which.length : Int) < bits.length
  · repeat (any_goals (first
    | (with_reducible first|refine pureM_in ?_|((refine idGd ?_); first|refine zC ?_|refine zD ?_)|((refine idPick ?_); first|refine yB ?_|refine yC ?_)|((refine idCond ?_); refine yL ?_))
    | ((with_reducible refine idO ?_); (with_reducible refine oM_gen fun Kv hK=>?_); simp [go_sem, hk.cells, h12, hww]; refine hK _ _ ?_; clear hK; clear Kv)))
    exact k _ hk.below
  by_cases hvv : (vals.length : Int) ≤ bits.length
  · repeat (any_goals (first
    | (with_reducible first|refine pureM_in ?_|((refine idGd ?_); refine zC ?_)|((refine idPick ?_); refine yC ?_)|((refine idCond ?_); refine yL ?_))
    | ((with_reducible refine idO ?_); (with_reducible refine oM_gen fun Kv hK=>?_); simp [go_sem, hk.cells, h12, hww, hvv]; refine hK _ _ ?_; clear hK; clear Kv)))
    exact k _ hk.below
  repeat (any_goals (first
  | (with_reducible first|refine pureM_in ?_|((refine idGd ?_); refine zC ?_)|((refine idPick ?_); refine yC ?_)|((refine idCond ?_); refine yM ?_))
  | ((with_reducible refine idO ?_); (with_reducible refine oM_gen fun Kv hK=>?_); simp [go_sem, hk.cells, h12, hww, hvv]; refine hK _ _ ?_; clear hK; clear Kv)))
  refine Range_ok s c bits (hs'.next hk.below) hc (hb'.next hk.below) (fun w3 gv h3 hgoal => ?_)
  have hk := hk.next h3
  obtain ⟨gad, gc, rfl⟩ := id hgoal.isSlice
  cases hr : (weighM s bits).2 && elemG s.g c with
  | false =>
    have e : PrSpec.rangeM s c bits = [] := by unfold PrSpec.rangeM; rw [hr]; rfl
    rw [e] at hgoal ⊢
    have hne : ¬ (0 : Int) = (bits.length : Int) + 1 := by omega
    simp only [List.length_nil]
    repeat (any_goals (first
    | (with_reducible first|refine pureM_in ?_|((refine idGd ?_); refine zA ?_)|((refine idPick ?_); refine yB ?_)|((refine idCond ?_); refine yL ?_))
    | ((with_reducible refine idO ?_); (with_reducible refine oM_gen fun Kv hK=>?_); simp [go_sem, hk.cells, hne]; (try simp (disch := omega) only [wrapI64, wrapU8, wrapU32, wrapU64]); refine hK _ _ ?_; clear hK; clear Kv)))
    exact k _ hk.below
  | true =>
  simp only [Bool.and_eq_true] at hr
  obtain ⟨hw2, hce⟩ := hr
  have e : PrSpec.rangeM s c bits = bits.map (bitC s) ++ [lastC s c (weighM s bits).1] := by unfold PrSpec.rangeM bitsM; rw [hw2, hce]; rfl
  rw [e] at hgoal ⊢
  have eln : (bits.map (bitC s) ++ [lastC s c (weighM s bits).1]).length = bits.length + 1 := by simp
  rw [eln]
  repeat (any_goals (first
  | (with_reducible ((refine idCond ?_); refine yM ?_))
  | ((with_reducible refine idO ?_); (with_reducible refine oM_gen fun Kv hK=>?_); simp [go_sem, hk.cells]; (try simp (disch := omega) only [wrapI64, wrapU8, wrapU32, wrapU64]); refine hK _ _ ?_; clear hK; clear Kv)))
  have hvalid : validS s = true := (weigh_eq hw2).1
  have hokQ := (gv_setup hvalid).okQ
  refine ⟨OpJ s bits w3, (fun vs _ => match vs with | [_, _, _, _, .int _ i] => bits.length - i.toNat | _ => 0), ⟨Below.refl _ _, _, 0, [], 0, 0, rfl, by omega, rfl, by simp, by simp, rfl, rfl, by omega, by omega⟩, ?_⟩
  rintro _ _ w4 ⟨hb4, u, i, l, v, r, rfl, hi, hll, hlx, hlc, hlv, hlr, hv0, hv1⟩
  have hk := hk.next hb4
  have hp12 : (2 : Int) ^ i ≤ 2 ^ 12 := pow2_lt (by omega)
  have hp0 : (0 : Int) < 2 ^ i := Int.pow_pos (by decide)
  simp only [Int.reducePow] at hp12
  by_cases hin : i = bits.length
  · rw [List.take_of_length_le (by omega)] at hlx
    subst hin
    have evi : vals[bits.length]? = some vals[bits.length] := List.getElem?_eq_getElem (by omega)
    obtain ⟨bvv, ovv, rfl, hbvv, cvv, rvv, _⟩ := hvI.at (i := bits.length) (by omega)
    have hvone := fun c2 => ints_one hvI evi c2
    generalize vals[bits.length] = val at *
    obtain ⟨bg, og, rfl, hbg, _, _, hgcell, gcv, rfl, _, hgc⟩ := hgoal.at (i := bits.length) (by rw [eln]; omega)
    have eg : (bits.map (bitC s) ++ [lastC s c (weighM s bits).1])[bits.length]'(by rw [eln]; omega) = lastC s c (weighM s bits).1 := by
      rw [List.getElem_append_right (by rw [List.length_map]; omega)]
      simp
    rw [eg] at hgc
    have g1 := hgcell 1 _ rfl
    obtain ⟨cad, cc, rfl⟩ := id hgc.isSlice
    have hgc : SRow 2 (AtOf 2 VClm) w3 (.slice cad 1 cc) [blindedM s (overG s.g c (weighM s bits).1)] := hgc
    have g1 : w3.cell? ⟨bg, og + bits.length * 2 + 1, none⟩ = some (.slice cad 1 cc) := g1
    obtain ⟨bcl, ocl, rfl, hbcl, _, _, hccell, ccv, rfl, hclm⟩ := hgc.at (i := 0) (by simp)
    obtain ⟨cm, hcm⟩ : ∃ cm, cm = blindedM s (overG s.g c (weighM s bits).1) := ⟨_, rfl⟩
    have hclm : ClmR w3 cm ccv := by rw [hcm]; exact hclm
    have p0 : w3.cell? ⟨bcl, ocl + 0 * 2 + 0, none⟩ = some (.int .i64 cm.vars) := by rw [hcm]; exact hccell 0 _ rfl
    have p1 : w3.cell? ⟨bcl, ocl + 0 * 2 + 1, none⟩ = some ccv := hccell 1 _ rfl
    simp only [Nat.zero_mul, Nat.add_zero] at p0 p1
    have hclm' := hclm
    obtain ⟨ead, ec, rfl⟩ := hclm.eqs.isSlice
    have hig : (bits.length : Int) < (bits.length : Int) + 1 := by omega
    have hfin : HoldsM s cm [val] = true → commitM s v (addM s.g.Q r val) = c := fun h => by
      rw [hcm, ← hlx] at h
      rw [← hlx] at hw2
      refine opened hw2 hce hlc h hlv ?_
      unfold addM
      rw [if_pos hokQ, Int.emod_emod_of_dvd _ (Int.dvd_refl _), Int.add_emod, hlr, ← Int.add_emod]
    have hvr : I64 v := by unfold I64; omega
    repeat (any_goals (first
    | (with_reducible ((refine idCond ?_); refine yM ?_))
    | ((with_reducible refine idO ?_); (with_reducible refine oM_gen fun Kv hK=>?_); simp [go_sem, hk.cells, (hb4.cell hbg).trans g1, hig]; refine hK _ _ ?_; clear hK; clear Kv)))
    have hk := hk.drew
    have hbW := hb4.on (.drawn (w := w4) (B := w4.heap.size))
    refine ⟨Nx { w4 with drawn := w4.drawn + 1 }, Below.refl _ _, rfl, ?_⟩
    generalize ({ w4 with drawn := w4.drawn + 1 } : World) = W at hk hbW ⊢
    have hiv : (bits.length : Int) < vals.length := by omega
    repeat (any_goals (first
    | (with_reducible first|refine pureH_in ?_|((refine idGdH ?_); refine gdH_conv fun _=>?_)|((refine idGd ?_); refine zA ?_))
    | ((with_reducible refine idOH ?_); (with_reducible refine oH_of ⟨_, rfl⟩ (fun W0 hW0 => by (refine oM_gen (fun Kv hK => ?_)); simp [go_sem, (hk.next hW0).cells, ((hbW.on hW0).cell hbg).trans g1, ((hbW.on hW0).cell hbcl).trans p0, ((hbW.on hW0).cell hbcl).trans p1, hig]; (first | exact hK _ _ ⟨rfl, rfl⟩ | exact ⟨by omega, hK _ _ ⟨rfl, rfl⟩⟩)) ?_))))
    refine slice_oneH bits.length (by omega) hcap (by omega) ?_
    cases hH : HoldsM s cm [val] with
    | false =>
      refine ⟨Nx, ?_⟩
      apply monoE
      · (intro w9 h9; repeat (intro v9 e9; try (obtain rfl := e9)))
        repeat (any_goals (with_reducible ((refine idGd ?_); refine zA ?_)))
        exact Holds_ok s cm [val] (hs'.next (hk.next h9).below) (hclm'.next (hbW.on h9)) ((hvone _).next (hk.next h9).below) (fun w2 h2 => by rw [hH]; exact ⟨h9.on h2, h2, rfl⟩)
      repeat (apply monoE; focus (intro w9 h9; (repeat (intro v9 e9; try (obtain rfl := e9))); (repeat (any_goals (first
        | (with_reducible first|refine pureM_in ?_|((refine idGd ?_); first|refine zA ?_|refine zD ?_))
        | ((with_reducible refine idO ?_); (with_reducible refine oM_gen fun Kv hK=>?_); simp [go_sem, (hk.next h9).cells]; refine hK _ _ ?_; clear hK; clear Kv)))); exact ⟨h9, Below.refl _ _, rfl⟩))
      (intro w9 h9; repeat (intro v9 e9; try (obtain rfl := e9)))
      repeat (any_goals (with_reducible first|((refine idGd ?_); first|refine zA ?_|refine zD ?_)|((refine idPick ?_); refine yB ?_)))
      exact k _ (hk.next h9).below
    | true =>
      have hfin := hfin hH
      refine ⟨Nx, ?_⟩
      apply monoE
      · (intro w9 h9; repeat (intro v9 e9; try (obtain rfl := e9)))
        repeat (any_goals (with_reducible ((refine idGd ?_); refine zA ?_)))
        exact Holds_ok s cm [val] (hs'.next (hk.next h9).below) (hclm'.next (hbW.on h9)) ((hvone _).next (hk.next h9).below) (fun w2 h2 => by rw [hH]; exact ⟨h9.on h2, h2, rfl⟩)
      repeat (apply monoE; focus (intro w9 h9; (repeat (intro v9 e9; try (obtain rfl := e9))); (repeat (any_goals (first
        | (with_reducible first|refine pureM_in ?_|((refine idGd ?_); first|refine zA ?_|refine zC ?_))
        | ((with_reducible refine idO ?_); (with_reducible refine oM_gen fun Kv hK=>?_); simp [go_sem, (hk.next h9).cells, cvv _ (hk.next h9).below, hiv]; refine hK _ _ ?_; clear hK; clear Kv)))); exact ⟨h9, Below.refl _ _, rfl⟩))
      apply monoE
      · (intro w9 h9; repeat (intro v9 e9; try (obtain rfl := e9)))
        repeat (any_goals (with_reducible ((refine idGd ?_); refine zC ?_)))
        exact Add_ok _ _ _ ⟨h9, Below.refl _ _, rfl⟩
      apply monoE
      · (intro w9 h9; repeat (intro v9 e9; try (obtain rfl := e9)))
        repeat (any_goals (with_reducible ((refine idGd ?_); refine zC ?_)))
        exact Commit_ok s _ _ (hs'.next (hk.next h9).below) hvr (addM_I64 _ _ _) (fun w2 h2 => ⟨h9.on h2, h2, rfl⟩)
      repeat (apply monoE; focus (intro w9 h9; (repeat (intro v9 e9; try (obtain rfl := e9))); (repeat (any_goals (with_reducible first|refine pureM_in ?_|((refine idGd ?_); refine zC ?_)))); exact ⟨h9, Below.refl _ _, rfl⟩))
      (intro w9 h9; repeat (intro v9 e9; try (obtain rfl := e9)))
      repeat (any_goals (first
      | (with_reducible first|((refine idGd ?_); first|refine zA ?_|refine zC ?_)|((refine idPick ?_); first|refine yB ?_|refine yC ?_))
      | ((with_reducible refine idO ?_); (with_reducible refine oM_gen fun Kv hK=>?_); simp [go_sem, hfin]; refine hK _ _ ?_; clear hK; clear Kv)))
      exact k _ (hk.next h9).below
  have ex : bits[i]? = some bits[i] := List.getElem?_eq_getElem (by omega)
  obtain ⟨bw, ow, bv', rfl, hbw, cw, hbb⟩ := hwh'.one (i := i) (by omega)
  unfold BoolR at hbb
  subst hbb
  generalize which[i] = bb at *
  have evi : vals[i]? = some vals[i] := List.getElem?_eq_getElem (by omega)
  obtain ⟨bvv, ovv, rfl, hbvv, cvv, rvv, _⟩ := hvI.at (i := i) (by omega)
  have hvone := fun c2 => ints_one hvI evi c2
  have hsl := fun T => slice_one (T := T) (b := bvv) (o := ovv) (n := vals.length) (c := vc) i (by omega) hcap
  generalize vals[i] = val at *
  obtain ⟨bg, og, rfl, hbg, _, _, hgcell, gcv, rfl, _, hgc⟩ := hgoal.at (i := i) (by rw [eln]; omega)
  have eg : (bits.map (bitC s) ++ [lastC s c (weighM s bits).1])[i]'(by rw [eln]; omega) = bitC s bits[i] := by
    rw [List.getElem_append_left (by rw [List.length_map]; omega), List.getElem_map]
  rw [eg] at hgc
  have g1 := hgcell 1 _ rfl
  generalize bits[i] = x at *
  obtain ⟨cad, cc, rfl⟩ := id hgc.isSlice
  have hgc : SRow 2 (AtOf 2 VClm) w3 (.slice cad 2 cc) [blindedM s x, blindedM s (overG s.g x s.g.G)] := hgc
  have g1 : w3.cell? ⟨bg, og + i * 2 + 1, none⟩ = some (.slice cad 2 cc) := g1
  obtain ⟨jb, hjb, hjbb⟩ : ∃ jb : Nat, jb = (bif bb then 1 else 0) ∧ jb < 2 := ⟨_, rfl, by cases bb <;> simp⟩
  obtain ⟨bcl, ocl, rfl, hbcl, _, _, hccell, ccv, rfl, hclm⟩ := hgc.at (i := jb) hjbb
  obtain ⟨cm, hcm⟩ : ∃ cm, cm = [blindedM s x, blindedM s (overG s.g x s.g.G)][jb] := ⟨_, rfl⟩
  rw [← hcm] at hclm hccell
  have hbit : ∀ h : HoldsM s cm [val] = true, GrLaw.Cg s.g.P x (GrLaw.Ex s.g s.g.G (jb : Int) * GrLaw.Ex s.g s.blind val) := fun h => by
    cases bb with
    | false => subst hjb; subst hcm; exact bit_zero h
    | true => subst hjb; subst hcm; exact bit_one h
  clear hcm
  have hclm' := hclm
  obtain ⟨ead, ec, rfl⟩ := hclm.eqs.isSlice
  have p0 := hccell 0 _ rfl
  have p1 := hccell 1 _ rfl
  simp only [Nat.add_zero] at p0
  have hiw : (i : Int) < which.length := by omega
  have hib : (i : Int) < bits.length := by omega
  have hig : (i : Int) < (bits.length : Int) + 1 := by omega
  repeat (any_goals (first
  | (with_reducible ((refine idCond ?_); refine yN ?_))
  | ((with_reducible refine idO ?_); (with_reducible refine oM_gen fun Kv hK=>?_); simp [go_sem, hk.cells]; refine hK _ _ ?_; clear hK; clear Kv)))
  refine ⟨fun vs w' => vs = [.int .i64 (jb : Int)] ∧ w' = w4, ?_, ?_⟩
  · cases bb with
    | false =>
      subst hjb
      repeat (any_goals (first
      | (with_reducible ((refine idCond ?_); refine yM ?_))
      | ((with_reducible refine idO ?_); (with_reducible refine oM_gen fun Kv hK=>?_); simp [go_sem, hk.cells, (hk.below.cell hbw).trans cw, hiw]; refine hK _ _ ?_; clear hK; clear Kv)))
      exact ⟨rfl, rfl⟩
    | true =>
      subst hjb
      repeat (any_goals (first
      | (with_reducible ((refine idCond ?_); refine yL ?_))
      | ((with_reducible refine idO ?_); (with_reducible refine oM_gen fun Kv hK=>?_); simp [go_sem, hk.cells, (hk.below.cell hbw).trans cw, hiw]; refine hK _ _ ?_; clear hK; clear Kv)))
      exact ⟨rfl, rfl⟩
  rintro _ _ w0' ⟨rfl, e0⟩
  rw [e0]
  clear e0 w0'
  repeat (any_goals (first
  | (with_reducible ((refine idCond ?_); refine yM ?_))
  | ((with_reducible refine idO ?_); (with_reducible refine oM_gen fun Kv hK=>?_); simp [go_sem, hk.cells, (hb4.cell hbg).trans g1, hig]; refine hK _ _ ?_; clear hK; clear Kv)))
  have hk := hk.drew
  have hbW := hb4.on (.drawn (w := w4) (B := w4.heap.size))
  refine ⟨Nx { w4 with drawn := w4.drawn + 1 }, Below.refl _ _, rfl, ?_⟩
  generalize ({ w4 with drawn := w4.drawn + 1 } : World) = W at hk hbW ⊢
  have hjz : (jb : Int) < 2 := by omega
  repeat (any_goals (first
  | (with_reducible refine pureH_in ?_)
  | ((with_reducible refine idOH ?_); (with_reducible refine oH_of ⟨_, rfl⟩ (fun W0 hW0 => by (refine oM_gen (fun Kv hK => ?_)); simp [go_sem, (hk.next hW0).cells, ((hbW.on hW0).cell hbg).trans g1, ((hbW.on hW0).cell hbcl).trans p0, ((hbW.on hW0).cell hbcl).trans p1, hig, hjz]; (first | exact hK _ _ ⟨rfl, rfl⟩ | exact ⟨by omega, hK _ _ ⟨rfl, rfl⟩⟩)) ?_))))
  refine slice_oneH i (by omega) hcap (by omega) ?_
  refine ⟨Nx, fun w5 h5 => ?_⟩
  have hk := hk.next h5
  have hb5 := hbW.on h5
  refine Holds_ok s cm [val] (hs'.next hk.below) (hclm'.next hb5) ((hvone _).next hk.below) (fun w6 h6 => ?_)
  have hk := hk.next h6
  have hb6 := hb5.on h6
  cases hH : HoldsM s cm [val] with
  | false =>
    repeat (any_goals (first
    | (with_reducible ((refine idCond ?_); refine yL ?_))
    | ((with_reducible refine idO ?_); (with_reducible refine oM_gen fun Kv hK=>?_); simp [go_sem]; refine hK _ _ ?_; clear hK; clear Kv)))
    exact k _ hk.below
  | true =>
  have hbit := hbit hH
  have hj01 : (jb : Int) = 0 ∨ (jb : Int) = 1 := by omega
  have hjp : 0 ≤ (jb : Int) * 2 ^ i ∧ (jb : Int) * 2 ^ i ≤ 2 ^ i := by rcases hj01 with h | h <;> rw [h] <;> omega
  iterate 2 (any_goals (first
  | (with_reducible ((refine idCond ?_); refine yM ?_))
  | ((with_reducible refine idO ?_); (with_reducible refine oM_gen fun Kv hK=>?_); simp [go_sem]; refine hK _ _ ?_; clear hK; clear Kv)))
  refine shlB hj01 (by omega) ?_
  have hstepB := sumB_snoc Bt.b l 0 ⟨x, jb, val⟩
  have hstepV := sumB_snoc Bt.v l 0 ⟨x, jb, val⟩
  simp only [Nat.zero_add, hll] at hstepB hstepV
  rw [← hlv] at hstepB
  have hpow : (2 : Int) ^ (i + 1) = 2 * 2 ^ i := by rw [Int.pow_succ]; omega
  generalize (jb : Int) * 2 ^ i = jp at *
  repeat (any_goals ((with_reducible refine idO ?_); (with_reducible refine oM_gen fun Kv hK=>?_); simp [go_sem]; (try simp (disch := omega) only [wrapI64, wrapU8, wrapU32, wrapU64]); refine hK _ _ ?_; clear hK; clear Kv))
  have hk := hk.drew
  have hbW := hb6.on (.drawn (w := w6) (B := w6.heap.size))
  refine ⟨Nx { w6 with drawn := w6.drawn + 1 }, Below.refl _ _, rfl, ?_⟩
  generalize ({ w6 with drawn := w6.drawn + 1 } : World) = W2 at hk hbW ⊢
  have hiv : (i : Int) < vals.length := by omega
  repeat (any_goals (first
  | (with_reducible refine pureH_in ?_)
  | ((with_reducible refine idOH ?_); (with_reducible refine oH_of ⟨_, rfl⟩ (fun W0 hW0 => by (refine oM_gen (fun Kv hK => ?_)); simp [go_sem, (hk.next hW0).cells, cvv _ (hk.next hW0).below, hiv]; (first | exact hK _ _ ⟨rfl, rfl⟩ | exact ⟨by omega, hK _ _ ⟨rfl, rfl⟩⟩)) ?_))))
  refine shlH (by omega) ?_
  refine ⟨Nx, ?_⟩
  apply monoE
  · intro w1 h1
    exact Mul_ok _ _ _ (fun w2 h2 => ⟨h1.on h2, h2, rfl⟩)
  rintro w9 h9 _ rfl
  refine Add_ok _ _ _ ?_
  repeat (any_goals ((with_reducible refine idO ?_); (with_reducible refine oM_gen fun Kv hK=>?_); simp [go_sem]; (try simp (disch := omega) only [wrapI64, wrapU8, wrapU32, wrapU64]); refine hK _ _ ?_; clear hK; clear Kv))
  refine ⟨⟨hbW.on h9, _, i + 1, l ++ [⟨x, jb, val⟩], v + jp, _, rfl, by omega, by simp [hll], ?_, ?_, by rw [hstepB], ?_, by omega, by omega⟩, by show bits.length - (((i + 1 : Nat) : Int)).toNat < bits.length - ((i : Nat) : Int).toNat; omega⟩
  · rw [List.map_append, hlx, List.take_add_one, ex]
    rfl
  · intro t ht
    rcases List.mem_append.1 ht with ht | ht
    · exact hlc t ht
    · simp only [List.mem_singleton] at ht
      subst ht
      exact hbit
  · rw [hstepV]
    unfold addM mulM
    rw [if_pos hokQ, if_pos hokQ, Int.emod_emod_of_dvd _ (Int.dvd_refl _), Int.add_emod_emod, Int.add_emod, hlr, ← Int.add_emod]
end
end Go.Proofs
