/- Parts of the proof of the seat's statements (LawKit, OpenKit, OpenKit2, JKz, JK2z, JOz): lemmas about the given translation and plain laws. No condition of their own. -/
import Derived.Test.YtefjibjojkjiiaaGreatDoorJnd
import Derived.ProofKit
import Derived.LaidMore
import Derived.OpenShut
import Derived.Carry
import Derived.SizedLaws
import Derived.Stop.Joined
import Derived.Deep.Slices
import Derived.Deep.Fields
import Derived.LaidSub
import Derived.Test.YtefjibjojkjiiaaGreatDoorRows
import Derived.Test.YtefjibjojkjiiaaGreatDoorCards
import Derived.Test.YtefjibjojkjiiaaGreatDoorTie
import Derived.SevenTiedAt
set_option linter.all false
namespace Go.Sh
open Go Go.ChangeShapes Go.WideShapes Go.ChangeAt Go.RowKit
section
variable {H : Type} {enc : TypeId × Value → H} {P : Program}
theorem trodAll_below (hl : laidOutB P = true) {W W' : World} (hb : Below W.heap.size W W') :
    ∀ (ts : List TypeId) (vs : List Value) (ds : List (DataW H)) (ps : List MemPlace), (ts.all fun t => P.readableRec t && decide (t < P.types.size)) = true →
    DataW.TrodAll enc P W 0 (fun _ => true) true ts vs ds ps → (∀ x ∈ ps, x.block < W.heap.size) → DataW.TrodAll enc P W' 0 (fun b => decide (b < W.heap.size)) true ts vs ds ps
  | [], [], [], _, _, h, _ => h
  | t :: ts, v :: vs, d :: ds, ps, ht, h, hlt => by
    obtain ⟨p, q, h1, h2, rfl⟩ := h
    simp only [List.all_cons, Bool.and_eq_true, decide_eq_true_eq] at ht
    exact ⟨p, q, Below.trod hl ht.1.1 ht.1.2 h1 hb (fun x hx => hlt x (by simp [hx])), trodAll_below hl hb ts vs ds q ht.2 h2 (fun x hx => hlt x (by simp [hx])), rfl⟩
  | [], _ :: _, _, _, _, h, _ => h.elim
  | [], [], _ :: _, _, _, h, _ => h.elim
  | _ :: _, [], _, _, _, h, _ => h.elim
  | _ :: _, _ :: _, [], _, _, h, _ => h.elim
theorem trodAll_length {W : World} {b : Nat} {sp : Nat → Bool} {hd : Bool} : ∀ (ts : List TypeId) (vs : List Value) (ds : List (DataW H)) (ps : List MemPlace), DataW.TrodAll enc P W b sp hd ts vs ds ps → ds.length = ts.length ∧ vs.length = ts.length
  | [], [], [], _, _ => ⟨rfl, rfl⟩
  | t :: ts, v :: vs, d :: ds, ps, h => by
    obtain ⟨p, q, h1, h2, rfl⟩ := h
    have := trodAll_length ts vs ds q h2
    simp [this]
  | [], _ :: _, _, _, h => h.elim
  | [], [], _ :: _, _, h => h.elim
  | _ :: _, [], _, _, h => h.elim
  | _ :: _, _ :: _, [], _, h => h.elim
theorem trodL_cons {W : World} {b : Nat} {sp : Nat → Bool} {hd : Bool} {t : TypeId} {ts : List TypeId} {vs : List Value} {ds : List (DataW H)} {ps : List MemPlace} (h : DataW.TrodAll enc P W b sp hd (t :: ts) vs ds ps) :
    ∃ v d vs' ds' p q, vs = v :: vs' ∧ ds = d :: ds' ∧ DataW.Trod enc P W b sp hd t v d p ∧ DataW.TrodAll enc P W b sp hd ts vs' ds' q ∧ ps = p ++ q := by
  match vs, ds, h with
  | v :: vs, d :: ds, h =>
    obtain ⟨p, q, h1, h2, rfl⟩ := h
    exact ⟨v, d, vs, ds, p, q, rfl, rfl, h1, h2, rfl⟩
  | [], _, h => exact h.elim
  | _ :: _, [], h => exact h.elim
theorem trodL0 {W : World} {b : Nat} {sp : Nat → Bool} {hd : Bool} {vs : List Value} {ds : List (DataW H)} {ps : List MemPlace} (h : DataW.TrodAll enc P W b sp hd [] vs ds ps) : vs = [] ∧ ds = [] ∧ ps = [] := by
  match vs, ds, h with
  | [], [], h => exact ⟨rfl, rfl, h⟩
theorem law_post {fn : Func} {s : ChangeSpec} {tb : TypeId} {apart : Bool} {W W' : World} {args : Array Value} {ds gs : List (DataW H)} {before : List MemPlace} (hl : laidOutB P = true)
    (hrt : fn.resultTypes = #[tb]) (hub : P.underlying tb = some .bool) (hpar : (fn.params.toList.all fun t => P.readableRec t && decide (t < P.types.size)) = true) (hvars : s.vars = [])
    (hspec : ∀ ds : List (DataW H), ds.length = fn.params.toList.length → s.fn H ds = { results := [.lit (.bool true)], args := ds })
    (hW : DataW.Whole enc P fn.params.toList s.vars apart W args.toList ds gs before) (hb : Below W.heap.size W W') : s.post enc P fn apart true false false W args (.bool true) W' := by
  have hW0 := hW
  have hlt := hW.lt
  obtain ⟨p, q, hA, hV, rfl, _, _⟩ := hW
  rw [hvars] at hV
  obtain ⟨rfl, rfl⟩ := trodVars_none hV
  have hlen := (trodAll_length _ _ _ _ hA).1
  have hs := hspec ds hlen
  rw [List.append_nil] at hlt hW0
  refine ⟨ds, [], p, [], p, [], hW0, ?_, ?_, ?_, hb.frame _, fun h => by cases h⟩
  · rw [List.append_nil, hs, hrt]
    exact trodAll_mk1 (shut_bool hub true)
  · rw [List.append_nil, hs]
    exact trodAll_below hl hb _ _ _ _ hpar hA hlt
  · rw [hvars, List.append_nil, hs]
    rfl
theorem law_lifted_laid {C : Checked} {os : Os} {f : FuncId} {fn : Func} {s : ChangeSpec} {tb : TypeId} {L : List (String × DataW Unit)} (own : ownKnob C.prog.godebug = none) (started : os.Started) (noInit : C.prog.inits.idxOf? f = none) (hfn : C.prog.funcs[f]? = some fn)
    (hl : laidOutB C.prog = true) (hrt : fn.resultTypes = #[tb]) (hub : C.prog.underlying tb = some .bool) (hpar : (fn.params.toList.all fun t => C.prog.readableRec t && decide (t < C.prog.types.size)) = true) (hvars : s.vars = [])
    (hspec : ∀ ds : List (DataW H), ds.length = fn.params.toList.length → s.fn H ds = { results := [.lit (.bool true)], args := ds })
    (witness : ∃ (w : World) (tape : Tape) (i : Input), w.os = os ∧ (w.forCall tape i).Shaped C.prog ∧ i.vars = [] ∧ Input.okWide C.prog (w.forCall tape i) .any w.heap.size f i ∧
      ((s.pre enc C.prog fn [] false (w.forCall tape i).memory i.args ∧ laidMetH C.prog L (w.forCall tape i).memory) ∧ sizedMet enc C.prog fn (OpenSpec.ofChange s) false (w.forCall tape i).memory i.args) ∧ ({} : Assume).holds C.prog (lone (Frame.enter C.prog f i.args .normal) [] (w.forCall tape i)))
    (contract : ∀ (W : World) (base : Nat) (args : List Value) (ds : List (DataW H)) (p : List MemPlace), (∀ (j : Nat) t v, fn.params.toList[j]? = some t → args[j]? = some v → Value.okWide C.prog W .any base t v) →
      DataW.TrodAll enc C.prog W 0 (fun _ => true) true fn.params.toList args ds p → (DataW.weightsEach C.prog fn.params.toList ds).all (· ≤ reachBytes) = true → (∀ x ∈ p, x.block < W.heap.size) →
      laidMetH C.prog L W →
      callM C.prog f args.toArray (fun v W' => v = .bool true ∧ Below W.heap.size W W') W) :
    ReturnsInHanded {} C os f .any (fun w args => (s.pre enc C.prog fn [] false w args ∧ laidMetH C.prog L w) ∧ sizedMet enc C.prog fn (OpenSpec.ofChange s) false w args)
      (s.post enc C.prog fn false true false false) := by
  refine returnsInHanded_of_change_and (X := fun w _ => laidMetH C.prog L w) (fun _ _ _ hh h => h.of_heap hh) own started noInit hfn witness ?_
  intro W base args ds gs before hval hW _ hsz hX _
  have hW0 := hW
  have hlt := hW.lt
  obtain ⟨p, q, hA, hV, rfl, _, _⟩ := hW
  rw [hvars] at hV
  obtain ⟨rfl, rfl⟩ := trodVars_none hV
  have hsz' : (DataW.weightsEach C.prog fn.params.toList ds).all (· ≤ reachBytes) = true := by
    simpa [hvars, ChangeSpec.plain, DataSpec.varTypes] using hsz
  have hc := contract W base args.toList ds p (fun j t v h1 h2 => hval j t v (by simpa using h1) (by simpa using h2)) hA hsz' (fun x hx => hlt x (by simp [hx])) hX
  refine hc.mono fun e W' h => ?_
  obtain ⟨v, rfl, rfl, hb⟩ := h
  exact ⟨_, rfl, law_post hl hrt hub hpar hvars hspec hW0 hb⟩
end
end Go.Sh
namespace Go.Sh
open Go Go.ChangeShapes Go.WideShapes Go.ChangeAt Go.RowKit Go.Deep
section
variable {H : Type} {enc : TypeId × Value → H} {P : Program} {w : World} {sp : Nat → Bool} {hd : Bool}
theorem addr_add' (b o k : Nat) : (⟨b, o, none⟩ : Addr).add k = ⟨b, o + k, none⟩ := by
  unfold Addr.add
  split
  · rename_i h; rw [h]; rfl
  · rfl
theorem cell_lt {a : Addr} {v : Value} (h : w.cell? a = some v) : a.block < w.heap.size ∧ a.spot = none := by
  unfold World.cell? at h
  split at h
  · rename_i c t f hh
    refine ⟨(Array.getElem?_eq_some_iff.1 hh).1, ?_⟩
    split at h
    · cases h
    · rename_i hs
      cases hsp : a.spot with
      | none => rfl
      | some x => rw [hsp] at hs; exact absurd rfl hs
  · cases h
theorem open_elems {b0 : Nat} {t e : TypeId} {v : Value} {d : DataW H} {ps : List MemPlace} (ht : P.underlying t = some (.slice e)) (hC : 0 < P.cellsOf e) (hval : Value.okWide P w .any b0 t v) (h : DataW.Trod enc P w 0 sp hd t v d ps) :
    ∃ a len cap, v = .slice a len cap ∧ len ≤ cap ∧ cap ≤ maxLen ∧ (0 < len → ∃ b o, a = some ⟨b, o, none⟩ ∧ b < w.heap.size ∧
      ∀ i, i < len → ∃ (cs : List Value) (D : DataW H × List MemPlace) (n : Nat), cs.length = P.cellsOf e ∧ (∀ j, j < P.cellsOf e → w.cell? ⟨b, o + i * P.cellsOf e + j, none⟩ = cs[j]?) ∧ DataW.trod enc P w 0 sp hd n e cs = some D) := by
  obtain ⟨a, len, cap, rfl⟩ := okWide_slice ht hval
  obtain ⟨fuel, hf⟩ := h
  rcases open_slice ht hf with ⟨hcs, _⟩ | ⟨a', len', cap', m, n, D, Pl, hcs, _, hl, hm, hmm, _, hi⟩
  · simp only [Value.cells, List.cons.injEq, Value.slice.injEq, and_true] at hcs
    obtain ⟨rfl, rfl, rfl⟩ := hcs
    exact ⟨none, 0, 0, rfl, Nat.le_refl _, Nat.zero_le _, fun h => absurd h (by omega)⟩
  · simp only [Value.cells, List.cons.injEq, Value.slice.injEq, and_true] at hcs
    obtain ⟨rfl, rfl, rfl⟩ := hcs
    refine ⟨_, _, _, rfl, hl, hm, fun hpos => ?_⟩
    have hml : len ≤ m := by rw [hmm]; split <;> omega
    obtain ⟨cs0, hc0, _⟩ := hi 0 (by omega)
    obtain ⟨_, hl0, h0⟩ := World.cells?_some hc0
    have h00 := h0 0 hC
    rw [Nat.zero_mul] at h00
    have e0 : (a'.add 0).add 0 = a' := by simp [Addr.add]
    rw [e0, List.getElem?_eq_getElem (by omega)] at h00
    obtain ⟨hb, hs⟩ := cell_lt h00
    obtain ⟨b, o, s⟩ := a'
    simp only at hs hb
    subst hs
    refine ⟨b, o, rfl, hb, fun i hil => ?_⟩
    obtain ⟨cs, hc, ht2⟩ := hi i (by omega)
    obtain ⟨_, hcl, hat⟩ := World.cells?_some hc
    refine ⟨cs, _, n, hcl, fun j hj => ?_, ht2⟩
    have := hat j hj
    rw [addr_add', addr_add'] at this
    exact this
theorem open_fields {e : TypeId} {fs : Array Field} {n : Nat} {cs : List Value} {D : DataW H × List MemPlace} (he : P.underlying e = some (.struct fs)) (hone : oneCellFields P fs = true) (hC : P.cellsOf e = fs.size)
    (h : DataW.trod enc P w 0 sp hd n e cs = some D) :
    cs.length = fs.size ∧ ∀ (j : Nat) (f : Field), fs[j]? = some f → ∃ (v : Value) (y : DataW H × List MemPlace) (m : Nat), cs[j]? = some v ∧ DataW.trod enc P w 0 sp hd m f.type [v] = some y := by
  obtain ⟨xs, m, _, _, hcl, hxl, hf⟩ := DataW.trod_struct he h
  rw [hC] at hcl
  refine ⟨hcl, fun j f hj => ?_⟩
  obtain ⟨ho, hk⟩ := hone_of hone j f hj
  have hjl : j < fs.size := (Array.getElem?_eq_some_iff.1 hj).1
  have h1 := hf j f hj
  rw [ho, hk, List.drop_eq_getElem_cons (by omega), List.getElem?_eq_getElem (by omega : j < xs.length)] at h1
  exact ⟨_, _, m, List.getElem?_eq_getElem (by omega), h1⟩
end
end Go.Sh
namespace Go.Sh
open Go Go.ChangeShapes Go.WideShapes Go.ChangeAt Go.RowKit Go.Deep
section
variable {H : Type} {enc : TypeId × Value → H} {P : Program} {w : World} {sp : Nat → Bool} {hd : Bool}
theorem rowOpen {α : Type} (mk : α → Value) (Q : α → Prop) {t e : TypeId} {v : Value} {n : Nat} {D : DataW H × List MemPlace} (ht : P.underlying t = some (.slice e)) (hC : P.cellsOf e = 1)
    (hrd : ∀ (V : Value) (n : Nat) (D : DataW H × List MemPlace), DataW.trod enc P w 0 sp hd n e [V] = some D → ∃ x, V = mk x ∧ Q x) (h : DataW.trod enc P w 0 sp hd n t [v] = some D) :
    ∃ l : List α, (∃ ad c, v = .slice ad l.length c ∧ (l = [] ∨ ∃ b o, ad = some ⟨b, o, none⟩ ∧ b < w.heap.size ∧ ∀ (i : Nat) (h : i < l.length), w.cell? ⟨b, o + i, none⟩ = some (mk l[i]))) ∧ l.length ≤ maxLen ∧ ∀ x ∈ l, Q x := by
  rcases open_slice1 ht hC h with ⟨hcs, _⟩ | ⟨a', len, cap, m, n', V, D', Pl, hcs, _, hl, hm, hmm, _, hi⟩
  · simp only [List.cons.injEq, and_true] at hcs
    subst hcs
    exact ⟨[], ⟨none, 0, rfl, .inl rfl⟩, by simp, by simp⟩
  · simp only [List.cons.injEq, and_true] at hcs
    subst hcs
    have hml : len ≤ m := by rw [hmm]; split <;> omega
    have key : ∀ i : Fin len, ∃ x, V i = mk x ∧ Q x := fun i => hrd _ _ _ (hi i (by have := i.2; omega)).2
    refine ⟨List.ofFn (fun i => (key i).choose), ⟨some a', cap, by rw [List.length_ofFn], ?_⟩, by rw [List.length_ofFn]; omega, ?_⟩
    · by_cases h0 : len = 0
      · left; subst h0; rfl
      · right
        have h00 := (hi 0 (by omega)).1
        have e0 : a'.add 0 = a' := by simp [Addr.add]
        rw [e0] at h00
        obtain ⟨hb, hs⟩ := cell_lt h00
        obtain ⟨b, o, s⟩ := a'
        simp only at hs hb
        subst hs
        refine ⟨b, o, rfl, hb, fun i hil => ?_⟩
        rw [List.length_ofFn] at hil
        have h1 := (hi i (by omega)).1
        rw [addr_add'] at h1
        rw [h1, List.getElem_ofFn]
        have := (key ⟨i, hil⟩).choose_spec.1
        exact congrArg some this
    · intro x hx
      rw [List.mem_ofFn] at hx
      obtain ⟨i, rfl⟩ := hx
      exact (key i).choose_spec.2
theorem trodIface {t : TypeId} {ms : Array (String × TypeId)} {cs : List Value} {n : Nat} {nm : String} {d : DataW H} {ps : List MemPlace} (ht : P.underlying t = some (.interface ms)) (h : DataW.trod enc P w 0 sp false n t cs = some (.iface nm d, ps)) : ∃ u v, cs = [.iface u v] := by
  cases n with
  | zero => simp [DataW.trod] at h
  | succ n =>
    unfold DataW.trod at h
    rw [ht] at h
    match cs, h with
    | [.iface u v], _ => exact ⟨u, v, rfl⟩
    | [.nilIface], h => simp at h
    | [], h => simp at h
    | [.int _ _], h => simp at h
    | [.bool _], h => simp at h
    | [.string _], h => simp at h
    | [.pointer _], h => simp at h
    | [.slice _ _ _], h => simp at h
    | [.map _], h => simp at h
    | [.float _ _], h => simp at h
    | [.complex _ _ _], h => simp at h
    | [.agg _], h => simp at h
    | [.tuple _], h => simp at h
    | [.func _ _ _], h => simp at h
    | [.nilFunc], h => simp at h
    | [.chan _], h => simp at h
    | _ :: _ :: _, h => simp at h
end
end Go.Sh
namespace Go.Proofs.Cd
open Go Go.Proofs Go.Sh Go.RowKit Go.Lib CodeSpec Go.ChangeShapes Go.WideShapes Go.ChangeAt
set_option linter.unusedSimpArgs false
set_option maxRecDepth 100000
abbrev laidList : List (String × DataW Unit) := YtefjibjojkjiiaaGreatDoor.Rows.baseJournalRow.laid
abbrev lname (i : Nat) : String := (laidList.map (·.1)).getD i default
theorem var_of_laid {W : World} {nm : String} {d : DataW Unit} (hf : (laidList.filter fun x => x.1 == nm) = [(nm, d)]) (h : laidMetH Tryz.prog laidList W) : laidMet Tryz.prog [(nm, d)] W := by
  rw [MakeChecks.laidMetH_plain _ _ _ (by kernel_rfl)] at h
  have := h.filter (fun x => x.1 == nm)
  rwa [hf] at this
theorem tab_laid {W : World} (h : laidMetH Tryz.prog laidList W) : TabIs Tryz.prog W tabName .u64 pow10Tab :=
  tabIs_of_head (rest := []) (t := 141) (e := 129) (n := 20) gTab (by kernel_rfl) Tryz.underlying141 Tryz.underlying129 (by kernel_rfl) (by kernel_rfl)
    (var_of_laid (d := tabData .u64 pow10Tab) (by kernel_rfl) h)
theorem err_laid {W : World} {nm : String} {x : DataW Unit} {g : Nat} (hg : Tryz.prog.globalNamed nm = some g) (hty : (Tryz.prog.globals[g]?).map (·.type) = some 112) (hf : (laidList.filter fun x => x.1 == nm) = [(nm, x)]) (hx : ∃ nt d, x = .iface nt d) (h : laidMetH Tryz.prog laidList W) :
    ∃ te pe, W.cell? ⟨g, 0, none⟩ = some (.iface te pe) := by
  obtain ⟨nt, d, rfl⟩ := hx
  obtain ⟨ps, ⟨g0, t0, cs0, f0, p0, q0, hg0, ht0, hv0, hd0, _, _⟩, _, _⟩ := var_of_laid hf h
  obtain rfl := Option.some.inj (hg.symm.trans hg0)
  obtain rfl := Option.some.inj (hty.symm.trans ht0)
  obtain ⟨u, y, hcs⟩ := trodIface Tryz.underlying112 hd0
  have := World.var?_cell hg hv0 0
  refine ⟨u, y, ?_⟩
  rw [this]
  have e : cs0[0]? = cs0.toList[0]? := by simp
  rw [e, hcs]; rfl
theorem laid_of {W : World} (h : laidMetH Tryz.prog laidList W) (hW : 6 ≤ W.heap.size) : Laid W :=
  ⟨tab_laid h, err_laid (nm := lname 4) (x := YtefjibjojkjiiaaGreatDoor.Rows.laid_strconv_ErrSyntax) (by kernel_rfl) (by kernel_rfl) (by kernel_rfl) ⟨_, _, rfl⟩ h, err_laid (nm := lname 3) (x := YtefjibjojkjiiaaGreatDoor.Rows.laid_strconv_ErrRange) (by kernel_rfl) (by kernel_rfl) (by kernel_rfl) ⟨_, _, rfl⟩ h, hW⟩
end Go.Proofs.Cd
namespace Go.Proofs.Cd
open Go Go.Proofs Go.Sh Go.RowKit Go.Lib CodeSpec Go.ChangeShapes Go.WideShapes Go.ChangeAt
set_option linter.unusedSimpArgs false
set_option maxRecDepth 100000
theorem own : ownKnob Tryz.prog.godebug = none := by kernel_rfl
theorem laidOut : laidOutB Tryz.prog = true := by kernel_rfl
theorem door_met (os : Os) (args : Array Value) : laidMetH Tryz.prog laidList ((World.doorLaid Tryz.prog 400 os).forCall (fun _ _ => 0) ⟨#[], args, []⟩).memory :=
  laidMetH_of_parts3 (fuel := 8) (laidMet_of_run' 8 (by kernel_rfl) (by kernel_rfl)) (by kernel_rfl) (by kernel_rfl)
theorem heap6 {W : World} (h : laidMetH Tryz.prog laidList W) : 6 ≤ W.heap.size := by
  obtain ⟨ps, ⟨g0, t0, cs0, f0, p0, q0, hg0, ht0, hv0, hd0, _, _⟩, _, _⟩ := var_of_laid (nm := lname 1) (d := YtefjibjojkjiiaaGreatDoor.Rows.laid_math_bits_deBruijn64tab) (by kernel_rfl) h
  have hg : Tryz.prog.globalNamed (lname 1) = some 5 := by kernel_rfl
  unfold World.var? at hv0
  rw [hg] at hv0
  simp only [Option.bind_some] at hv0
  split at hv0
  · rename_i cs t f hh
    have := (Array.getElem?_eq_some_iff.1 hh).1
    omega
  · cases hv0
section
variable {H : Type} {enc : TypeId × Value → H} {w : World} {sp : Nat → Bool} {hd : Bool}
end
end Go.Proofs.Cd
namespace Go.Proofs
open Go Go.Sh Go.RowKit CodeSpec JnSpec DkSpec Go.ChangeShapes Go.WideShapes Go.ChangeAt Go.Deep
set_option linter.unusedSimpArgs false
set_option maxRecDepth 100000
theorem inN {n : Int} (h : (Lit.int .i64 n).wf = true) : InN n := by
  simp only [Lit.wf, Bool.and_eq_true, decide_eq_true_eq] at h
  have h1 : IntKind.i64.min = -2 ^ 63 := by decide
  have h2 : IntKind.i64.max = 2 ^ 63 - 1 := by decide
  rw [h1, h2] at h
  exact ⟨h.1, by have := h.2; omega⟩
section
variable {H : Type} {enc : TypeId × Value → H} {w : World} {sp : Nat → Bool} {hd : Bool}
theorem rowOpen2 {P : Program} {α : Type} (mk : α → Value) (Q : α → Prop) {t e : TypeId} {v : Value} {n : Nat} {D : DataW H × List MemPlace} (ht : P.underlying t = some (.slice e)) (hC : P.cellsOf e = 1)
    (hrd : ∀ (V : Value) (n : Nat) (D : DataW H × List MemPlace), DataW.trod enc P w 0 sp hd n e [V] = some D → ∃ x, V = mk x ∧ Q x) (h : DataW.trod enc P w 0 sp hd n t [v] = some D) :
    ∃ l : List α, RowN (fun x => [mk x]) w.heap.size w v l ∧ l.length ≤ maxLen ∧ ∀ x ∈ l, Q x := by
  have h' := h
  obtain ⟨l, ⟨ad, c, rfl, h1⟩, h2, h3⟩ := rowOpen mk Q ht hC hrd h
  refine ⟨l, ⟨ad, c, rfl, ?_, h1.imp id ?_⟩, h2, h3⟩
  · intro hn
    subst hn
    rcases open_slice1 ht hC h' with ⟨hcs, _⟩ | ⟨a', len, cap, m, n', V, D', Pl, hcs, _⟩
    · simp only [List.cons.injEq, and_true, Value.slice.injEq] at hcs
      exact ⟨hcs.2.1, hcs.2.2⟩
    · simp only [List.cons.injEq, and_true, Value.slice.injEq] at hcs
      cases hcs.1
  · rintro ⟨b, o, rfl, hb, hc⟩
    refine ⟨b, o, rfl, hb, fun k x hk => ?_⟩
    rw [show flat (fun x => [mk x]) l = l.map mk from flat_one mk l] at hk
    obtain ⟨hlt, hx⟩ := List.getElem?_eq_some_iff.1 hk
    rw [List.length_map] at hlt
    rw [hc k hlt, ← hx, List.getElem_map]
theorem open_ints {v : Value} {n : Nat} {D : DataW H × List MemPlace} (h : DataW.trod enc Tryz.prog w 0 sp hd n 36 [v] = some D) : ∃ l : List Int, RowN intC w.heap.size w v l ∧ ∀ x ∈ l, InN x := by
  obtain ⟨l, h1, h2, h3⟩ := rowOpen2 i64V InN Tryz.underlying36 (by kernel_rfl) (fun V n D h => by
    obtain ⟨k, e, _, hw⟩ := DataW.trod_int Tryz.underlying3 h
    simp only [List.cons.injEq, and_true] at e
    exact ⟨k, e, inN hw⟩) h
  exact ⟨l, h1, h3⟩
theorem baOf (s : ByteArray) : s = ⟨s.data.toList.toArray⟩ := by simp
theorem op_of_trod {cs : List Value} {n : Nat} {D : DataW H × List MemPlace} (h : DataW.trod enc Tryz.prog w 0 sp hd n 38 cs = some D) : ∃ x, OpCells w.heap.size w cs x ∧ cs.length = 4 := by
  obtain ⟨hcl, hf⟩ := open_fields Tryz.underlying38 (by kernel_rfl) (by kernel_rfl) h
  obtain ⟨v0, y0, m0, c0, f0⟩ := hf 0 _ rfl
  obtain ⟨v1, y1, m1, c1, f1⟩ := hf 1 _ rfl
  obtain ⟨v2, y2, m2, c2, f2⟩ := hf 2 _ rfl
  obtain ⟨v3, y3, m3, c3, f3⟩ := hf 3 _ rfl
  obtain ⟨k0, e0, _, w0⟩ := DataW.trod_int Tryz.underlying3 f0
  obtain ⟨s1, e1, _, w1⟩ := DataW.trod_string Tryz.underlying9 f1
  obtain ⟨k2, e2, _, w2⟩ := DataW.trod_int Tryz.underlying3 f2
  obtain ⟨l3, r3, q3⟩ := open_ints f3
  simp only [List.cons.injEq, and_true] at e0 e1 e2
  have h4 : cs.length = 4 := hcl
  refine ⟨⟨k0, s1.data.toList, k2, l3⟩, ⟨⟨v3, ?_, r3⟩, inN w0, inN w2, q3⟩, h4⟩
  match cs, h4 with
  | [x0, x1, x2, x3], _ =>
    simp only [List.getElem?_cons_zero, List.getElem?_cons_succ, Option.some.injEq] at c0 c1 c2 c3
    rw [c0, c1, c2, c3, e0, e1, e2, bsV, ← baOf]
theorem cellsOp : Tryz.prog.cellsOf 38 = 4 := by kernel_rfl
theorem open_ops {b0 : Nat} {v : Value} {d : DataW H} {ps : List MemPlace} (hval : Value.okWide Tryz.prog w .any b0 22 v) (h : DataW.Trod enc Tryz.prog w 0 sp hd 22 v d ps) : ∃ l, OpRow w.heap.size w v l ∧ l.length ≤ 9223372036854775807 := by
  obtain ⟨a, len, cap, rfl, hl, hm, hel⟩ := open_elems Tryz.underlying22 (by rw [cellsOp]; decide) hval h
  have key : ∀ i : Fin len, ∃ x : JOp, ∀ b o, a = some ⟨b, o, none⟩ → ∃ cs, OpCells w.heap.size w cs x ∧ cs.length = 4 ∧ ∀ j, j < 4 → w.cell? ⟨b, o + i * 4 + j, none⟩ = cs[j]? := by
    intro i
    obtain ⟨b, o, rfl, hb, hes⟩ := hel (by have := i.2; omega)
    obtain ⟨cs, D, n, hcl, hcells, ht⟩ := hes i i.2
    obtain ⟨x, hx, h4⟩ := op_of_trod ht
    refine ⟨x, fun b' o' hbo => ?_⟩
    simp only [Option.some.injEq, Addr.mk.injEq, and_true] at hbo
    obtain ⟨rfl, rfl⟩ := hbo
    rw [cellsOp] at hcells
    exact ⟨cs, hx, h4, hcells⟩
  refine ⟨List.ofFn (fun i => (key i).choose), ⟨a, cap, by rw [List.length_ofFn], ?_⟩, ?_⟩
  · by_cases h0 : len = 0
    · left; subst h0; rfl
    · right
      obtain ⟨b, o, rfl, hb, _⟩ := hel (by omega)
      refine ⟨b, o, rfl, hb, fun i hil => ?_⟩
      rw [List.length_ofFn] at hil
      rw [List.getElem_ofFn]
      exact (key ⟨i, hil⟩).choose_spec b o rfl
  · rw [List.length_ofFn]
    unfold maxLen at hm
    omega
end
end Go.Proofs
