/- Parts of the proof of the seat's statements (LawKit, OpenKit, OpenKit2, JKr, JK2r, JOr): lemmas about the given translation and plain laws. No condition of their own. -/
import Derived.Test.YtefjibjojkjiiaaDoorRcf
import Derived.ProofKit
import Derived.LaidMore
import Derived.OpenShut
import Derived.Carry
import Derived.SizedLaws
import Derived.Stop.Joined
import Derived.Deep.Slices
import Derived.Deep.Fields
import Derived.LaidSub
import Derived.Test.YtefjibjojkjiiaaDoorRows
import Derived.Test.YtefjibjojkjiiaaDoorCards
import Derived.Test.YtefjibjojkjiiaaDoorTie
import Derived.SevenTiedAt
set_option linter.all false
namespace Go.Sh
open Go Go.ChangeShapes Go.WideShapes Go.ChangeAt Go.RowKit
section
variable {H : Type} {enc : TypeId × Value → H} {P : Program}
theorem trodAll_below (hl : laidOutB P = true) {W W' : World} (hb : Below W.heap.size W W') :
    ∀ (ts : List TypeId) (vs : List Value) (ds : List (DataW H)) (ps : List MemPlace), (ts.all fun t => P.readableRec t && decide (t < P.types.size)) = true →
    DataW.TrodAll enc P W 0 (fun _ => true) true ts vs ds ps → (∀ x ∈ ps, x.block < W.heap.size) → DataW.TrodAll enc P W' 0 (fun b => decide (b < W.heap.size)) true ts vs ds ps
  | [], [], [], _, _, h, _ => h
  | t :: ts, v :: vs, d :: ds, ps, ht, h, hlt => by
    obtain ⟨p, q, h1, h2, rfl⟩ := h
    simp only [List.all_cons, Bool.and_eq_true, decide_eq_true_eq] at ht
    exact ⟨p, q, Below.trod hl ht.1.1 ht.1.2 h1 hb (fun x hx => hlt x (by simp [hx])), trodAll_below hl hb ts vs ds q ht.2 h2 (fun x hx => hlt x (by simp [hx])), rfl⟩
  | [], _ :: _, _, _, _, h, _ => h.elim
  | [], [], _ :: _, _, _, h, _ => h.elim
  | _ :: _, [], _, _, _, h, _ => h.elim
  | _ :: _, _ :: _, [], _, _, h, _ => h.elim
theorem trodAll_length {W : World} {b : Nat} {sp : Nat → Bool} {hd : Bool} : ∀ (ts : List TypeId) (vs : List Value) (ds : List (DataW H)) (ps : List MemPlace), DataW.TrodAll enc P W b sp hd ts vs ds ps → ds.length = ts.length ∧ vs.length = ts.length
  | [], [], [], _, _ => ⟨rfl, rfl⟩
  | t :: ts, v :: vs, d :: ds, ps, h => by
    obtain ⟨p, q, h1, h2, rfl⟩ := h
    have := trodAll_length ts vs ds q h2
    simp [this]
  | [], _ :: _, _, _, h => h.elim
  | [], [], _ :: _, _, h => h.elim
  | _ :: _, [], _, _, h => h.elim
  | _ :: _, _ :: _, [], _, h => h.elim
theorem trodL_cons {W : World} {b : Nat} {sp : Nat → Bool} {hd : Bool} {t : TypeId} {ts : List TypeId} {vs : List Value} {ds : List (DataW H)} {ps : List MemPlace} (h : DataW.TrodAll enc P W b sp hd (t :: ts) vs ds ps) :
    ∃ v d vs' ds' p q, vs = v :: vs' ∧ ds = d :: ds' ∧ DataW.Trod enc P W b sp hd t v d p ∧ DataW.TrodAll enc P W b sp hd ts vs' ds' q ∧ ps = p ++ q := by
  match vs, ds, h with
  | v :: vs, d :: ds, h =>
    obtain ⟨p, q, h1, h2, rfl⟩ := h
    exact ⟨v, d, vs, ds, p, q, rfl, rfl, h1, h2, rfl⟩
  | [], _, h => exact h.elim
  | _ :: _, [], h => exact h.elim
theorem trodL0 {W : World} {b : Nat} {sp : Nat → Bool} {hd : Bool} {vs : List Value} {ds : List (DataW H)} {ps : List MemPlace} (h : DataW.TrodAll enc P W b sp hd [] vs ds ps) : vs = [] ∧ ds = [] ∧ ps = [] := by
  match vs, ds, h with
  | [], [], h => exact ⟨rfl, rfl, h⟩
theorem law_post {fn : Func} {s : ChangeSpec} {tb : TypeId} {apart : Bool} {W W' : World} {args : Array Value} {ds gs : List (DataW H)} {before : List MemPlace} (hl : laidOutB P = true)
    (hrt : fn.resultTypes = #[tb]) (hub : P.underlying tb = some .bool) (hpar : (fn.params.toList.all fun t => P.readableRec t && decide (t < P.types.size)) = true) (hvars : s.vars = [])
    (hspec : ∀ ds : List (DataW H), ds.length = fn.params.toList.length → s.fn H ds = { results := [.lit (.bool true)], args := ds })
    (hW : DataW.Whole enc P fn.params.toList s.vars apart W args.toList ds gs before) (hb : Below W.heap.size W W') : s.post enc P fn apart true false false W args (.bool true) W' := by
  have hW0 := hW
  have hlt := hW.lt
  obtain ⟨p, q, hA, hV, rfl, _, _⟩ := hW
  rw [hvars] at hV
  obtain ⟨rfl, rfl⟩ := trodVars_none hV
  have hlen := (trodAll_length _ _ _ _ hA).1
  have hs := hspec ds hlen
  rw [List.append_nil] at hlt hW0
  refine ⟨ds, [], p, [], p, [], hW0, ?_, ?_, ?_, hb.frame _, fun h => by cases h⟩
  · rw [List.append_nil, hs, hrt]
    exact trodAll_mk1 (shut_bool hub true)
  · rw [List.append_nil, hs]
    exact trodAll_below hl hb _ _ _ _ hpar hA hlt
  · rw [hvars, List.append_nil, hs]
    rfl
theorem law_lifted_laid {C : Checked} {os : Os} {f : FuncId} {fn : Func} {s : ChangeSpec} {tb : TypeId} {L : List (String × DataW Unit)} (own : ownKnob C.prog.godebug = none) (started : os.Started) (noInit : C.prog.inits.idxOf? f = none) (hfn : C.prog.funcs[f]? = some fn)
    (hl : laidOutB C.prog = true) (hrt : fn.resultTypes = #[tb]) (hub : C.prog.underlying tb = some .bool) (hpar : (fn.params.toList.all fun t => C.prog.readableRec t && decide (t < C.prog.types.size)) = true) (hvars : s.vars = [])
    (hspec : ∀ ds : List (DataW H), ds.length = fn.params.toList.length → s.fn H ds = { results := [.lit (.bool true)], args := ds })
    (witness : ∃ (w : World) (tape : Tape) (i : Input), w.os = os ∧ (w.forCall tape i).Shaped C.prog ∧ i.vars = [] ∧ Input.okWide C.prog (w.forCall tape i) .any w.heap.size f i ∧
      ((s.pre enc C.prog fn [] false (w.forCall tape i).memory i.args ∧ laidMetH C.prog L (w.forCall tape i).memory) ∧ sizedMet enc C.prog fn (OpenSpec.ofChange s) false (w.forCall tape i).memory i.args) ∧ ({} : Assume).holds C.prog (lone (Frame.enter C.prog f i.args .normal) [] (w.forCall tape i)))
    (contract : ∀ (W : World) (base : Nat) (args : List Value) (ds : List (DataW H)) (p : List MemPlace), (∀ (j : Nat) t v, fn.params.toList[j]? = some t → args[j]? = some v → Value.okWide C.prog W .any base t v) →
      DataW.TrodAll enc C.prog W 0 (fun _ => true) true fn.params.toList args ds p → (DataW.weightsEach C.prog fn.params.toList ds).all (· ≤ reachBytes) = true → (∀ x ∈ p, x.block < W.heap.size) →
      laidMetH C.prog L W →
      callM C.prog f args.toArray (fun v W' => v = .bool true ∧ Below W.heap.size W W') W) :
    ReturnsInHanded {} C os f .any (fun w args => (s.pre enc C.prog fn [] false w args ∧ laidMetH C.prog L w) ∧ sizedMet enc C.prog fn (OpenSpec.ofChange s) false w args)
      (s.post enc C.prog fn false true false false) := by
  refine returnsInHanded_of_change_and (X := fun w _ => laidMetH C.prog L w) (fun _ _ _ hh h => h.of_heap hh) own started noInit hfn witness ?_
  intro W base args ds gs before hval hW _ hsz hX _
  have hW0 := hW
  have hlt := hW.lt
  obtain ⟨p, q, hA, hV, rfl, _, _⟩ := hW
  rw [hvars] at hV
  obtain ⟨rfl, rfl⟩ := trodVars_none hV
  have hsz' : (DataW.weightsEach C.prog fn.params.toList ds).all (· ≤ reachBytes) = true := by
    simpa [hvars, ChangeSpec.plain, DataSpec.varTypes] using hsz
  have hc := contract W base args.toList ds p (fun j t v h1 h2 => hval j t v (by simpa using h1) (by simpa using h2)) hA hsz' (fun x hx => hlt x (by simp [hx])) hX
  refine hc.mono fun e W' h => ?_
  obtain ⟨v, rfl, rfl, hb⟩ := h
  exact ⟨_, rfl, law_post hl hrt hub hpar hvars hspec hW0 hb⟩
end
end Go.Sh
namespace Go.Sh
open Go Go.ChangeShapes Go.WideShapes Go.ChangeAt Go.RowKit Go.Deep
section
variable {H : Type} {enc : TypeId × Value → H} {P : Program} {w : World} {sp : Nat → Bool} {hd : Bool}
theorem addr_add' (b o k : Nat) : (⟨b, o, none⟩ : Addr).add k = ⟨b, o + k, none⟩ := by
  unfold Addr.add
  split
  · rename_i h; rw [h]; rfl
  · rfl
theorem cell_lt {a : Addr} {v : Value} (h : w.cell? a = some v) : a.block < w.heap.size ∧ a.spot = none := by
  unfold World.cell? at h
  split at h
  · rename_i c t f hh
    refine ⟨(Array.getElem?_eq_some_iff.1 hh).1, ?_⟩
    split at h
    · cases h
    · rename_i hs
      cases hsp : a.spot with
      | none => rfl
      | some x => rw [hsp] at hs; exact absurd rfl hs
  · cases h
theorem open_elems {b0 : Nat} {t e : TypeId} {v : Value} {d : DataW H} {ps : List MemPlace} (ht : P.underlying t = some (.slice e)) (hC : 0 < P.cellsOf e) (hval : Value.okWide P w .any b0 t v) (h : DataW.Trod enc P w 0 sp hd t v d ps) :
    ∃ a len cap, v = .slice a len cap ∧ len ≤ cap ∧ cap ≤ maxLen ∧ (0 < len → ∃ b o, a = some ⟨b, o, none⟩ ∧ b < w.heap.size ∧
      ∀ i, i < len → ∃ (cs : List Value) (D : DataW H × List MemPlace) (n : Nat), cs.length = P.cellsOf e ∧ (∀ j, j < P.cellsOf e → w.cell? ⟨b, o + i * P.cellsOf e + j, none⟩ = cs[j]?) ∧ DataW.trod enc P w 0 sp hd n e cs = some D) := by
  obtain ⟨a, len, cap, rfl⟩ := okWide_slice ht hval
  obtain ⟨fuel, hf⟩ := h
  rcases open_slice ht hf with ⟨hcs, _⟩ | ⟨a', len', cap', m, n, D, Pl, hcs, _, hl, hm, hmm, _, hi⟩
  · simp only [Value.cells, List.cons.injEq, Value.slice.injEq, and_true] at hcs
    obtain ⟨rfl, rfl, rfl⟩ := hcs
    exact ⟨none, 0, 0, rfl, Nat.le_refl _, Nat.zero_le _, fun h => absurd h (by omega)⟩
  · simp only [Value.cells, List.cons.injEq, Value.slice.injEq, and_true] at hcs
    obtain ⟨rfl, rfl, rfl⟩ := hcs
    refine ⟨_, _, _, rfl, hl, hm, fun hpos => ?_⟩
    have hml : len ≤ m := by rw [hmm]; split <;> omega
    obtain ⟨cs0, hc0, _⟩ := hi 0 (by omega)
    obtain ⟨_, hl0, h0⟩ := World.cells?_some hc0
    have h00 := h0 0 hC
    rw [Nat.zero_mul] at h00
    have e0 : (a'.add 0).add 0 = a' := by simp [Addr.add]
    rw [e0, List.getElem?_eq_getElem (by omega)] at h00
    obtain ⟨hb, hs⟩ := cell_lt h00
    obtain ⟨b, o, s⟩ := a'
    simp only at hs hb
    subst hs
    refine ⟨b, o, rfl, hb, fun i hil => ?_⟩
    obtain ⟨cs, hc, ht2⟩ := hi i (by omega)
    obtain ⟨_, hcl, hat⟩ := World.cells?_some hc
    refine ⟨cs, _, n, hcl, fun j hj => ?_, ht2⟩
    have := hat j hj
    rw [addr_add', addr_add'] at this
    exact this
theorem open_fields {e : TypeId} {fs : Array Field} {n : Nat} {cs : List Value} {D : DataW H × List MemPlace} (he : P.underlying e = some (.struct fs)) (hone : oneCellFields P fs = true) (hC : P.cellsOf e = fs.size)
    (h : DataW.trod enc P w 0 sp hd n e cs = some D) :
    cs.length = fs.size ∧ ∀ (j : Nat) (f : Field), fs[j]? = some f → ∃ (v : Value) (y : DataW H × List MemPlace) (m : Nat), cs[j]? = some v ∧ DataW.trod enc P w 0 sp hd m f.type [v] = some y := by
  obtain ⟨xs, m, _, _, hcl, hxl, hf⟩ := DataW.trod_struct he h
  rw [hC] at hcl
  refine ⟨hcl, fun j f hj => ?_⟩
  obtain ⟨ho, hk⟩ := hone_of hone j f hj
  have hjl : j < fs.size := (Array.getElem?_eq_some_iff.1 hj).1
  have h1 := hf j f hj
  rw [ho, hk, List.drop_eq_getElem_cons (by omega), List.getElem?_eq_getElem (by omega : j < xs.length)] at h1
  exact ⟨_, _, m, List.getElem?_eq_getElem (by omega), h1⟩
end
end Go.Sh
namespace Go.Sh
open Go Go.ChangeShapes Go.WideShapes Go.ChangeAt Go.RowKit Go.Deep
section
variable {H : Type} {enc : TypeId × Value → H} {P : Program} {w : World} {sp : Nat → Bool} {hd : Bool}
theorem rowOpen {α : Type} (mk : α → Value) (Q : α → Prop) {t e : TypeId} {v : Value} {n : Nat} {D : DataW H × List MemPlace} (ht : P.underlying t = some (.slice e)) (hC : P.cellsOf e = 1)
    (hrd : ∀ (V : Value) (n : Nat) (D : DataW H × List MemPlace), DataW.trod enc P w 0 sp hd n e [V] = some D → ∃ x, V = mk x ∧ Q x) (h : DataW.trod enc P w 0 sp hd n t [v] = some D) :
    ∃ l : List α, (∃ ad c, v = .slice ad l.length c ∧ (l = [] ∨ ∃ b o, ad = some ⟨b, o, none⟩ ∧ b < w.heap.size ∧ ∀ (i : Nat) (h : i < l.length), w.cell? ⟨b, o + i, none⟩ = some (mk l[i]))) ∧ l.length ≤ maxLen ∧ ∀ x ∈ l, Q x := by
  rcases open_slice1 ht hC h with ⟨hcs, _⟩ | ⟨a', len, cap, m, n', V, D', Pl, hcs, _, hl, hm, hmm, _, hi⟩
  · simp only [List.cons.injEq, and_true] at hcs
    subst hcs
    exact ⟨[], ⟨none, 0, rfl, .inl rfl⟩, by simp, by simp⟩
  · simp only [List.cons.injEq, and_true] at hcs
    subst hcs
    have hml : len ≤ m := by rw [hmm]; split <;> omega
    have key : ∀ i : Fin len, ∃ x, V i = mk x ∧ Q x := fun i => hrd _ _ _ (hi i (by have := i.2; omega)).2
    refine ⟨List.ofFn (fun i => (key i).choose), ⟨some a', cap, by rw [List.length_ofFn], ?_⟩, by rw [List.length_ofFn]; omega, ?_⟩
    · by_cases h0 : len = 0
      · left; subst h0; rfl
      · right
        have h00 := (hi 0 (by omega)).1
        have e0 : a'.add 0 = a' := by simp [Addr.add]
        rw [e0] at h00
        obtain ⟨hb, hs⟩ := cell_lt h00
        obtain ⟨b, o, s⟩ := a'
        simp only at hs hb
        subst hs
        refine ⟨b, o, rfl, hb, fun i hil => ?_⟩
        rw [List.length_ofFn] at hil
        have h1 := (hi i (by omega)).1
        rw [addr_add'] at h1
        rw [h1, List.getElem_ofFn]
        have := (key ⟨i, hil⟩).choose_spec.1
        exact congrArg some this
    · intro x hx
      rw [List.mem_ofFn] at hx
      obtain ⟨i, rfl⟩ := hx
      exact (key i).choose_spec.2
theorem trodIface {t : TypeId} {ms : Array (String × TypeId)} {cs : List Value} {n : Nat} {nm : String} {d : DataW H} {ps : List MemPlace} (ht : P.underlying t = some (.interface ms)) (h : DataW.trod enc P w 0 sp false n t cs = some (.iface nm d, ps)) : ∃ u v, cs = [.iface u v] := by
  cases n with
  | zero => simp [DataW.trod] at h
  | succ n =>
    unfold DataW.trod at h
    rw [ht] at h
    match cs, h with
    | [.iface u v], _ => exact ⟨u, v, rfl⟩
    | [.nilIface], h => simp at h
    | [], h => simp at h
    | [.int _ _], h => simp at h
    | [.bool _], h => simp at h
    | [.string _], h => simp at h
    | [.pointer _], h => simp at h
    | [.slice _ _ _], h => simp at h
    | [.map _], h => simp at h
    | [.float _ _], h => simp at h
    | [.complex _ _ _], h => simp at h
    | [.agg _], h => simp at h
    | [.tuple _], h => simp at h
    | [.func _ _ _], h => simp at h
    | [.nilFunc], h => simp at h
    | [.chan _], h => simp at h
    | _ :: _ :: _, h => simp at h
end
end Go.Sh
namespace Go.Proofs.Cd
open Go Go.Proofs Go.Sh Go.RowKit Go.Lib CodeSpec Go.ChangeShapes Go.WideShapes Go.ChangeAt
set_option linter.unusedSimpArgs false
set_option maxRecDepth 100000
abbrev laidList : List (String × DataW Unit) := YtefjibjojkjiiaaDoor.Rows.baseRecoversRow.laid
abbrev lname (i : Nat) : String := (laidList.map (·.1)).getD i default
theorem var_of_laid {W : World} {nm : String} {d : DataW Unit} (hf : (laidList.filter fun x => x.1 == nm) = [(nm, d)]) (h : laidMetH Tryd.prog laidList W) : laidMet Tryd.prog [(nm, d)] W := by
  rw [MakeChecks.laidMetH_plain _ _ _ (by kernel_rfl)] at h
  have := h.filter (fun x => x.1 == nm)
  rwa [hf] at this
theorem tab_laid {W : World} (h : laidMetH Tryd.prog laidList W) : TabIs Tryd.prog W tabName .u64 pow10Tab :=
  tabIs_of_head (rest := []) (t := 142) (e := 126) (n := 20) gTab (by kernel_rfl) Tryd.underlying142 Tryd.underlying126 (by kernel_rfl) (by kernel_rfl)
    (var_of_laid (d := tabData .u64 pow10Tab) (by kernel_rfl) h)
theorem err_laid {W : World} {nm : String} {x : DataW Unit} {g : Nat} (hg : Tryd.prog.globalNamed nm = some g) (hty : (Tryd.prog.globals[g]?).map (·.type) = some 109) (hf : (laidList.filter fun x => x.1 == nm) = [(nm, x)]) (hx : ∃ nt d, x = .iface nt d) (h : laidMetH Tryd.prog laidList W) :
    ∃ te pe, W.cell? ⟨g, 0, none⟩ = some (.iface te pe) := by
  obtain ⟨nt, d, rfl⟩ := hx
  obtain ⟨ps, ⟨g0, t0, cs0, f0, p0, q0, hg0, ht0, hv0, hd0, _, _⟩, _, _⟩ := var_of_laid hf h
  obtain rfl := Option.some.inj (hg.symm.trans hg0)
  obtain rfl := Option.some.inj (hty.symm.trans ht0)
  obtain ⟨u, y, hcs⟩ := trodIface Tryd.underlying109 hd0
  have := World.var?_cell hg hv0 0
  refine ⟨u, y, ?_⟩
  rw [this]
  have e : cs0[0]? = cs0.toList[0]? := by simp
  rw [e, hcs]; rfl
theorem laid_of {W : World} (h : laidMetH Tryd.prog laidList W) (hW : 6 ≤ W.heap.size) : Laid W :=
  ⟨tab_laid h, err_laid (nm := lname 4) (x := YtefjibjojkjiiaaDoor.Rows.laid_strconv_ErrSyntax) (by kernel_rfl) (by kernel_rfl) (by kernel_rfl) ⟨_, _, rfl⟩ h, err_laid (nm := lname 3) (x := YtefjibjojkjiiaaDoor.Rows.laid_strconv_ErrRange) (by kernel_rfl) (by kernel_rfl) (by kernel_rfl) ⟨_, _, rfl⟩ h, hW⟩
end Go.Proofs.Cd
namespace Go.Proofs.Cd
open Go Go.Proofs Go.Sh Go.RowKit Go.Lib CodeSpec Go.ChangeShapes Go.WideShapes Go.ChangeAt
set_option linter.unusedSimpArgs false
set_option maxRecDepth 100000
theorem ba_len (s : ByteArray) : s.data.toList.length = s.size := by simp
theorem own : ownKnob Tryd.prog.godebug = none := by kernel_rfl
theorem laidOut : laidOutB Tryd.prog = true := by kernel_rfl
theorem door_met (os : Os) (args : Array Value) : laidMetH Tryd.prog laidList ((World.doorLaid Tryd.prog 400 os).forCall (fun _ _ => 0) ⟨#[], args, []⟩).memory :=
  laidMetH_of_parts3 (fuel := 8) (laidMet_of_run' 8 (by kernel_rfl) (by kernel_rfl)) (by kernel_rfl) (by kernel_rfl)
theorem intR {n : Int} (h : (Lit.int .i64 n).wf = true) : InR n := by
  simp only [Lit.wf, Bool.and_eq_true, decide_eq_true_eq] at h
  exact h
theorem heap6 {W : World} (h : laidMetH Tryd.prog laidList W) : 6 ≤ W.heap.size := by
  obtain ⟨ps, ⟨g0, t0, cs0, f0, p0, q0, hg0, ht0, hv0, hd0, _, _⟩, _, _⟩ := var_of_laid (nm := lname 1) (d := YtefjibjojkjiiaaDoor.Rows.laid_math_bits_deBruijn64tab) (by kernel_rfl) h
  have hg : Tryd.prog.globalNamed (lname 1) = some 5 := by kernel_rfl
  unfold World.var? at hv0
  rw [hg] at hv0
  simp only [Option.bind_some] at hv0
  split at hv0
  · rename_i cs t f hh
    have := (Array.getElem?_eq_some_iff.1 hh).1
    omega
  · cases hv0
section
variable {H : Type} {enc : TypeId × Value → H} {w : World} {sp : Nat → Bool} {hd : Bool}
theorem open_nums {v : Value} {n : Nat} {D : DataW H × List MemPlace} (h : DataW.trod enc Tryd.prog w 0 sp hd n 22 [v] = some D) : ∃ l : List Int, RowOf intV w v l ∧ l.length ≤ 9223372036854775807 ∧ ∀ x ∈ l, InR x := by
  obtain ⟨l, h1, h2, h3⟩ := rowOpen intV InR Tryd.underlying22 (by kernel_rfl) (fun V n D h => by
    obtain ⟨k, e, _, hw⟩ := DataW.trod_int Tryd.underlying3 h
    simp only [List.cons.injEq, and_true] at e
    exact ⟨k, e, intR hw⟩) h
  exact ⟨l, h1, h2, h3⟩
theorem open_texts {v : Value} {n : Nat} {D : DataW H × List MemPlace} (h : DataW.trod enc Tryd.prog w 0 sp hd n 23 [v] = some D) : ∃ l : List (List UInt8), RowOf strV w v l ∧ l.length ≤ 9223372036854775807 ∧ ∀ x ∈ l, x.length ≤ 9223372036854775807 := by
  obtain ⟨l, h1, h2, h3⟩ := rowOpen strV (fun x => x.length ≤ 9223372036854775807) Tryd.underlying23 (by kernel_rfl) (fun V n D h => by
    obtain ⟨s, e, _, hs⟩ := DataW.trod_string Tryd.underlying9 h
    simp only [List.cons.injEq, and_true] at e
    exact ⟨s.data.toList, by rw [e, strV, ← ba_of], by rw [ba_len]; exact hs⟩) h
  exact ⟨l, h1, h2, h3⟩
theorem val_of_trod {cs : List Value} {n : Nat} {D : DataW H × List MemPlace} (h : DataW.trod enc Tryd.prog w 0 sp hd n 25 cs = some D) : ∃ x, ValCells w cs x ∧ cs.length = 5 := by
  obtain ⟨hcl, hf⟩ := open_fields Tryd.underlying25 (by kernel_rfl) (by kernel_rfl) h
  obtain ⟨v0, y0, m0, c0, f0⟩ := hf 0 _ rfl
  obtain ⟨v1, y1, m1, c1, f1⟩ := hf 1 _ rfl
  obtain ⟨v2, y2, m2, c2, f2⟩ := hf 2 _ rfl
  obtain ⟨v3, y3, m3, c3, f3⟩ := hf 3 _ rfl
  obtain ⟨v4, y4, m4, c4, f4⟩ := hf 4 _ rfl
  obtain ⟨k0, e0, _, w0⟩ := DataW.trod_int Tryd.underlying3 f0
  obtain ⟨k1, e1, _, w1⟩ := DataW.trod_int Tryd.underlying3 f1
  obtain ⟨s2, e2, _, w2⟩ := DataW.trod_string Tryd.underlying9 f2
  obtain ⟨l3, r3, n3, q3⟩ := open_nums f3
  obtain ⟨l4, r4, n4, q4⟩ := open_texts f4
  simp only [List.cons.injEq, and_true] at e0 e1 e2
  have h5 : cs.length = 5 := hcl
  refine ⟨⟨k0, k1, s2.data.toList, l3, l4⟩, ⟨⟨v3, v4, ?_, r3, r4⟩, intR w0, intR w1, q3, by rw [ba_len]; exact w2, n3, n4, q4⟩, h5⟩
  match cs, h5 with
  | [x0, x1, x2, x3, x4], _ =>
    simp only [List.getElem?_cons_zero, List.getElem?_cons_succ, Option.some.injEq] at c0 c1 c2 c3 c4
    rw [c0, c1, c2, c3, c4, e0, e1, e2, ← ba_of]
theorem cells25 : Tryd.prog.cellsOf 25 = 5 := by kernel_rfl
theorem open_vals {b0 : Nat} {v : Value} {d : DataW H} {ps : List MemPlace} (hval : Value.okWide Tryd.prog w .any b0 28 v) (h : DataW.Trod enc Tryd.prog w 0 sp hd 28 v d ps) : ∃ l, ValRow w v l := by
  obtain ⟨a, len, cap, rfl, hl, hm, hel⟩ := open_elems Tryd.underlying28 (by rw [cells25]; decide) hval h
  have key : ∀ i : Fin len, ∃ x : Val, ∀ b o, a = some ⟨b, o, none⟩ → ∃ cs, ValCells w cs x ∧ cs.length = 5 ∧ ∀ j, j < 5 → w.cell? ⟨b, o + 5 * i + j, none⟩ = cs[j]? := by
    intro i
    obtain ⟨b, o, rfl, hb, hes⟩ := hel (by have := i.2; omega)
    obtain ⟨cs, D, n, hcl, hcells, ht⟩ := hes i i.2
    obtain ⟨x, hx, h5⟩ := val_of_trod ht
    refine ⟨x, fun b' o' hbo => ?_⟩
    simp only [Option.some.injEq, Addr.mk.injEq, and_true] at hbo
    obtain ⟨rfl, rfl⟩ := hbo
    rw [cells25] at hcells
    exact ⟨cs, hx, h5, fun j hj => by rw [Nat.mul_comm 5]; exact hcells j hj⟩
  refine ⟨List.ofFn (fun i => (key i).choose), a, cap, by rw [List.length_ofFn], ?_⟩
  by_cases h0 : len = 0
  · left; subst h0; rfl
  · right
    obtain ⟨b, o, rfl, hb, _⟩ := hel (by omega)
    refine ⟨b, o, rfl, hb, fun i hil => ?_⟩
    rw [List.length_ofFn] at hil
    rw [List.getElem_ofFn]
    exact (key ⟨i, hil⟩).choose_spec b o rfl
end
end Go.Proofs.Cd
namespace Go.Proofs
open Go Go.Sh Go.RowKit CodeSpec JnSpec DkSpec Go.ChangeShapes Go.WideShapes Go.ChangeAt Go.Deep
set_option linter.unusedSimpArgs false
set_option maxRecDepth 100000
open Cd (Val ValCells ValRow)
theorem inN {n : Int} (h : (Lit.int .i64 n).wf = true) : -2 ^ 63 ≤ n ∧ n < 2 ^ 63 := by
  simp only [Lit.wf, Bool.and_eq_true, decide_eq_true_eq] at h
  have h1 : IntKind.i64.min = -2 ^ 63 := by decide
  have h2 : IntKind.i64.max = 2 ^ 63 - 1 := by decide
  rw [h1, h2] at h
  exact ⟨h.1, by have := h.2; omega⟩
theorem inU {n : Int} (h : (Lit.int .u8 n).wf = true) : 0 ≤ n ∧ n < 256 := by
  simp only [Lit.wf, Bool.and_eq_true, decide_eq_true_eq] at h
  have h1 : IntKind.u8.min = 0 := by decide
  have h2 : IntKind.u8.max = 255 := by decide
  rw [h1, h2] at h
  exact ⟨h.1, by have := h.2; omega⟩
section
variable {H : Type} {enc : TypeId × Value → H} {w : World} {sp : Nat → Bool} {hd : Bool}
theorem rowOpen2 {P : Program} {α : Type} (mk : α → Value) (Q : α → Prop) {t e : TypeId} {v : Value} {n : Nat} {D : DataW H × List MemPlace} (ht : P.underlying t = some (.slice e)) (hC : P.cellsOf e = 1)
    (hrd : ∀ (V : Value) (n : Nat) (D : DataW H × List MemPlace), DataW.trod enc P w 0 sp hd n e [V] = some D → ∃ x, V = mk x ∧ Q x) (h : DataW.trod enc P w 0 sp hd n t [v] = some D) :
    ∃ l : List α, RowN (fun x => [mk x]) w.heap.size w v l ∧ l.length ≤ maxLen ∧ ∀ x ∈ l, Q x := by
  have h' := h
  obtain ⟨l, ⟨ad, c, rfl, h1⟩, h2, h3⟩ := rowOpen mk Q ht hC hrd h
  refine ⟨l, ⟨ad, c, rfl, ?_, h1.imp id ?_⟩, h2, h3⟩
  · intro hn
    subst hn
    rcases open_slice1 ht hC h' with ⟨hcs, _⟩ | ⟨a', len, cap, m, n', V, D', Pl, hcs, _⟩
    · simp only [List.cons.injEq, and_true, Value.slice.injEq] at hcs
      exact ⟨hcs.2.1, hcs.2.2⟩
    · simp only [List.cons.injEq, and_true, Value.slice.injEq] at hcs
      cases hcs.1
  · rintro ⟨b, o, rfl, hb, hc⟩
    refine ⟨b, o, rfl, hb, fun k x hk => ?_⟩
    rw [show flat (fun x => [mk x]) l = l.map mk from flat_one mk l] at hk
    obtain ⟨hlt, hx⟩ := List.getElem?_eq_some_iff.1 hk
    rw [List.length_map] at hlt
    rw [hc k hlt, ← hx, List.getElem_map]
theorem open_ints {v : Value} {n : Nat} {D : DataW H × List MemPlace} (h : DataW.trod enc Tryd.prog w 0 sp hd n 22 [v] = some D) : ∃ l : List Int, RowN intC w.heap.size w v l ∧ ∀ x ∈ l, -2 ^ 63 ≤ x ∧ x < 2 ^ 63 := by
  obtain ⟨l, h1, h2, h3⟩ := rowOpen2 i64V (fun x => -2 ^ 63 ≤ x ∧ x < 2 ^ 63) Tryd.underlying22 (by kernel_rfl) (fun V n D h => by
    obtain ⟨k, e, _, hw⟩ := DataW.trod_int Tryd.underlying3 h
    simp only [List.cons.injEq, and_true] at e
    exact ⟨k, e, inN hw⟩) h
  exact ⟨l, h1, h3⟩
theorem open_keep {b0 : Nat} {v : Value} {d : DataW H} {ps : List MemPlace} (hval : Value.okWide Tryd.prog w .any b0 22 v) (h : DataW.Trod enc Tryd.prog w 0 sp hd 22 v d ps) : ∃ l : List Int, RowN intC w.heap.size w v l ∧ ∀ x ∈ l, -2 ^ 63 ≤ x ∧ x < 2 ^ 63 := by
  obtain ⟨a, n, c, rfl⟩ := okWide_slice Tryd.underlying22 hval
  obtain ⟨fu, hf⟩ := h
  exact open_ints hf
theorem open_caps {P : Program} {b0 : Nat} {t e : TypeId} {v : Value} {d : DataW H} {ps : List MemPlace} (ht : P.underlying t = some (.slice e)) (hval : Value.okWide P w .any b0 t v) (h : DataW.Trod enc P w 0 sp hd t v d ps) :
    (∀ a n c, v = .slice a n c → n ≤ c) ∧ ∀ n c, v = .slice none n c → n = 0 ∧ c = 0 := by
  obtain ⟨a, len, cap, rfl⟩ := okWide_slice ht hval
  obtain ⟨fuel, hf⟩ := h
  rcases open_slice ht hf with ⟨hcs, _⟩ | ⟨a', len', cap', m, n, D, Pl, hcs, _, hl, hm, hmm, _, hi⟩
  · simp only [Value.cells, List.cons.injEq, Value.slice.injEq, and_true] at hcs
    obtain ⟨rfl, rfl, rfl⟩ := hcs
    exact ⟨fun a n c e => by cases e; exact Nat.le_refl _, fun n c e => by cases e; exact ⟨rfl, rfl⟩⟩
  · simp only [Value.cells, List.cons.injEq, Value.slice.injEq, and_true] at hcs
    obtain ⟨rfl, rfl, rfl⟩ := hcs
    exact ⟨fun a n c e => by cases e; exact hl, fun n c e => by cases e⟩
theorem argC_of {v : Value} {l : List Val} (hr : ValRow w v l) (hcap : ∀ a n c, v = .slice a n c → n ≤ c) (hnone : ∀ n c, v = .slice none n c → n = 0 ∧ c = 0) : ArgC w v l := by
  obtain ⟨ad, c, rfl, hc⟩ := hr
  have hle := hcap _ _ _ rfl
  rcases hc with rfl | ⟨b, o, rfl, hb, hcells⟩
  · exact ⟨ad, c, fun _ => List.replicate 5 undef, rfl, hle, fun i => by simp, fun i h => by simp at h, fun e => by subst e; exact hnone _ _ rfl, fun h => by simp at h⟩
  · obtain ⟨mk, hmk⟩ : ∃ mk : Nat → List Value, mk = fun i => if h : i < l.length then (hcells i h).choose else List.replicate 5 undef := ⟨_, rfl⟩
    have h3 : ∀ i, (mk i).length = 5 := fun i => by
      rw [hmk]; dsimp only
      split
      · rename_i h; exact (hcells i h).choose_spec.2.1
      · simp
    refine ⟨_, c, mk, rfl, hle, h3, fun i hi => ?_, (fun e => by cases e), fun h0 => ⟨b, o, rfl, hb, fun k x hx => ?_⟩⟩
    · rw [hmk]; dsimp only; rw [dif_pos hi]
      exact (hcells i hi).choose_spec.1
    · have hlt := (List.getElem?_eq_some_iff.1 hx).1
      rw [flat_length h3, List.length_range] at hlt
      have hi : k / 5 < l.length := by omega
      have hf := flat_range h3 (n := l.length) hi (j := k % 5) (by omega)
      have e5 : 5 * (k / 5) + k % 5 = k := by omega
      rw [e5, hx] at hf
      have := (hcells (k / 5) hi).choose_spec.2.2 (k % 5) (by omega)
      have em : mk (k / 5) = (hcells (k / 5) hi).choose := by rw [hmk]; dsimp only; rw [dif_pos hi]
      rw [← em, ← hf] at this
      have e6 : o + 5 * (k / 5) + k % 5 = o + k := by omega
      rw [e6] at this
      exact this
theorem open_valsC {b0 : Nat} {v : Value} {d : DataW H} {ps : List MemPlace} (hval : Value.okWide Tryd.prog w .any b0 28 v) (h : DataW.Trod enc Tryd.prog w 0 sp hd 28 v d ps) : ∃ l, ValRow w v l ∧ ArgC w v l := by
  obtain ⟨l, hr⟩ := Cd.open_vals hval h
  obtain ⟨h1, h2⟩ := open_caps Tryd.underlying28 hval h
  exact ⟨l, hr, argC_of hr h1 h2⟩
end
end Go.Proofs
