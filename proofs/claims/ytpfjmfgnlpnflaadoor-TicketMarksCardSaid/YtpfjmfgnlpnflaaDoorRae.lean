/- Parts of the proof of the seat's statements (LawKit, OpenKit, OpenKit2, LKd): lemmas about the given translation and plain laws. No condition of their own. -/
import Derived.Test.YtpfjmfgnlpnflaaDoorRad
import Derived.ProofKit
import Derived.LaidMore
import Derived.OpenShut
import Derived.Carry
import Derived.SizedLaws
import Derived.Stop.Joined
import Derived.Deep.Slices
import Derived.Deep.Fields
import Derived.LaidSub
import Derived.Test.YtpfjmfgnlpnflaaDoorRows
import Derived.Test.YtpfjmfgnlpnflaaDoorCards
import Derived.Test.YtpfjmfgnlpnflaaDoorTie
import Derived.SevenTiedAt
set_option linter.all false
set_option maxRecDepth 100000
namespace Go.Sh
open Go Go.ChangeShapes Go.WideShapes Go.ChangeAt Go.RowKit
section
variable {H : Type} {enc : TypeId × Value → H} {P : Program}
theorem trodAll_below (hl : laidOutB P = true) {W W' : World} (hb : Below W.heap.size W W') :
    ∀ (ts : List TypeId) (vs : List Value) (ds : List (DataW H)) (ps : List MemPlace), (ts.all fun t => P.readableRec t && decide (t < P.types.size)) = true →
    DataW.TrodAll enc P W 0 (fun _ => true) true ts vs ds ps → (∀ x ∈ ps, x.block < W.heap.size) → DataW.TrodAll enc P W' 0 (fun b => decide (b < W.heap.size)) true ts vs ds ps
  | [], [], [], _, _, h, _ => h
  | t :: ts, v :: vs, d :: ds, ps, ht, h, hlt => by
    obtain ⟨p, q, h1, h2, rfl⟩ := h
    simp only [List.all_cons, Bool.and_eq_true, decide_eq_true_eq] at ht
    exact ⟨p, q, Below.trod hl ht.1.1 ht.1.2 h1 hb (fun x hx => hlt x (by simp [hx])), trodAll_below hl hb ts vs ds q ht.2 h2 (fun x hx => hlt x (by simp [hx])), rfl⟩
  | [], _ :: _, _, _, _, h, _ => h.elim
  | [], [], _ :: _, _, _, h, _ => h.elim
  | _ :: _, [], _, _, _, h, _ => h.elim
  | _ :: _, _ :: _, [], _, _, h, _ => h.elim
theorem trodAll_length {W : World} {b : Nat} {sp : Nat → Bool} {hd : Bool} : ∀ (ts : List TypeId) (vs : List Value) (ds : List (DataW H)) (ps : List MemPlace), DataW.TrodAll enc P W b sp hd ts vs ds ps → ds.length = ts.length ∧ vs.length = ts.length
  | [], [], [], _, _ => ⟨rfl, rfl⟩
  | t :: ts, v :: vs, d :: ds, ps, h => by
    obtain ⟨p, q, h1, h2, rfl⟩ := h
    have := trodAll_length ts vs ds q h2
    simp [this]
  | [], _ :: _, _, _, h => h.elim
  | [], [], _ :: _, _, h => h.elim
  | _ :: _, [], _, _, h => h.elim
  | _ :: _, _ :: _, [], _, h => h.elim
theorem trodL_cons {W : World} {b : Nat} {sp : Nat → Bool} {hd : Bool} {t : TypeId} {ts : List TypeId} {vs : List Value} {ds : List (DataW H)} {ps : List MemPlace} (h : DataW.TrodAll enc P W b sp hd (t :: ts) vs ds ps) :
    ∃ v d vs' ds' p q, vs = v :: vs' ∧ ds = d :: ds' ∧ DataW.Trod enc P W b sp hd t v d p ∧ DataW.TrodAll enc P W b sp hd ts vs' ds' q ∧ ps = p ++ q := by
  match vs, ds, h with
  | v :: vs, d :: ds, h =>
    obtain ⟨p, q, h1, h2, rfl⟩ := h
    exact ⟨v, d, vs, ds, p, q, rfl, rfl, h1, h2, rfl⟩
  | [], _, h => exact h.elim
  | _ :: _, [], h => exact h.elim
theorem trodL0 {W : World} {b : Nat} {sp : Nat → Bool} {hd : Bool} {vs : List Value} {ds : List (DataW H)} {ps : List MemPlace} (h : DataW.TrodAll enc P W b sp hd [] vs ds ps) : vs = [] ∧ ds = [] ∧ ps = [] := by
  match vs, ds, h with
  | [], [], h => exact ⟨rfl, rfl, h⟩
theorem law_post {fn : Func} {s : ChangeSpec} {tb : TypeId} {apart : Bool} {W W' : World} {args : Array Value} {ds gs : List (DataW H)} {before : List MemPlace} (hl : laidOutB P = true)
    (hrt : fn.resultTypes = #[tb]) (hub : P.underlying tb = some .bool) (hpar : (fn.params.toList.all fun t => P.readableRec t && decide (t < P.types.size)) = true) (hvars : s.vars = [])
    (hspec : ∀ ds : List (DataW H), ds.length = fn.params.toList.length → s.fn H ds = { results := [.lit (.bool true)], args := ds })
    (hW : DataW.Whole enc P fn.params.toList s.vars apart W args.toList ds gs before) (hb : Below W.heap.size W W') : s.post enc P fn apart true false false W args (.bool true) W' := by
  have hW0 := hW
  have hlt := hW.lt
  obtain ⟨p, q, hA, hV, rfl, _, _⟩ := hW
  rw [hvars] at hV
  obtain ⟨rfl, rfl⟩ := trodVars_none hV
  have hlen := (trodAll_length _ _ _ _ hA).1
  have hs := hspec ds hlen
  rw [List.append_nil] at hlt hW0
  refine ⟨ds, [], p, [], p, [], hW0, ?_, ?_, ?_, hb.frame _, fun h => by cases h⟩
  · rw [List.append_nil, hs, hrt]
    exact trodAll_mk1 (shut_bool hub true)
  · rw [List.append_nil, hs]
    exact trodAll_below hl hb _ _ _ _ hpar hA hlt
  · rw [hvars, List.append_nil, hs]
    rfl
theorem law_lifted_laid {C : Checked} {os : Os} {f : FuncId} {fn : Func} {s : ChangeSpec} {tb : TypeId} {L : List (String × DataW Unit)} (own : ownKnob C.prog.godebug = none) (started : os.Started) (noInit : C.prog.inits.idxOf? f = none) (hfn : C.prog.funcs[f]? = some fn)
    (hl : laidOutB C.prog = true) (hrt : fn.resultTypes = #[tb]) (hub : C.prog.underlying tb = some .bool) (hpar : (fn.params.toList.all fun t => C.prog.readableRec t && decide (t < C.prog.types.size)) = true) (hvars : s.vars = [])
    (hspec : ∀ ds : List (DataW H), ds.length = fn.params.toList.length → s.fn H ds = { results := [.lit (.bool true)], args := ds })
    (witness : ∃ (w : World) (tape : Tape) (i : Input), w.os = os ∧ (w.forCall tape i).Shaped C.prog ∧ i.vars = [] ∧ Input.okWide C.prog (w.forCall tape i) .any w.heap.size f i ∧
      ((s.pre enc C.prog fn [] false (w.forCall tape i).memory i.args ∧ laidMetH C.prog L (w.forCall tape i).memory) ∧ sizedMet enc C.prog fn (OpenSpec.ofChange s) false (w.forCall tape i).memory i.args) ∧ ({} : Assume).holds C.prog (lone (Frame.enter C.prog f i.args .normal) [] (w.forCall tape i)))
    (contract : ∀ (W : World) (base : Nat) (args : List Value) (ds : List (DataW H)) (p : List MemPlace), (∀ (j : Nat) t v, fn.params.toList[j]? = some t → args[j]? = some v → Value.okWide C.prog W .any base t v) →
      DataW.TrodAll enc C.prog W 0 (fun _ => true) true fn.params.toList args ds p → (DataW.weightsEach C.prog fn.params.toList ds).all (· ≤ reachBytes) = true → (∀ x ∈ p, x.block < W.heap.size) →
      laidMetH C.prog L W →
      callM C.prog f args.toArray (fun v W' => v = .bool true ∧ Below W.heap.size W W') W) :
    ReturnsInHanded {} C os f .any (fun w args => (s.pre enc C.prog fn [] false w args ∧ laidMetH C.prog L w) ∧ sizedMet enc C.prog fn (OpenSpec.ofChange s) false w args)
      (s.post enc C.prog fn false true false false) := by
  refine returnsInHanded_of_change_and (X := fun w _ => laidMetH C.prog L w) (fun _ _ _ hh h => h.of_heap hh) own started noInit hfn witness ?_
  intro W base args ds gs before hval hW _ hsz hX _
  have hW0 := hW
  have hlt := hW.lt
  obtain ⟨p, q, hA, hV, rfl, _, _⟩ := hW
  rw [hvars] at hV
  obtain ⟨rfl, rfl⟩ := trodVars_none hV
  have hsz' : (DataW.weightsEach C.prog fn.params.toList ds).all (· ≤ reachBytes) = true := by
    simpa [hvars, ChangeSpec.plain, DataSpec.varTypes] using hsz
  have hc := contract W base args.toList ds p (fun j t v h1 h2 => hval j t v (by simpa using h1) (by simpa using h2)) hA hsz' (fun x hx => hlt x (by simp [hx])) hX
  refine hc.mono fun e W' h => ?_
  obtain ⟨v, rfl, rfl, hb⟩ := h
  exact ⟨_, rfl, law_post hl hrt hub hpar hvars hspec hW0 hb⟩
end
end Go.Sh
namespace Go.Sh
open Go Go.ChangeShapes Go.WideShapes Go.ChangeAt Go.RowKit Go.Deep
section
variable {H : Type} {enc : TypeId × Value → H} {P : Program} {w : World} {sp : Nat → Bool} {hd : Bool}
theorem addr_add' (b o k : Nat) : (⟨b, o, none⟩ : Addr).add k = ⟨b, o + k, none⟩ := by
  unfold Addr.add
  split
  · rename_i h; rw [h]; rfl
  · rfl
theorem cell_lt {a : Addr} {v : Value} (h : w.cell? a = some v) : a.block < w.heap.size ∧ a.spot = none := by
  unfold World.cell? at h
  split at h
  · rename_i c t f hh
    refine ⟨(Array.getElem?_eq_some_iff.1 hh).1, ?_⟩
    split at h
    · cases h
    · rename_i hs
      cases hsp : a.spot with
      | none => rfl
      | some x => rw [hsp] at hs; exact absurd rfl hs
  · cases h
theorem open_fields {e : TypeId} {fs : Array Field} {n : Nat} {cs : List Value} {D : DataW H × List MemPlace} (he : P.underlying e = some (.struct fs)) (hone : oneCellFields P fs = true) (hC : P.cellsOf e = fs.size)
    (h : DataW.trod enc P w 0 sp hd n e cs = some D) :
    cs.length = fs.size ∧ ∀ (j : Nat) (f : Field), fs[j]? = some f → ∃ (v : Value) (y : DataW H × List MemPlace) (m : Nat), cs[j]? = some v ∧ DataW.trod enc P w 0 sp hd m f.type [v] = some y := by
  obtain ⟨xs, m, _, _, hcl, hxl, hf⟩ := DataW.trod_struct he h
  rw [hC] at hcl
  refine ⟨hcl, fun j f hj => ?_⟩
  obtain ⟨ho, hk⟩ := hone_of hone j f hj
  have hjl : j < fs.size := (Array.getElem?_eq_some_iff.1 hj).1
  have h1 := hf j f hj
  rw [ho, hk, List.drop_eq_getElem_cons (by omega), List.getElem?_eq_getElem (by omega : j < xs.length)] at h1
  exact ⟨_, _, m, List.getElem?_eq_getElem (by omega), h1⟩
end
end Go.Sh
namespace Go.Sh
open Go Go.ChangeShapes Go.WideShapes Go.ChangeAt Go.RowKit Go.Deep
section
variable {H : Type} {enc : TypeId × Value → H} {P : Program} {w : World} {sp : Nat → Bool} {hd : Bool}
theorem rowOpen {α : Type} (mk : α → Value) (Q : α → Prop) {t e : TypeId} {v : Value} {n : Nat} {D : DataW H × List MemPlace} (ht : P.underlying t = some (.slice e)) (hC : P.cellsOf e = 1)
    (hrd : ∀ (V : Value) (n : Nat) (D : DataW H × List MemPlace), DataW.trod enc P w 0 sp hd n e [V] = some D → ∃ x, V = mk x ∧ Q x) (h : DataW.trod enc P w 0 sp hd n t [v] = some D) :
    ∃ l : List α, (∃ ad c, v = .slice ad l.length c ∧ (l = [] ∨ ∃ b o, ad = some ⟨b, o, none⟩ ∧ b < w.heap.size ∧ ∀ (i : Nat) (h : i < l.length), w.cell? ⟨b, o + i, none⟩ = some (mk l[i]))) ∧ l.length ≤ maxLen ∧ ∀ x ∈ l, Q x := by
  rcases open_slice1 ht hC h with ⟨hcs, _⟩ | ⟨a', len, cap, m, n', V, D', Pl, hcs, _, hl, hm, hmm, _, hi⟩
  · simp only [List.cons.injEq, and_true] at hcs
    subst hcs
    exact ⟨[], ⟨none, 0, rfl, .inl rfl⟩, by simp, by simp⟩
  · simp only [List.cons.injEq, and_true] at hcs
    subst hcs
    have hml : len ≤ m := by rw [hmm]; split <;> omega
    have key : ∀ i : Fin len, ∃ x, V i = mk x ∧ Q x := fun i => hrd _ _ _ (hi i (by have := i.2; omega)).2
    refine ⟨List.ofFn (fun i => (key i).choose), ⟨some a', cap, by rw [List.length_ofFn], ?_⟩, by rw [List.length_ofFn]; omega, ?_⟩
    · by_cases h0 : len = 0
      · left; subst h0; rfl
      · right
        have h00 := (hi 0 (by omega)).1
        have e0 : a'.add 0 = a' := by simp [Addr.add]
        rw [e0] at h00
        obtain ⟨hb, hs⟩ := cell_lt h00
        obtain ⟨b, o, s⟩ := a'
        simp only at hs hb
        subst hs
        refine ⟨b, o, rfl, hb, fun i hil => ?_⟩
        rw [List.length_ofFn] at hil
        have h1 := (hi i (by omega)).1
        rw [addr_add'] at h1
        rw [h1, List.getElem_ofFn]
        have := (key ⟨i, hil⟩).choose_spec.1
        exact congrArg some this
    · intro x hx
      rw [List.mem_ofFn] at hx
      obtain ⟨i, rfl⟩ := hx
      exact (key i).choose_spec.2
end
end Go.Sh
namespace Go.Proofs
open Go Go.Sh Go.RowKit Go.Lib CodeSpec TkSpec FdSpec Go.ChangeShapes Go.WideShapes Go.ChangeAt Go.Deep
set_option linter.unusedSimpArgs false
set_option maxRecDepth 100000
abbrev laidList : List (String × DataW Unit) := YtpfjmfgnlpnflaaDoor.Rows.ticketRevealsRow.laid
abbrev lname (i : Nat) : String := (laidList.map (·.1)).getD i default
theorem var_of_laid {W : World} {nm : String} {d : DataW Unit} (hf : (laidList.filter fun x => x.1 == nm) = [(nm, d)]) (h : laidMetH Tryd.prog laidList W) : laidMet Tryd.prog [(nm, d)] W := by
  rw [MakeChecks.laidMetH_plain _ _ _ (by kernel_rfl)] at h
  have := h.filter (fun x => x.1 == nm)
  rwa [hf] at this
theorem tab_laid {W : World} (h : laidMetH Tryd.prog laidList W) : TabIs Tryd.prog W tabName .u64 pow10Tab :=
  tabIs_of_head (rest := []) (t := 128) (e := 77) (n := 20) Cd.gTab (by kernel_rfl) Tryd.underlying128 Tryd.underlying77 (by kernel_rfl) (by kernel_rfl)
    (var_of_laid (d := tabData .u64 pow10Tab) (by kernel_rfl) h)
theorem gDb : Tryd.prog.globalNamed (lname 1) = some 2 := by kernel_rfl
theorem db_laid {W : World} (h : laidMetH Tryd.prog laidList W) : TabIs Tryd.prog W (lname 1) .u8 (Lib.deBruijn64tab.map (fun n : Nat => (n : Int))) :=
  tabIs_of_head (rest := []) (t := 122) (e := 5) (n := 64) gDb (by kernel_rfl) Tryd.underlying122 Tryd.underlying5 (by kernel_rfl) (by kernel_rfl)
    (var_of_laid (d := tabData .u8 (Lib.deBruijn64tab.map (fun n : Nat => (n : Int)))) (by kernel_rfl) h)
theorem db_of {W : World} (h : laidMetH Tryd.prog laidList W) : DbT W := by
  have ht := db_laid h
  have hl : (Lib.deBruijn64tab.map (fun n : Nat => (n : Int))).length = 64 := by decide +kernel
  have hc : ∀ j, j < 64 → W.cell? ⟨2, j, none⟩ = some (.int .u8 (Lib.deBruijn64tab.getD j 0 : Nat)) := fun j hj => by
    rw [ht.cell gDb j (by omega)]
    have : (Lib.deBruijn64tab.map (fun n : Nat => (n : Int))).getD j 0 = ((Lib.deBruijn64tab.getD j 0 : Nat) : Int) := by
      rw [List.getD_eq_getElem?_getD, List.getD_eq_getElem?_getD, List.getElem?_map]
      cases Lib.deBruijn64tab[j]? <;> rfl
    rw [this]
  refine ⟨?_, hc⟩
  have h0 := hc 0 (by omega)
  by_cases hlt : 2 < W.heap.size
  · exact hlt
  · unfold World.cell? at h0
    rw [Array.getElem?_eq_none (by show W.heap.size ≤ 2; omega)] at h0
    simp at h0
theorem heap5 {W : World} (h : laidMetH Tryd.prog laidList W) : 5 ≤ W.heap.size := by
  obtain ⟨ps, ⟨g0, t0, cs0, f0, p0, q0, hg0, ht0, hv0, hd0, _, _⟩, _, _⟩ := var_of_laid (nm := lname 0) (d := YtpfjmfgnlpnflaaDoor.Rows.laid_math_bits_deBruijn32tab) (by kernel_rfl) h
  have hg : Tryd.prog.globalNamed (lname 0) = some 4 := by kernel_rfl
  unfold World.var? at hv0
  rw [hg] at hv0
  simp only [Option.bind_some] at hv0
  split at hv0
  · rename_i cs t f hh
    have := (Array.getElem?_eq_some_iff.1 hh).1
    omega
  · cases hv0
theorem laid_of {W : World} (h : laidMetH Tryd.prog laidList W) : Cd.Laid W := ⟨tab_laid h, heap5 h⟩
theorem own : ownKnob Tryd.prog.godebug = none := by kernel_rfl
theorem laidOut : laidOutB Tryd.prog = true := by kernel_rfl
theorem door_met (os : Os) (args : Array Value) : laidMetH Tryd.prog laidList ((World.doorLaid Tryd.prog 400 os).forCall (fun _ _ => 0) ⟨#[], args, []⟩).memory :=
  laidMetH_of_parts3 (fuel := 8) (laidMet_of_run' 8 (by kernel_rfl) (by kernel_rfl)) (by kernel_rfl) (by kernel_rfl)
theorem intR {n : Int} (h : (Lit.int .i64 n).wf = true) : I64 n := by
  simp only [Lit.wf, Bool.and_eq_true, decide_eq_true_eq] at h
  exact (InR_iff n).1 h
section
variable {H : Type} {enc : TypeId × Value → H} {w : World} {sp : Nat → Bool} {hd : Bool}
theorem open_tkt {b0 : Nat} {v : Value} {d : DataW H} {ps : List MemPlace} (hval : Value.okWide Tryd.prog w .any b0 28 v) (h : DataW.Trod enc Tryd.prog w 0 sp hd 28 v d ps) : ∃ t, v = tktV t ∧ TktR t := by
  obtain ⟨cs, rfl, hs⟩ := okWide_struct Tryd.underlying28 hval
  obtain ⟨fuel, hf⟩ := h
  obtain ⟨hcl, hf⟩ := open_fields Tryd.underlying28 (by kernel_rfl) (by kernel_rfl) hf
  obtain ⟨v0, y0, m0, c0, f0⟩ := hf 0 _ rfl
  obtain ⟨v1, y1, m1, c1, f1⟩ := hf 1 _ rfl
  obtain ⟨v2, y2, m2, c2, f2⟩ := hf 2 _ rfl
  obtain ⟨v3, y3, m3, c3, f3⟩ := hf 3 _ rfl
  obtain ⟨v4, y4, m4, c4, f4⟩ := hf 4 _ rfl
  obtain ⟨v5, y5, m5, c5, f5⟩ := hf 5 _ rfl
  obtain ⟨k0, e0, _, w0⟩ := DataW.trod_int Tryd.underlying3 f0
  obtain ⟨k1, e1, _, w1⟩ := DataW.trod_int Tryd.underlying3 f1
  obtain ⟨k2, e2, _, w2⟩ := DataW.trod_int Tryd.underlying3 f2
  obtain ⟨k3, e3, _, w3⟩ := DataW.trod_int Tryd.underlying3 f3
  obtain ⟨k4, e4, _, w4⟩ := DataW.trod_int Tryd.underlying3 f4
  obtain ⟨k5, e5, _, w5⟩ := DataW.trod_int Tryd.underlying3 f5
  simp only [List.cons.injEq, and_true] at e0 e1 e2 e3 e4 e5
  refine ⟨⟨k0, k1, k2, k3, k4, k5⟩, ?_, ⟨intR w0, intR w1, intR w2, intR w3, intR w4, intR w5⟩⟩
  have h6 : cs.toList.length = 6 := hcl
  have c0 : cs.toList[0]? = some v0 := c0
  have c1 : cs.toList[1]? = some v1 := c1
  have c2 : cs.toList[2]? = some v2 := c2
  have c3 : cs.toList[3]? = some v3 := c3
  have c4 : cs.toList[4]? = some v4 := c4
  have c5 : cs.toList[5]? = some v5 := c5
  have hcs : cs = cs.toList.toArray := by simp
  rw [hcs]
  clear hs hcs
  generalize cs.toList = l at *
  match l, h6 with
  | [x0, x1, x2, x3, x4, x5], _ =>
    simp only [List.getElem?_cons_zero, List.getElem?_cons_succ, Option.some.injEq] at c0 c1 c2 c3 c4 c5
    rw [c0, c1, c2, c3, c4, c5, e0, e1, e2, e3, e4, e5]
theorem ints_of_row {v : Value} {l : List Int} (h : ∃ ad c, v = .slice ad l.length c ∧ (l = [] ∨ ∃ b o, ad = some ⟨b, o, none⟩ ∧ b < w.heap.size ∧ ∀ (i : Nat) (h : i < l.length), w.cell? ⟨b, o + i, none⟩ = some (Value.int .i64 l[i]))) (h0 : ∀ c, v = .slice none l.length c → l.length = 0 ∧ c = 0) (hl : l.length ≤ maxLen) (hr : ∀ x ∈ l, I64 x) : Ints w v l := by
  obtain ⟨ad, c, rfl, h⟩ := h
  refine ⟨⟨ad, c, rfl, fun e => ?_, ?_⟩, hr, hl⟩
  · subst e
    exact h0 c rfl
  · rcases h with h | ⟨b, o, rfl, hlt, hc⟩
    · exact .inl h
    · refine .inr ⟨b, o, rfl, hlt, fun k x hk => ?_⟩
      rw [flat_int] at hk
      obtain ⟨hk1, hk2⟩ := List.getElem?_eq_some_iff.1 hk
      have hk1 : k < l.length := by rw [List.length_map] at hk1; exact hk1
      rw [hc k hk1, ← hk2, List.getElem_map]
theorem nil_len {t : TypeId} {n m : Nat} {c : Nat} {D : DataW H × List MemPlace} (ht : Tryd.prog.underlying t = some (.slice 3)) (h : DataW.trod enc Tryd.prog w 0 sp hd n t [.slice none m c] = some D) : m = 0 ∧ c = 0 := by
  rcases open_slice1 ht (by kernel_rfl) h with ⟨hcs, _⟩ | ⟨a', len, cap, m, n', V, D', Pl, hcs, _⟩
  · simp only [List.cons.injEq, and_true, Value.slice.injEq] at hcs
    exact hcs.2
  · simp only [List.cons.injEq, and_true, Value.slice.injEq] at hcs
    exact absurd hcs.1 (by simp)
theorem open_ints {v : Value} {n : Nat} {D : DataW H × List MemPlace} (h : DataW.trod enc Tryd.prog w 0 sp hd n 24 [v] = some D) : ∃ l, Ints w v l := by
  have h' := h
  obtain ⟨l, h1, h2, h3⟩ := rowOpen (Value.int .i64) I64 Tryd.underlying24 (by kernel_rfl) (fun V n D h => by
    obtain ⟨k, e, _, hw⟩ := DataW.trod_int Tryd.underlying3 h
    simp only [List.cons.injEq, and_true] at e
    exact ⟨k, e, intR hw⟩) h
  exact ⟨l, ints_of_row h1 (fun c e => by subst e; exact nil_len Tryd.underlying24 h') h2 h3⟩
theorem open_grp {cs : List Value} {n : Nat} {D : DataW H × List MemPlace} (h : DataW.trod enc Tryd.prog w 0 sp hd n 23 cs = some D) : ∃ g : Grp, cs = [.int .i64 g.P, .int .i64 g.Q, .int .i64 g.G] ∧ GrpR g := by
  obtain ⟨hcl, hf⟩ := open_fields Tryd.underlying23 (by kernel_rfl) (by kernel_rfl) h
  obtain ⟨v0, y0, m0, c0, f0⟩ := hf 0 _ rfl
  obtain ⟨v1, y1, m1, c1, f1⟩ := hf 1 _ rfl
  obtain ⟨v2, y2, m2, c2, f2⟩ := hf 2 _ rfl
  obtain ⟨k0, e0, _, w0⟩ := DataW.trod_int Tryd.underlying3 f0
  obtain ⟨k1, e1, _, w1⟩ := DataW.trod_int Tryd.underlying3 f1
  obtain ⟨k2, e2, _, w2⟩ := DataW.trod_int Tryd.underlying3 f2
  simp only [List.cons.injEq, and_true] at e0 e1 e2
  have h6 : cs.length = 3 := hcl
  refine ⟨⟨k0, k1, k2⟩, ?_, ⟨intR w0, intR w1, intR w2⟩⟩
  match cs, h6 with
  | [x0, x1, x2], _ =>
    simp only [List.getElem?_cons_zero, List.getElem?_cons_succ, Option.some.injEq] at c0 c1 c2
    rw [c0, c1, c2, e0, e1, e2]
theorem cells_stp : Tryd.prog.cellsOf 26 = 5 := by kernel_rfl
theorem cells_grp : Tryd.prog.cellsOf 23 = 3 := by kernel_rfl
theorem cells_ints : Tryd.prog.cellsOf 24 = 1 := by kernel_rfl
theorem cells_int : Tryd.prog.cellsOf 3 = 1 := by kernel_rfl
theorem open_stp {b0 : Nat} {v : Value} {d : DataW H} {ps : List MemPlace} (hT : DbT w) (hval : Value.okWide Tryd.prog w .any b0 26 v) (h : DataW.Trod enc Tryd.prog w 0 sp hd 26 v d ps) : ∃ s x, v = stpV s x ∧ SetR w s x := by
  obtain ⟨cs, rfl, hs⟩ := okWide_struct Tryd.underlying26 hval
  obtain ⟨fuel, hf⟩ := h
  have hf : DataW.trod enc Tryd.prog w 0 sp hd fuel 26 cs.toList = some (d, ps) := hf
  obtain ⟨xs, m, _, _, hcl, hxl, hf⟩ := DataW.trod_struct Tryd.underlying26 hf
  rw [cells_stp] at hcl
  have hcs : cs = cs.toList.toArray := by simp
  rw [hcs]
  clear hs hcs
  generalize cs.toList = l at *
  have hxl : xs.length = 3 := hxl
  match l, hcl, xs, hxl with
  | [x0, x1, x2, x3, x4], _, [y0, y1, y2], _ =>
    have f0 : DataW.trod enc Tryd.prog w 0 sp hd m 23 (([x0, x1, x2, x3, x4].drop 0).take (Tryd.prog.cellsOf 23)) = some y0 := hf 0 _ rfl
    have f1 : DataW.trod enc Tryd.prog w 0 sp hd m 24 (([x0, x1, x2, x3, x4].drop 3).take (Tryd.prog.cellsOf 24)) = some y1 := hf 1 _ rfl
    have f2 : DataW.trod enc Tryd.prog w 0 sp hd m 3 (([x0, x1, x2, x3, x4].drop 4).take (Tryd.prog.cellsOf 3)) = some y2 := hf 2 _ rfl
    rw [cells_grp] at f0
    rw [cells_ints] at f1
    rw [cells_int] at f2
    obtain ⟨g, eg, hg⟩ := open_grp f0
    obtain ⟨l3, h3⟩ := open_ints f1
    obtain ⟨k4, e4, _, w4⟩ := DataW.trod_int Tryd.underlying3 f2
    simp only [List.drop_zero, List.take_succ_cons, List.take_zero, List.drop_succ_cons, List.cons.injEq, and_true] at eg e4
    obtain ⟨e0, e1, e2⟩ := eg
    exact ⟨⟨g, l3, k4⟩, x3, by rw [e0, e1, e2, e4], ⟨hg, h3, intR w4, hT⟩⟩
theorem open_spd {b0 : Nat} {v : Value} {d : DataW H} {ps : List MemPlace} (hval : Value.okWide Tryd.prog w .any b0 30 v) (h : DataW.Trod enc Tryd.prog w 0 sp hd 30 v d ps) : ∃ b x, v = spdV b x ∧ SpdR w b x := by
  obtain ⟨cs, rfl, hs⟩ := okWide_struct Tryd.underlying30 hval
  obtain ⟨fuel, hf⟩ := h
  obtain ⟨hcl, hf⟩ := open_fields Tryd.underlying30 (by kernel_rfl) (by kernel_rfl) hf
  obtain ⟨v0, y0, m0, c0, f0⟩ := hf 0 _ rfl
  obtain ⟨v3, y3, m3, c3, f3⟩ := hf 1 _ rfl
  obtain ⟨k0, e0, _, w0⟩ := DataW.trod_int Tryd.underlying3 f0
  obtain ⟨l3, h3⟩ := open_ints f3
  simp only [List.cons.injEq, and_true] at e0
  refine ⟨⟨k0, l3⟩, v3, ?_, ⟨intR w0, h3⟩⟩
  have h6 : cs.toList.length = 2 := hcl
  have c0 : cs.toList[0]? = some v0 := c0
  have c3 : cs.toList[1]? = some v3 := c3
  have hcs : cs = cs.toList.toArray := by simp
  rw [hcs]
  clear hs hcs
  generalize cs.toList = l at *
  match l, h6 with
  | [x0, x3], _ =>
    simp only [List.getElem?_cons_zero, List.getElem?_cons_succ, Option.some.injEq] at c0 c3
    rw [c0, c3, e0]
end
end Go.Proofs
