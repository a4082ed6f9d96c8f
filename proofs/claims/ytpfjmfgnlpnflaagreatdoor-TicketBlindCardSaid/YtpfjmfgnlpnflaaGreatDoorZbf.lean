/- Parts of the proof of the seat's statements (LawKit, OpenKit, OpenKit2, LZ, RgB, RgC, HRe, FpA, FpB, TkQ, FpC, FpD, TzN, HLTicketBlind, TzB): lemmas about the given translation and plain laws. No condition of their own. -/
import Derived.Test.YtpfjmfgnlpnflaaGreatDoorZbe
import Derived.ProofKit
import Derived.LaidMore
import Derived.OpenShut
import Derived.Carry
import Derived.SizedLaws
import Derived.Stop.Joined
import Derived.Deep.Slices
import Derived.Deep.Fields
import Derived.LaidSub
import Derived.Test.YtpfjmfgnlpnflaaGreatDoorRows
import Derived.Test.YtpfjmfgnlpnflaaGreatDoorCards
import Derived.Test.YtpfjmfgnlpnflaaGreatDoorTie
import Derived.SevenTiedAt
import Derived.Test.YtpfjmfgnlpnflaaGreatDoorProg
set_option linter.all false
set_option maxRecDepth 100000
namespace Go.Sh
open Go Go.ChangeShapes Go.WideShapes Go.ChangeAt Go.RowKit
section
variable {H : Type} {enc : TypeId × Value → H} {P : Program}
theorem trodAll_below (hl : laidOutB P = true) {W W' : World} (hb : Below W.heap.size W W') :
    ∀ (ts : List TypeId) (vs : List Value) (ds : List (DataW H)) (ps : List MemPlace), (ts.all fun t => P.readableRec t && decide (t < P.types.size)) = true →
    DataW.TrodAll enc P W 0 (fun _ => true) true ts vs ds ps → (∀ x ∈ ps, x.block < W.heap.size) → DataW.TrodAll enc P W' 0 (fun b => decide (b < W.heap.size)) true ts vs ds ps
  | [], [], [], _, _, h, _ => h
  | t :: ts, v :: vs, d :: ds, ps, ht, h, hlt => by
    obtain ⟨p, q, h1, h2, rfl⟩ := h
    simp only [List.all_cons, Bool.and_eq_true, decide_eq_true_eq] at ht
    exact ⟨p, q, Below.trod hl ht.1.1 ht.1.2 h1 hb (fun x hx => hlt x (by simp [hx])), trodAll_below hl hb ts vs ds q ht.2 h2 (fun x hx => hlt x (by simp [hx])), rfl⟩
  | [], _ :: _, _, _, _, h, _ => h.elim
  | [], [], _ :: _, _, _, h, _ => h.elim
  | _ :: _, [], _, _, _, h, _ => h.elim
  | _ :: _, _ :: _, [], _, _, h, _ => h.elim
theorem trodAll_length {W : World} {b : Nat} {sp : Nat → Bool} {hd : Bool} : ∀ (ts : List TypeId) (vs : List Value) (ds : List (DataW H)) (ps : List MemPlace), DataW.TrodAll enc P W b sp hd ts vs ds ps → ds.length = ts.length ∧ vs.length = ts.length
  | [], [], [], _, _ => ⟨rfl, rfl⟩
  | t :: ts, v :: vs, d :: ds, ps, h => by
    obtain ⟨p, q, h1, h2, rfl⟩ := h
    have := trodAll_length ts vs ds q h2
    simp [this]
  | [], _ :: _, _, _, h => h.elim
  | [], [], _ :: _, _, h => h.elim
  | _ :: _, [], _, _, h => h.elim
  | _ :: _, _ :: _, [], _, h => h.elim
theorem trodL_cons {W : World} {b : Nat} {sp : Nat → Bool} {hd : Bool} {t : TypeId} {ts : List TypeId} {vs : List Value} {ds : List (DataW H)} {ps : List MemPlace} (h : DataW.TrodAll enc P W b sp hd (t :: ts) vs ds ps) :
    ∃ v d vs' ds' p q, vs = v :: vs' ∧ ds = d :: ds' ∧ DataW.Trod enc P W b sp hd t v d p ∧ DataW.TrodAll enc P W b sp hd ts vs' ds' q ∧ ps = p ++ q := by
  match vs, ds, h with
  | v :: vs, d :: ds, h =>
    obtain ⟨p, q, h1, h2, rfl⟩ := h
    exact ⟨v, d, vs, ds, p, q, rfl, rfl, h1, h2, rfl⟩
  | [], _, h => exact h.elim
  | _ :: _, [], h => exact h.elim
theorem trodL0 {W : World} {b : Nat} {sp : Nat → Bool} {hd : Bool} {vs : List Value} {ds : List (DataW H)} {ps : List MemPlace} (h : DataW.TrodAll enc P W b sp hd [] vs ds ps) : vs = [] ∧ ds = [] ∧ ps = [] := by
  match vs, ds, h with
  | [], [], h => exact ⟨rfl, rfl, h⟩
theorem law_post {fn : Func} {s : ChangeSpec} {tb : TypeId} {apart : Bool} {W W' : World} {args : Array Value} {ds gs : List (DataW H)} {before : List MemPlace} (hl : laidOutB P = true)
    (hrt : fn.resultTypes = #[tb]) (hub : P.underlying tb = some .bool) (hpar : (fn.params.toList.all fun t => P.readableRec t && decide (t < P.types.size)) = true) (hvars : s.vars = [])
    (hspec : ∀ ds : List (DataW H), ds.length = fn.params.toList.length → s.fn H ds = { results := [.lit (.bool true)], args := ds })
    (hW : DataW.Whole enc P fn.params.toList s.vars apart W args.toList ds gs before) (hb : Below W.heap.size W W') : s.post enc P fn apart true false false W args (.bool true) W' := by
  have hW0 := hW
  have hlt := hW.lt
  obtain ⟨p, q, hA, hV, rfl, _, _⟩ := hW
  rw [hvars] at hV
  obtain ⟨rfl, rfl⟩ := trodVars_none hV
  have hlen := (trodAll_length _ _ _ _ hA).1
  have hs := hspec ds hlen
  rw [List.append_nil] at hlt hW0
  refine ⟨ds, [], p, [], p, [], hW0, ?_, ?_, ?_, hb.frame _, fun h => by cases h⟩
  · rw [List.append_nil, hs, hrt]
    exact trodAll_mk1 (shut_bool hub true)
  · rw [List.append_nil, hs]
    exact trodAll_below hl hb _ _ _ _ hpar hA hlt
  · rw [hvars, List.append_nil, hs]
    rfl
theorem law_lifted_laid {C : Checked} {os : Os} {f : FuncId} {fn : Func} {s : ChangeSpec} {tb : TypeId} {L : List (String × DataW Unit)} (own : ownKnob C.prog.godebug = none) (started : os.Started) (noInit : C.prog.inits.idxOf? f = none) (hfn : C.prog.funcs[f]? = some fn)
    (hl : laidOutB C.prog = true) (hrt : fn.resultTypes = #[tb]) (hub : C.prog.underlying tb = some .bool) (hpar : (fn.params.toList.all fun t => C.prog.readableRec t && decide (t < C.prog.types.size)) = true) (hvars : s.vars = [])
    (hspec : ∀ ds : List (DataW H), ds.length = fn.params.toList.length → s.fn H ds = { results := [.lit (.bool true)], args := ds })
    (witness : ∃ (w : World) (tape : Tape) (i : Input), w.os = os ∧ (w.forCall tape i).Shaped C.prog ∧ i.vars = [] ∧ Input.okWide C.prog (w.forCall tape i) .any w.heap.size f i ∧
      ((s.pre enc C.prog fn [] false (w.forCall tape i).memory i.args ∧ laidMetH C.prog L (w.forCall tape i).memory) ∧ sizedMet enc C.prog fn (OpenSpec.ofChange s) false (w.forCall tape i).memory i.args) ∧ ({} : Assume).holds C.prog (lone (Frame.enter C.prog f i.args .normal) [] (w.forCall tape i)))
    (contract : ∀ (W : World) (base : Nat) (args : List Value) (ds : List (DataW H)) (p : List MemPlace), (∀ (j : Nat) t v, fn.params.toList[j]? = some t → args[j]? = some v → Value.okWide C.prog W .any base t v) →
      DataW.TrodAll enc C.prog W 0 (fun _ => true) true fn.params.toList args ds p → (DataW.weightsEach C.prog fn.params.toList ds).all (· ≤ reachBytes) = true → (∀ x ∈ p, x.block < W.heap.size) →
      laidMetH C.prog L W →
      callM C.prog f args.toArray (fun v W' => v = .bool true ∧ Below W.heap.size W W') W) :
    ReturnsInHanded {} C os f .any (fun w args => (s.pre enc C.prog fn [] false w args ∧ laidMetH C.prog L w) ∧ sizedMet enc C.prog fn (OpenSpec.ofChange s) false w args)
      (s.post enc C.prog fn false true false false) := by
  refine returnsInHanded_of_change_and (X := fun w _ => laidMetH C.prog L w) (fun _ _ _ hh h => h.of_heap hh) own started noInit hfn witness ?_
  intro W base args ds gs before hval hW _ hsz hX _
  have hW0 := hW
  have hlt := hW.lt
  obtain ⟨p, q, hA, hV, rfl, _, _⟩ := hW
  rw [hvars] at hV
  obtain ⟨rfl, rfl⟩ := trodVars_none hV
  have hsz' : (DataW.weightsEach C.prog fn.params.toList ds).all (· ≤ reachBytes) = true := by
    simpa [hvars, ChangeSpec.plain, DataSpec.varTypes] using hsz
  have hc := contract W base args.toList ds p (fun j t v h1 h2 => hval j t v (by simpa using h1) (by simpa using h2)) hA hsz' (fun x hx => hlt x (by simp [hx])) hX
  refine hc.mono fun e W' h => ?_
  obtain ⟨v, rfl, rfl, hb⟩ := h
  exact ⟨_, rfl, law_post hl hrt hub hpar hvars hspec hW0 hb⟩
end
end Go.Sh
namespace Go.Sh
open Go Go.ChangeShapes Go.WideShapes Go.ChangeAt Go.RowKit Go.Deep
section
variable {H : Type} {enc : TypeId × Value → H} {P : Program} {w : World} {sp : Nat → Bool} {hd : Bool}
theorem addr_add' (b o k : Nat) : (⟨b, o, none⟩ : Addr).add k = ⟨b, o + k, none⟩ := by
  unfold Addr.add
  split
  · rename_i h; rw [h]; rfl
  · rfl
theorem cell_lt {a : Addr} {v : Value} (h : w.cell? a = some v) : a.block < w.heap.size ∧ a.spot = none := by
  unfold World.cell? at h
  split at h
  · rename_i c t f hh
    refine ⟨(Array.getElem?_eq_some_iff.1 hh).1, ?_⟩
    split at h
    · cases h
    · rename_i hs
      cases hsp : a.spot with
      | none => rfl
      | some x => rw [hsp] at hs; exact absurd rfl hs
  · cases h
theorem open_fields {e : TypeId} {fs : Array Field} {n : Nat} {cs : List Value} {D : DataW H × List MemPlace} (he : P.underlying e = some (.struct fs)) (hone : oneCellFields P fs = true) (hC : P.cellsOf e = fs.size)
    (h : DataW.trod enc P w 0 sp hd n e cs = some D) :
    cs.length = fs.size ∧ ∀ (j : Nat) (f : Field), fs[j]? = some f → ∃ (v : Value) (y : DataW H × List MemPlace) (m : Nat), cs[j]? = some v ∧ DataW.trod enc P w 0 sp hd m f.type [v] = some y := by
  obtain ⟨xs, m, _, _, hcl, hxl, hf⟩ := DataW.trod_struct he h
  rw [hC] at hcl
  refine ⟨hcl, fun j f hj => ?_⟩
  obtain ⟨ho, hk⟩ := hone_of hone j f hj
  have hjl : j < fs.size := (Array.getElem?_eq_some_iff.1 hj).1
  have h1 := hf j f hj
  rw [ho, hk, List.drop_eq_getElem_cons (by omega), List.getElem?_eq_getElem (by omega : j < xs.length)] at h1
  exact ⟨_, _, m, List.getElem?_eq_getElem (by omega), h1⟩
end
end Go.Sh
namespace Go.Sh
open Go Go.ChangeShapes Go.WideShapes Go.ChangeAt Go.RowKit Go.Deep
section
variable {H : Type} {enc : TypeId × Value → H} {P : Program} {w : World} {sp : Nat → Bool} {hd : Bool}
theorem rowOpen {α : Type} (mk : α → Value) (Q : α → Prop) {t e : TypeId} {v : Value} {n : Nat} {D : DataW H × List MemPlace} (ht : P.underlying t = some (.slice e)) (hC : P.cellsOf e = 1)
    (hrd : ∀ (V : Value) (n : Nat) (D : DataW H × List MemPlace), DataW.trod enc P w 0 sp hd n e [V] = some D → ∃ x, V = mk x ∧ Q x) (h : DataW.trod enc P w 0 sp hd n t [v] = some D) :
    ∃ l : List α, (∃ ad c, v = .slice ad l.length c ∧ (l = [] ∨ ∃ b o, ad = some ⟨b, o, none⟩ ∧ b < w.heap.size ∧ ∀ (i : Nat) (h : i < l.length), w.cell? ⟨b, o + i, none⟩ = some (mk l[i]))) ∧ l.length ≤ maxLen ∧ ∀ x ∈ l, Q x := by
  rcases open_slice1 ht hC h with ⟨hcs, _⟩ | ⟨a', len, cap, m, n', V, D', Pl, hcs, _, hl, hm, hmm, _, hi⟩
  · simp only [List.cons.injEq, and_true] at hcs
    subst hcs
    exact ⟨[], ⟨none, 0, rfl, .inl rfl⟩, by simp, by simp⟩
  · simp only [List.cons.injEq, and_true] at hcs
    subst hcs
    have hml : len ≤ m := by rw [hmm]; split <;> omega
    have key : ∀ i : Fin len, ∃ x, V i = mk x ∧ Q x := fun i => hrd _ _ _ (hi i (by have := i.2; omega)).2
    refine ⟨List.ofFn (fun i => (key i).choose), ⟨some a', cap, by rw [List.length_ofFn], ?_⟩, by rw [List.length_ofFn]; omega, ?_⟩
    · by_cases h0 : len = 0
      · left; subst h0; rfl
      · right
        have h00 := (hi 0 (by omega)).1
        have e0 : a'.add 0 = a' := by simp [Addr.add]
        rw [e0] at h00
        obtain ⟨hb, hs⟩ := cell_lt h00
        obtain ⟨b, o, s⟩ := a'
        simp only at hs hb
        subst hs
        refine ⟨b, o, rfl, hb, fun i hil => ?_⟩
        rw [List.length_ofFn] at hil
        have h1 := (hi i (by omega)).1
        rw [addr_add'] at h1
        rw [h1, List.getElem_ofFn]
        have := (key ⟨i, hil⟩).choose_spec.1
        exact congrArg some this
    · intro x hx
      rw [List.mem_ofFn] at hx
      obtain ⟨i, rfl⟩ := hx
      exact (key i).choose_spec.2
end
end Go.Sh
namespace Go.Proofs
open Go Go.Sh Go.RowKit Go.Lib CodeSpec TkSpec FdSpec Go.ChangeShapes Go.WideShapes Go.ChangeAt Go.Deep
set_option linter.unusedSimpArgs false
set_option maxRecDepth 100000
abbrev laidList : List (String × DataW Unit) := YtpfjmfgnlpnflaaGreatDoor.Rows.ticketHonestRow.laid
abbrev lname (i : Nat) : String := (laidList.map (·.1)).getD i default
theorem var_of_laid {W : World} {nm : String} {d : DataW Unit} (hf : (laidList.filter fun x => x.1 == nm) = [(nm, d)]) (h : laidMetH Tryz.prog laidList W) : laidMet Tryz.prog [(nm, d)] W := by
  rw [MakeChecks.laidMetH_plain _ _ _ (by kernel_rfl)] at h
  have := h.filter (fun x => x.1 == nm)
  rwa [hf] at this
theorem tab_laid {W : World} (h : laidMetH Tryz.prog laidList W) : TabIs Tryz.prog W tabName .u64 pow10Tab :=
  tabIs_of_head (rest := []) (t := 245) (e := 139) (n := 20) Cd.gTab (by kernel_rfl) Tryz.underlying245 Tryz.underlying139 (by kernel_rfl) (by kernel_rfl)
    (var_of_laid (d := tabData .u64 pow10Tab) (by kernel_rfl) h)
theorem gDb : Tryz.prog.globalNamed (lname 1) = some 2 := by kernel_rfl
theorem db_laid {W : World} (h : laidMetH Tryz.prog laidList W) : TabIs Tryz.prog W (lname 1) .u8 (Lib.deBruijn64tab.map (fun n : Nat => (n : Int))) :=
  tabIs_of_head (rest := []) (t := 243) (e := 5) (n := 64) gDb (by kernel_rfl) Tryz.underlying243 Tryz.underlying5 (by kernel_rfl) (by kernel_rfl)
    (var_of_laid (d := tabData .u8 (Lib.deBruijn64tab.map (fun n : Nat => (n : Int)))) (by kernel_rfl) h)
theorem db_of {W : World} (h : laidMetH Tryz.prog laidList W) : DbT W := by
  have ht := db_laid h
  have hl : (Lib.deBruijn64tab.map (fun n : Nat => (n : Int))).length = 64 := by decide +kernel
  have hc : ∀ j, j < 64 → W.cell? ⟨2, j, none⟩ = some (.int .u8 (Lib.deBruijn64tab.getD j 0 : Nat)) := fun j hj => by
    rw [ht.cell gDb j (by omega)]
    have : (Lib.deBruijn64tab.map (fun n : Nat => (n : Int))).getD j 0 = ((Lib.deBruijn64tab.getD j 0 : Nat) : Int) := by
      rw [List.getD_eq_getElem?_getD, List.getD_eq_getElem?_getD, List.getElem?_map]
      cases Lib.deBruijn64tab[j]? <;> rfl
    rw [this]
  refine ⟨?_, hc⟩
  have h0 := hc 0 (by omega)
  by_cases hlt : 2 < W.heap.size
  · exact hlt
  · unfold World.cell? at h0
    rw [Array.getElem?_eq_none (by show W.heap.size ≤ 2; omega)] at h0
    simp at h0
theorem heap8 {W : World} (h : laidMetH Tryz.prog laidList W) : 8 ≤ W.heap.size := by
  obtain ⟨ps, ⟨g0, t0, cs0, f0, p0, q0, hg0, ht0, hv0, hd0, _, _⟩, _, _⟩ := var_of_laid (nm := lname 0) (d := YtpfjmfgnlpnflaaGreatDoor.Rows.laid_math_bits_deBruijn32tab) (by kernel_rfl) h
  have hg : Tryz.prog.globalNamed (lname 0) = some 7 := by kernel_rfl
  unfold World.var? at hv0
  rw [hg] at hv0
  simp only [Option.bind_some] at hv0
  split at hv0
  · rename_i cs t f hh
    have := (Array.getElem?_eq_some_iff.1 hh).1
    omega
  · cases hv0
theorem laid_of {W : World} (h : laidMetH Tryz.prog laidList W) : Cd.Laid W := ⟨tab_laid h, heap8 h⟩
theorem own : ownKnob Tryz.prog.godebug = none := by kernel_rfl
theorem laidOut : laidOutB Tryz.prog = true := by kernel_rfl
theorem door_met (os : Os) (args : Array Value) : laidMetH Tryz.prog laidList ((World.doorLaid Tryz.prog 400 os).forCall (fun _ _ => 0) ⟨#[], args, []⟩).memory :=
  laidMetH_of_parts3 (fuel := 8) (laidMet_of_run' 8 (by kernel_rfl) (by kernel_rfl)) (by kernel_rfl) (by kernel_rfl)
theorem intR {n : Int} (h : (Lit.int .i64 n).wf = true) : I64 n := by
  simp only [Lit.wf, Bool.and_eq_true, decide_eq_true_eq] at h
  exact (InR_iff n).1 h
section
variable {H : Type} {enc : TypeId × Value → H} {w : World} {sp : Nat → Bool} {hd : Bool}
theorem ints_of_row {v : Value} {l : List Int} (h : ∃ ad c, v = .slice ad l.length c ∧ (l = [] ∨ ∃ b o, ad = some ⟨b, o, none⟩ ∧ b < w.heap.size ∧ ∀ (i : Nat) (h : i < l.length), w.cell? ⟨b, o + i, none⟩ = some (Value.int .i64 l[i]))) (h0 : ∀ c, v = .slice none l.length c → l.length = 0 ∧ c = 0) (hl : l.length ≤ maxLen) (hr : ∀ x ∈ l, I64 x) : Ints w v l := by
  obtain ⟨ad, c, rfl, h⟩ := h
  refine ⟨⟨ad, c, rfl, fun e => ?_, ?_⟩, hr, hl⟩
  · subst e
    exact h0 c rfl
  · rcases h with h | ⟨b, o, rfl, hlt, hc⟩
    · exact .inl h
    · refine .inr ⟨b, o, rfl, hlt, fun k x hk => ?_⟩
      rw [flat_int] at hk
      obtain ⟨hk1, hk2⟩ := List.getElem?_eq_some_iff.1 hk
      have hk1 : k < l.length := by rw [List.length_map] at hk1; exact hk1
      rw [hc k hk1, ← hk2, List.getElem_map]
theorem nil_len {t : TypeId} {n m : Nat} {c : Nat} {D : DataW H × List MemPlace} (ht : Tryz.prog.underlying t = some (.slice 3)) (h : DataW.trod enc Tryz.prog w 0 sp hd n t [.slice none m c] = some D) : m = 0 ∧ c = 0 := by
  rcases open_slice1 ht (by kernel_rfl) h with ⟨hcs, _⟩ | ⟨a', len, cap, m, n', V, D', Pl, hcs, _⟩
  · simp only [List.cons.injEq, and_true, Value.slice.injEq] at hcs
    exact hcs.2
  · simp only [List.cons.injEq, and_true, Value.slice.injEq] at hcs
    exact absurd hcs.1 (by simp)
theorem open_ints {v : Value} {n : Nat} {D : DataW H × List MemPlace} (h : DataW.trod enc Tryz.prog w 0 sp hd n 22 [v] = some D) : ∃ l, Ints w v l := by
  have h' := h
  obtain ⟨l, h1, h2, h3⟩ := rowOpen (Value.int .i64) I64 Tryz.underlying22 (by kernel_rfl) (fun V n D h => by
    obtain ⟨k, e, _, hw⟩ := DataW.trod_int Tryz.underlying3 h
    simp only [List.cons.injEq, and_true] at e
    exact ⟨k, e, intR hw⟩) h
  exact ⟨l, ints_of_row h1 (fun c e => by subst e; exact nil_len Tryz.underlying22 h') h2 h3⟩
theorem open_list {b0 : Nat} {v : Value} {d : DataW H} {ps : List MemPlace} (hval : Value.okWide Tryz.prog w .any b0 22 v) (h : DataW.Trod enc Tryz.prog w 0 sp hd 22 v d ps) : ∃ l, Ints w v l := by
  obtain ⟨a, n, c, rfl⟩ := okWide_slice Tryz.underlying22 hval
  obtain ⟨fu, hf⟩ := h
  exact open_ints hf
theorem cells_ints : Tryz.prog.cellsOf 22 = 1 := by kernel_rfl
theorem cells_int : Tryz.prog.cellsOf 3 = 1 := by kernel_rfl
theorem open_bld {b0 : Nat} {v : Value} {d : DataW H} {ps : List MemPlace} (hval : Value.okWide Tryz.prog w .any b0 45 v) (h : DataW.Trod enc Tryz.prog w 0 sp hd 45 v d ps) : ∃ b x, v = bldV b x ∧ BldR w b x := by
  obtain ⟨cs, rfl, hs⟩ := okWide_struct Tryz.underlying45 hval
  obtain ⟨fuel, hf⟩ := h
  obtain ⟨hcl, hf⟩ := open_fields Tryz.underlying45 (by kernel_rfl) (by kernel_rfl) hf
  obtain ⟨v0, y0, m0, c0, f0⟩ := hf 0 _ rfl
  obtain ⟨v1, y1, m1, c1, f1⟩ := hf 1 _ rfl
  obtain ⟨v2, y2, m2, c2, f2⟩ := hf 2 _ rfl
  obtain ⟨v3, y3, m3, c3, f3⟩ := hf 3 _ rfl
  obtain ⟨k0, e0, _, w0⟩ := DataW.trod_int Tryz.underlying3 f0
  obtain ⟨k1, e1, _, w1⟩ := DataW.trod_int Tryz.underlying3 f1
  obtain ⟨k2, e2, _, w2⟩ := DataW.trod_int Tryz.underlying3 f2
  obtain ⟨l3, h3⟩ := open_ints f3
  simp only [List.cons.injEq, and_true] at e0 e1 e2
  refine ⟨⟨k0, k1, k2, l3⟩, v3, ?_, ⟨intR w0, intR w1, intR w2, h3⟩⟩
  have h6 : cs.toList.length = 4 := hcl
  have c0 : cs.toList[0]? = some v0 := c0
  have c1 : cs.toList[1]? = some v1 := c1
  have c2 : cs.toList[2]? = some v2 := c2
  have c3 : cs.toList[3]? = some v3 := c3
  have hcs : cs = cs.toList.toArray := by simp
  rw [hcs]
  clear hs hcs
  generalize cs.toList = l at *
  match l, h6 with
  | [x0, x1, x2, x3], _ =>
    simp only [List.getElem?_cons_zero, List.getElem?_cons_succ, Option.some.injEq] at c0 c1 c2 c3
    rw [c0, c1, c2, c3, e0, e1, e2]
theorem open_mir {n : Nat} {cs : List Value} {D : DataW H × List MemPlace} (h : DataW.trod enc Tryz.prog w 0 sp hd n 24 cs = some D) : ∃ m v, cs = [v, .int .i64 m.blind] ∧ MirR w m v := by
  obtain ⟨hcl, hf⟩ := open_fields Tryz.underlying24 (by kernel_rfl) (by kernel_rfl) h
  obtain ⟨v0, y0, m0, c0, f0⟩ := hf 0 _ rfl
  obtain ⟨v1, y1, m1, c1, f1⟩ := hf 1 _ rfl
  obtain ⟨l0, h0⟩ := open_ints f0
  obtain ⟨k1, e1, _, w1⟩ := DataW.trod_int Tryz.underlying3 f1
  simp only [List.cons.injEq, and_true] at e1
  have h6 : cs.length = 2 := hcl
  refine ⟨⟨l0, k1⟩, v0, ?_, ⟨h0, intR w1⟩⟩
  match cs, h6 with
  | [x0, x1], _ =>
    simp only [List.getElem?_cons_zero, List.getElem?_cons_succ, Option.some.injEq] at c0 c1
    rw [c0, c1, e1]
theorem open_bldC {n : Nat} {cs : List Value} {D : DataW H × List MemPlace} (h : DataW.trod enc Tryz.prog w 0 sp hd n 45 cs = some D) : ∃ b x, cs = [.int .i64 b.s, .int .i64 b.u, .int .i64 b.v, x] ∧ BldR w b x := by
  obtain ⟨hcl, hf⟩ := open_fields Tryz.underlying45 (by kernel_rfl) (by kernel_rfl) h
  obtain ⟨v0, y0, m0, c0, f0⟩ := hf 0 _ rfl
  obtain ⟨v1, y1, m1, c1, f1⟩ := hf 1 _ rfl
  obtain ⟨v2, y2, m2, c2, f2⟩ := hf 2 _ rfl
  obtain ⟨v3, y3, m3, c3, f3⟩ := hf 3 _ rfl
  obtain ⟨k0, e0, _, w0⟩ := DataW.trod_int Tryz.underlying3 f0
  obtain ⟨k1, e1, _, w1⟩ := DataW.trod_int Tryz.underlying3 f1
  obtain ⟨k2, e2, _, w2⟩ := DataW.trod_int Tryz.underlying3 f2
  obtain ⟨l3, h3⟩ := open_ints f3
  simp only [List.cons.injEq, and_true] at e0 e1 e2
  refine ⟨⟨k0, k1, k2, l3⟩, v3, ?_, ⟨intR w0, intR w1, intR w2, h3⟩⟩
  have h6 : cs.length = 4 := hcl
  match cs, h6 with
  | [x0, x1, x2, x3], _ =>
    simp only [List.getElem?_cons_zero, List.getElem?_cons_succ, Option.some.injEq] at c0 c1 c2 c3
    rw [c0, c1, c2, c3, e0, e1, e2]
theorem cells_mir : Tryz.prog.cellsOf 24 = 2 := by kernel_rfl
theorem cells_bld : Tryz.prog.cellsOf 45 = 4 := by kernel_rfl
theorem cells_cas : Tryz.prog.cellsOf 63 = 10 := by kernel_rfl
theorem open_cas {b0 : Nat} {v : Value} {d : DataW H} {ps : List MemPlace} (hval : Value.okWide Tryz.prog w .any b0 63 v) (h : DataW.Trod enc Tryz.prog w 0 sp hd 63 v d ps) : ∃ c mv av yv, v = casV c mv av yv ∧ CasR w c mv av yv := by
  obtain ⟨cs, rfl, hs⟩ := okWide_struct Tryz.underlying63 hval
  obtain ⟨fuel, hf⟩ := h
  have hf : DataW.trod enc Tryz.prog w 0 sp hd fuel 63 cs.toList = some (d, ps) := hf
  obtain ⟨xs, m, _, _, hcl, hxl, hf⟩ := DataW.trod_struct Tryz.underlying63 hf
  rw [cells_cas] at hcl
  have hcs : cs = cs.toList.toArray := by simp
  rw [hcs]
  clear hs hcs
  generalize cs.toList = l at *
  have hxl : xs.length = 6 := hxl
  match l, hcl, xs, hxl with
  | [x0, x1, x2, x3, x4, x5, x6, x7, x8, x9], _, [y0, y1, y2, y3, y4, y5], _ =>
    have f0 : DataW.trod enc Tryz.prog w 0 sp hd m 3 (([x0, x1, x2, x3, x4, x5, x6, x7, x8, x9].drop 0).take (Tryz.prog.cellsOf 3)) = some y0 := hf 0 _ rfl
    have f1 : DataW.trod enc Tryz.prog w 0 sp hd m 24 (([x0, x1, x2, x3, x4, x5, x6, x7, x8, x9].drop 1).take (Tryz.prog.cellsOf 24)) = some y1 := hf 1 _ rfl
    have f2 : DataW.trod enc Tryz.prog w 0 sp hd m 3 (([x0, x1, x2, x3, x4, x5, x6, x7, x8, x9].drop 3).take (Tryz.prog.cellsOf 3)) = some y2 := hf 2 _ rfl
    have f3 : DataW.trod enc Tryz.prog w 0 sp hd m 3 (([x0, x1, x2, x3, x4, x5, x6, x7, x8, x9].drop 4).take (Tryz.prog.cellsOf 3)) = some y3 := hf 3 _ rfl
    have f4 : DataW.trod enc Tryz.prog w 0 sp hd m 22 (([x0, x1, x2, x3, x4, x5, x6, x7, x8, x9].drop 5).take (Tryz.prog.cellsOf 22)) = some y4 := hf 4 _ rfl
    have f5 : DataW.trod enc Tryz.prog w 0 sp hd m 45 (([x0, x1, x2, x3, x4, x5, x6, x7, x8, x9].drop 6).take (Tryz.prog.cellsOf 45)) = some y5 := hf 5 _ rfl
    rw [cells_int] at f0 f2 f3
    rw [cells_mir] at f1
    rw [cells_ints] at f4
    rw [cells_bld] at f5
    obtain ⟨k0, e0, _, w0⟩ := DataW.trod_int Tryz.underlying3 f0
    obtain ⟨mi, mv, em, hm⟩ := open_mir f1
    obtain ⟨k2, e2, _, w2⟩ := DataW.trod_int Tryz.underlying3 f2
    obtain ⟨k3, e3, _, w3⟩ := DataW.trod_int Tryz.underlying3 f3
    obtain ⟨l4, h4⟩ := open_ints f4
    obtain ⟨bl, bv, eb, hb⟩ := open_bldC f5
    simp only [List.drop_zero, List.take_succ_cons, List.take_zero, List.drop_succ_cons, List.cons.injEq, and_true] at e0 em e2 e3 eb h4
    obtain ⟨em0, em1⟩ := em
    obtain ⟨eb0, eb1, eb2, eb3⟩ := eb
    exact ⟨⟨k0, mi, k2, k3, l4, bl⟩, mv, x5, bv, by rw [e0, em0, em1, e2, e3, eb0, eb1, eb2, eb3], ⟨intR w0, hm, intR w2, intR w3, h4, hb⟩⟩
end
end Go.Proofs
namespace Go.Proofs
open Go Go.Sh Go.RowKit FdSpec TkSpec CodeSpec
set_option linter.unusedSimpArgs false
set_option linter.unusedVariables false
set_option maxRecDepth 10000
section
variable {K : Value → World → Prop} {w w0 : World} {L : List (Addr × Value)}
end
end Go.Proofs
namespace Go.Proofs
open Go Go.Sh Go.RowKit FdSpec TkSpec CodeSpec
set_option linter.unusedSimpArgs false
set_option linter.unusedVariables false
set_option maxRecDepth 10000
section
variable {K : Value → World → Prop} {w w0 : World} {L : List (Addr × Value)}
end
end Go.Proofs
set_option linter.unusedVariables false
set_option maxRecDepth 100000
namespace Go.Proofs
open Go.Sh
def sh_20 (a0 : Value) (a1 : Value) (K : Value → World → Prop) (w : World) : Prop :=
 oM Tryz.prog (.box 45 (.tmp 0)) 0 [a0] (fun v2_1 w =>
 oM Tryz.prog (.box 45 (.tmp 0)) 0 [a1] (fun v3_2 w =>
 oM Tryz.prog (.fieldAddr 45 (.tmp 0) 0) 0 [v2_1] (fun v5_3 w =>
 oM Tryz.prog (.load 3 (.tmp 0)) 3 [v5_3] (fun v6_4 w =>
 oM Tryz.prog (.fieldAddr 45 (.tmp 0) 0) 0 [v3_2] (fun v7_5 w =>
 oM Tryz.prog (.load 3 (.tmp 0)) 3 [v7_5] (fun v8_6 w =>
 oM Tryz.prog (.binOp .eql 3 (.tmp 0) (.tmp 1) 3) 4 [v6_4, v8_6] (fun v9_7 w =>
 gdM (gd v9_7 true) (oM Tryz.prog (.fieldAddr 45 (.tmp 0) 1) 0 [v2_1]) (fun v11_8 w =>
 gdM (gd v9_7 true) (oM Tryz.prog (.load 3 (.tmp 0)) 3 [v11_8]) (fun v12_9 w =>
 gdM (gd v9_7 true) (oM Tryz.prog (.fieldAddr 45 (.tmp 0) 1) 0 [v3_2]) (fun v13_10 w =>
 gdM (gd v9_7 true) (oM Tryz.prog (.load 3 (.tmp 0)) 3 [v13_10]) (fun v14_11 w =>
 gdM (gd v9_7 true) (oM Tryz.prog (.binOp .eql 3 (.tmp 0) (.tmp 1) 3) 4 [v12_9, v14_11]) (fun v15_12 w =>
 oM Tryz.prog (.pick (.tmp 0) (.tmp 1) (.tmp 2)) 4 [v9_7, v15_12, (.bool false)] (fun v16_13 w =>
 gdM (gd v16_13 true) (oM Tryz.prog (.fieldAddr 45 (.tmp 0) 2) 0 [v2_1]) (fun v18_14 w =>
 gdM (gd v16_13 true) (oM Tryz.prog (.load 3 (.tmp 0)) 3 [v18_14]) (fun v19_15 w =>
 gdM (gd v16_13 true) (oM Tryz.prog (.fieldAddr 45 (.tmp 0) 2) 0 [v3_2]) (fun v20_16 w =>
 gdM (gd v16_13 true) (oM Tryz.prog (.load 3 (.tmp 0)) 3 [v20_16]) (fun v21_17 w =>
 gdM (gd v16_13 true) (oM Tryz.prog (.binOp .eql 3 (.tmp 0) (.tmp 1) 3) 4 [v19_15, v21_17]) (fun v22_18 w =>
 oM Tryz.prog (.pick (.tmp 0) (.tmp 1) (.tmp 2)) 4 [v16_13, v22_18, (.bool false)] (fun v23_19 w =>
 gdM (gd v23_19 true) (oM Tryz.prog (.fieldAddr 45 (.tmp 0) 3) 0 [v2_1]) (fun v25_20 w =>
 gdM (gd v23_19 true) (oM Tryz.prog (.load 22 (.tmp 0)) 22 [v25_20]) (fun v26_21 w =>
 gdM (gd v23_19 true) (oM Tryz.prog (.fieldAddr 45 (.tmp 0) 3) 0 [v3_2]) (fun v27_22 w =>
 gdM (gd v23_19 true) (oM Tryz.prog (.load 22 (.tmp 0)) 22 [v27_22]) (fun v28_23 w =>
 gdM (gd v23_19 true) (callM Tryz.prog 33 #[v26_21, v28_23]) (fun v29_24 w =>
 oM Tryz.prog (.pick (.tmp 0) (.tmp 1) (.tmp 2)) 4 [v23_19, v29_24, (.bool false)] (fun v30_25 w =>
 K v30_25 w) w) w) w) w) w) w) w) w) w) w) w) w) w) w) w) w) w) w) w) w) w) w) w) w) w
theorem sh_20_eq (a0 : Value) (a1 : Value) (K : Value → World → Prop) (w : World) : sh_20 a0 a1 K w = code Tryz.prog (fun _ => 0) 31 (Tryz.f20.body.getD .skip) (slotsAt [a0, a1]) (retK Tryz.prog [.tmp 4] K) w := by kernel_rfl
theorem sh_20_ok {a0 a1 : Value} {K : Value → World → Prop} {w : World} (h : sh_20 a0 a1 K w) : callM Tryz.prog 20 #[a0, a1] K w :=
  calls_of_code (fun _ => 0) (fn := Tryz.f20) (rs := [.tmp 4]) Tryz.func20 rfl rfl (by kernel_rfl) (Nat.le_of_ble_eq_true rfl) ((sh_20_eq a0 a1 K w).mp h)
end Go.Proofs
namespace Go.Proofs
open Go Go.Sh Go.RowKit FdSpec TkSpec CodeSpec
set_option linter.unusedSimpArgs false
set_option linter.unusedVariables false
set_option maxRecDepth 10000
section
variable {K : Value → World → Prop} {w w0 : World} {L : List (Addr × Value)}
end
end Go.Proofs
namespace Go.Proofs
open Go Go.Sh Go.RowKit FdSpec TkSpec CodeSpec
set_option linter.unusedSimpArgs false
set_option linter.unusedVariables false
set_option maxRecDepth 10000
section
variable {K : Value → World → Prop} {w w0 : World} {L : List (Addr × Value)}
end
end Go.Proofs
namespace Go.Proofs
open Go Go.Sh Go.RowKit FdSpec TkSpec CodeSpec
set_option linter.unusedSimpArgs false
set_option linter.unusedVariables false
set_option maxRecDepth 10000
section
variable {K : Value → World → Prop} {w w0 w1 : World} {L : List (Addr × Value)}
end
end Go.Proofs
namespace Go.Proofs
open Go Go.Sh Go.RowKit FdSpec TkSpec CodeSpec
set_option linter.unusedSimpArgs false
set_option linter.unusedVariables false
set_option maxRecDepth 10000
section
variable {K : Value → World → Prop} {w w0 : World} {L : List (Addr × Value)}
end
end Go.Proofs
namespace Go.Proofs
open Go Go.Sh Go.RowKit FdSpec TkSpec CodeSpec
set_option linter.unusedSimpArgs false
set_option linter.unusedVariables false
set_option maxRecDepth 10000
section
variable {K : Value → World → Prop} {w w0 : World} {L : List (Addr × Value)}
theorem makeM_g {g : Grp} {m : Mir} (h : (makeM g m).2 = true) : (makeM g m).1.g = g := by
  unfold makeM at h ⊢
  split at h
  · rename_i hc
    rw [if_pos hc]
  · cases h
end
end Go.Proofs
namespace Go.Proofs
open FdSpec TkSpec
theorem obtains_eq {s : Stp} {key : Int} {x : Ses} {b : Bld} {t : Tkt} {p : Spd} : obtainsM s key x b t p = true ↔ obtainedM s key x b = (t, true) ∧ (useM s x.attrs b p.dare).2 = true ∧ (useM s x.attrs b p.dare).1.dare = p.dare ∧ (useM s x.attrs b p.dare).1.answers = p.answers := by
  unfold obtainsM obtainedM
  have e : (askM s key x.attrs x.offer b).2 = askErr s key x.attrs x.offer b := rfl
  rw [e]
  by_cases h1 : askErr s key x.attrs x.offer b = 0
  · by_cases h2 : (askM s key x.attrs x.offer b).1 = x.c
    · simp [h1, h2, Prod.ext_iff, and_assoc, and_comm, and_left_comm]
    · simp [h1, h2]
  · simp [h1]
section
open TpA
variable {g : Grp} {m : Mir} {s : Stp} {attrs attrs' : List Int} {b : Bld} {x w w' n : Int}
theorem own_obtained (h : Hon g m s attrs b x w) (hi : innerQ s (askTkt s attrs (proposeM s x attrs w).1 b) ≠ 0) : obtainedM s (publicM s x) (hSes s attrs b x w) b = (hT s attrs b x w, true) := by
  have e0 : askErr s (publicM s x) (hSes s attrs b x w).attrs (hSes s attrs b x w).offer b = 0 := by
    show askErr s (publicM s x) attrs (proposeM s x attrs w).1 b = 0
    rw [h.err, if_neg hi]
  have e1 : (askM s (publicM s x) (hSes s attrs b x w).attrs (hSes s attrs b x w).offer b).1 = (hSes s attrs b x w).c := by
    unfold askM
    rw [e0]; rfl
  unfold obtainedM
  rw [e0, e1]
  have hf := h.finish hi (grantM s x w (askC s attrs (proposeM s x attrs w).1 b))
  rw [if_pos (h.grant h.chal.2).2, if_pos rfl] at hf
  show (if decide ((0 : Int) = 0) && decide ((hSes s attrs b x w).c = (hSes s attrs b x w).c) then ((finishM s (publicM s x) attrs (proposeM s x attrs w).1 b (grantM s x w (askC s attrs (proposeM s x attrs w).1 b))).1, decide ((finishM s (publicM s x) attrs (proposeM s x attrs w).1 b (grantM s x w (askC s attrs (proposeM s x attrs w).1 b))).2 = 0)) else (zT, false)) = _
  rw [hf]
  simp [hT]
theorem make_mirrors {g : Grp} {m : Mir} (h : (makeM g m).2 = true) : mirrorsM (makeM g m).1 m = true := by
  unfold mirrorsM
  rw [makeM_g h, h]
  simp
theorem expl_yes (h : Hon g m s attrs b x w) (o : Oth g m s attrs' w' n) (hm : mirrorsM s m = true) (hi : innerQ s (askTkt s attrs (proposeM s x attrs w).1 b) ≠ 0)
    (hir : 0 ≤ innerQ s (askTkt s attrs (proposeM s x attrs w).1 b) ∧ innerQ s (askTkt s attrs (proposeM s x attrs w).1 b) < s.g.Q) {d : Int} (hd : 1 ≤ d ∧ d < s.g.Q) :
    explainM s m (publicM s x) (hSes s attrs b x w) b (oSes s attrs' x w' n) d = (eB s m attrs attrs' b x w w' n d, true) := by
  have ho := own_obtained h hi
  have hu : (useM s attrs b d).2 = true := by rw [h.use_ok hd]
  have hg : 0 ≤ grantM s x w' n ∧ grantM s x w' n < s.g.Q := ((⟨h.md, h.us, h.bl, h.hx, o.hw⟩ : Hon g m s attrs b x w').grant (c := n) ⟨by have := o.hn; omega, o.hn.2⟩).2
  have hf : explFine s m (publicM s x) (hSes s attrs b x w) b (oSes s attrs' x w' n) d = true := by
    unfold explFine
    rw [ho, hm]
    show (((((true && (useM s attrs b d).2) && (usableM s attrs').2) && true) && numsM s 1 [n]) && numsM s 0 [grantM s x w' n]) = true
    rw [hu, o.us, nums_one.mpr o.hn, nums_one.mpr hg]
    rfl
  have hB : explB' s m (publicM s x) (hSes s attrs b x w) b (oSes s attrs' x w' n) d = eB s m attrs attrs' b x w w' n d := by
    unfold explB' eB
    rw [ho]
    rfl
  unfold explainM
  rw [if_pos hf, hB, ho, eB_obtains h o hi hir hd]
  simp
theorem blind_all (h : Hon g m s attrs b x w) (o : Oth g m s attrs' w' n) (hi : innerQ s (askTkt s attrs (proposeM s x attrs w).1 b) ≠ 0)
    (hir : 0 ≤ innerQ s (askTkt s attrs (proposeM s x attrs w).1 b) ∧ innerQ s (askTkt s attrs (proposeM s x attrs w).1 b) < s.g.Q) {d : Int} (hd : 1 ≤ d ∧ d < s.g.Q) :
    obtainsM s (publicM s x) (oSes s attrs' x w' n) (eB s m attrs attrs' b x w w' n d) (hT s attrs b x w) (useM s attrs b d).1 = true ∧
    ∀ c : Bld, obtainsM s (publicM s x) (oSes s attrs' x w' n) c (hT s attrs b x w) (useM s attrs b d).1 = true → c = eB s m attrs attrs' b x w w' n d := by
  have hbl := eB_blinds h o hi hir hd
  have ed : (useM s attrs b d).1.dare = d := by rw [h.use_ok hd]
  refine ⟨obtains_eq.mpr ⟨eB_obtains h o hi hir hd, ?_⟩, fun c hc => ?_⟩
  · rw [ed]
    show (useM s attrs' _ d).2 = true ∧ (useM s attrs' _ d).1.dare = d ∧ (useM s attrs' _ d).1.answers = _
    have hB := eB_hon h o hbl
    refine ⟨by rw [hB.use_ok hd], by rw [hB.use_ok hd], by rw [eB_spend h o hd hbl]⟩
  · obtain ⟨h1, h2, _, h4⟩ := obtains_eq.mp hc
    rw [ed] at h2 h4
    have hc2 : blindsM s c = true := by
      have h2 : (useM s attrs' c d).2 = true := h2
      unfold useM at h2
      split at h2
      · rename_i hh
        simp only [Bool.and_eq_true] at hh
        exact hh.1.2
      · cases h2
    exact eB_only h o hi hd hbl hc2 h1 h4
end
end Go.Proofs
set_option linter.unusedVariables false
set_option maxRecDepth 100000
namespace Go.Proofs
open Go.Sh
def sh_8 (a0 : Value) (a1 : Value) (a2 : Value) (a3 : Value) (a4 : Value) (a5 : Value) (K : Value → World → Prop) (w : World) : Prop :=
 oM Tryz.prog (.box 63 (.tmp 0)) 0 [a0] (fun v6_1 w =>
 oM Tryz.prog (.box 45 (.tmp 0)) 0 [a5] (fun v11_2 w =>
 callM Tryz.prog 21 #[] (fun v25_3 w =>
 oM Tryz.prog (.load 63 (.tmp 0)) 63 [v6_1] (fun v27_4 w =>
 callM Tryz.prog 30 #[v27_4] (fun v28_5 w =>
 oM Tryz.prog (.extract (.tmp 0) 0) 32 [v28_5] (fun v29_6 w =>
 oM Tryz.prog (.extract (.tmp 0) 1) 39 [v28_5] (fun v30_7 w =>
 oM Tryz.prog (.extract (.tmp 0) 2) 41 [v28_5] (fun v31_8 w =>
 oM Tryz.prog (.extract (.tmp 0) 3) 4 [v28_5] (fun v32_9 w =>
 oM Tryz.prog (.alloc 32) 0 [] (fun v14_10 w =>
 oM Tryz.prog (.alloc 39) 0 [] (fun v15_11 w =>
 oM Tryz.prog (.alloc 41) 0 [] (fun v16_12 w =>
 oM Tryz.prog (.store 32 (.tmp 0) (.tmp 1)) 0 [v14_10, v29_6] (fun _ w =>
 oM Tryz.prog (.store 39 (.tmp 0) (.tmp 1)) 0 [v15_11, v30_7] (fun _ w =>
 oM Tryz.prog (.store 41 (.tmp 0) (.tmp 1)) 0 [v16_12, v31_8] (fun _ w =>
 oM Tryz.prog (.unOp .not 4 (.tmp 0)) 4 [v32_9] (fun v34_13 w =>
 gdM (gd v34_13 false) (pureM a2) (fun v36_14 w =>
 gdM (gd v34_13 false) (oM Tryz.prog (.call (Go.Call.mk (.builtin .len) #[(.tmp 0)] #[22])) 3 [v36_14]) (fun v37_15 w =>
 gdM (gd v34_13 false) (oM Tryz.prog (.binOp .gtr 3 (.tmp 0) (.tmp 1) 3) 4 [v37_15, (.int .i64 9)]) (fun v38_16 w =>
 oM Tryz.prog (.pick (.tmp 0) (.tmp 1) (.tmp 2)) 4 [v34_13, (.bool true), v38_16] (fun v39_17 w =>
 gdM (gd v39_17 false) (oM Tryz.prog (.fieldAddr 45 (.tmp 0) 3) 0 [v11_2]) (fun v41_18 w =>
 gdM (gd v39_17 false) (oM Tryz.prog (.load 22 (.tmp 0)) 22 [v41_18]) (fun v42_19 w =>
 gdM (gd v39_17 false) (oM Tryz.prog (.call (Go.Call.mk (.builtin .len) #[(.tmp 0)] #[22])) 3 [v42_19]) (fun v43_20 w =>
 gdM (gd v39_17 false) (oM Tryz.prog (.binOp .gtr 3 (.tmp 0) (.tmp 1) 3) 4 [v43_20, (.int .i64 9)]) (fun v44_21 w =>
 oM Tryz.prog (.pick (.tmp 0) (.tmp 1) (.tmp 2)) 4 [v39_17, (.bool true), v44_21] (fun v45_22 w =>
 condM v45_22
 (K v25_3 w)
 (oM Tryz.prog (.load 32 (.tmp 0)) 32 [v14_10] (fun v48_23 w =>
 oM Tryz.prog (.fieldAddr 63 (.tmp 0) 2) 0 [v6_1] (fun v49_24 w =>
 oM Tryz.prog (.load 3 (.tmp 0)) 3 [v49_24] (fun v50_25 w =>
 callM Tryz.prog 40 #[v48_23, v50_25, a2, a3, a4] (fun v54_26 w =>
 oM Tryz.prog (.extract (.tmp 0) 0) 39 [v54_26] (fun v55_27 w =>
 oM Tryz.prog (.extract (.tmp 0) 1) 4 [v54_26] (fun v56_28 w =>
 oM Tryz.prog (.alloc 39) 0 [] (fun v18_29 w =>
 oM Tryz.prog (.store 39 (.tmp 0) (.tmp 1)) 0 [v18_29, v55_27] (fun _ w =>
 oM Tryz.prog (.load 32 (.tmp 0)) 32 [v14_10] (fun v58_30 w =>
 oM Tryz.prog (.fieldAddr 63 (.tmp 0) 4) 0 [v6_1] (fun v59_31 w =>
 oM Tryz.prog (.load 22 (.tmp 0)) 22 [v59_31] (fun v60_32 w =>
 oM Tryz.prog (.fieldAddr 63 (.tmp 0) 5) 0 [v6_1] (fun v61_33 w =>
 oM Tryz.prog (.load 45 (.tmp 0)) 45 [v61_33] (fun v62_34 w =>
 callM Tryz.prog 15 #[v58_30, v60_32, v62_34, a1] (fun v64_35 w =>
 oM Tryz.prog (.extract (.tmp 0) 0) 49 [v64_35] (fun v65_36 w =>
 oM Tryz.prog (.extract (.tmp 0) 1) 4 [v64_35] (fun v66_37 w =>
 oM Tryz.prog (.alloc 49) 0 [] (fun v20_38 w =>
 oM Tryz.prog (.store 49 (.tmp 0) (.tmp 1)) 0 [v20_38, v65_36] (fun _ w =>
 oM Tryz.prog (.unOp .not 4 (.tmp 0)) 4 [v56_28] (fun v68_39 w =>
 gdM (gd v68_39 false) (pureM v66_37) (fun v70_40 w =>
 gdM (gd v68_39 false) (oM Tryz.prog (.unOp .not 4 (.tmp 0)) 4 [v70_40]) (fun v71_41 w =>
 oM Tryz.prog (.pick (.tmp 0) (.tmp 1) (.tmp 2)) 4 [v68_39, (.bool true), v71_41] (fun v72_42 w =>
 condM v72_42
 (K v25_3 w)
 (oM Tryz.prog (.load 32 (.tmp 0)) 32 [v14_10] (fun v74_43 w =>
 oM Tryz.prog (.fieldAddr 63 (.tmp 0) 2) 0 [v6_1] (fun v75_44 w =>
 oM Tryz.prog (.load 3 (.tmp 0)) 3 [v75_44] (fun v76_45 w =>
 callM Tryz.prog 13 #[v74_43, v76_45] (fun v77_46 w =>
 oM Tryz.prog (.load 32 (.tmp 0)) 32 [v14_10] (fun v79_47 w =>
 oM Tryz.prog (.fieldAddr 63 (.tmp 0) 1) 0 [v6_1] (fun v80_48 w =>
 oM Tryz.prog (.load 24 (.tmp 0)) 24 [v80_48] (fun v81_49 w =>
 oM Tryz.prog (.load 39 (.tmp 0)) 39 [v15_11] (fun v83_50 w =>
 oM Tryz.prog (.fieldAddr 63 (.tmp 0) 5) 0 [v6_1] (fun v84_51 w =>
 oM Tryz.prog (.load 45 (.tmp 0)) 45 [v84_51] (fun v85_52 w =>
 oM Tryz.prog (.load 39 (.tmp 0)) 39 [v18_29] (fun v86_53 w =>
 callM Tryz.prog 16 #[v79_47, v81_49, v77_46, v83_50, v85_52, v86_53, a1] (fun v88_54 w =>
 oM Tryz.prog (.extract (.tmp 0) 0) 45 [v88_54] (fun v89_55 w =>
 oM Tryz.prog (.extract (.tmp 0) 1) 4 [v88_54] (fun v90_56 w =>
 oM Tryz.prog (.alloc 45) 0 [] (fun v23_57 w =>
 oM Tryz.prog (.store 45 (.tmp 0) (.tmp 1)) 0 [v23_57, v89_55] (fun _ w =>
 oM Tryz.prog (.unOp .not 4 (.tmp 0)) 4 [v90_56] (fun v92_58 w =>
 gdM (gd v92_58 false) (oM Tryz.prog (.load 32 (.tmp 0)) 32 [v14_10]) (fun v94_59 w =>
 gdM (gd v92_58 false) (pureM v77_46) (fun v95_60 w =>
 gdM (gd v92_58 false) (oM Tryz.prog (.load 39 (.tmp 0)) 39 [v18_29]) (fun v96_61 w =>
 gdM (gd v92_58 false) (oM Tryz.prog (.load 45 (.tmp 0)) 45 [v23_57]) (fun v97_62 w =>
 gdM (gd v92_58 false) (oM Tryz.prog (.load 41 (.tmp 0)) 41 [v16_12]) (fun v98_63 w =>
 gdM (gd v92_58 false) (oM Tryz.prog (.load 49 (.tmp 0)) 49 [v20_38]) (fun v99_64 w =>
 gdM (gd v92_58 false) (callM Tryz.prog 41 #[v94_59, v95_60, v96_61, v97_62, v98_63, v99_64]) (fun v100_65 w =>
 gdM (gd v92_58 false) (oM Tryz.prog (.unOp .not 4 (.tmp 0)) 4 [v100_65]) (fun v101_66 w =>
 oM Tryz.prog (.pick (.tmp 0) (.tmp 1) (.tmp 2)) 4 [v92_58, (.bool true), v101_66] (fun v102_67 w =>
 condM v102_67
 (K (.bool false) w)
 (gdM (gd v25_3 true) (oM Tryz.prog (.load 32 (.tmp 0)) 32 [v14_10]) (fun v105_68 w =>
 gdM (gd v25_3 true) (pureM v77_46) (fun v106_69 w =>
 gdM (gd v25_3 true) (oM Tryz.prog (.load 39 (.tmp 0)) 39 [v18_29]) (fun v107_70 w =>
 gdM (gd v25_3 true) (oM Tryz.prog (.load 45 (.tmp 0)) 45 [v11_2]) (fun v108_71 w =>
 gdM (gd v25_3 true) (oM Tryz.prog (.load 41 (.tmp 0)) 41 [v16_12]) (fun v109_72 w =>
 gdM (gd v25_3 true) (oM Tryz.prog (.load 49 (.tmp 0)) 49 [v20_38]) (fun v110_73 w =>
 gdM (gd v25_3 true) (callM Tryz.prog 41 #[v105_68, v106_69, v107_70, v108_71, v109_72, v110_73]) (fun v111_74 w =>
 gdM (gd v25_3 true) (oM Tryz.prog (.unOp .not 4 (.tmp 0)) 4 [v111_74]) (fun v112_75 w =>
 gdM (gd v25_3 true) (pureM v112_75) (fun v113_76 w =>
 gdM (gd v113_76 false) (oM Tryz.prog (.load 45 (.tmp 0)) 45 [v11_2]) (fun v114_77 w =>
 gdM (gd v113_76 false) (oM Tryz.prog (.load 45 (.tmp 0)) 45 [v23_57]) (fun v115_78 w =>
 gdM (gd v113_76 false) (callM Tryz.prog 20 #[v114_77, v115_78]) (fun v116_79 w =>
 gdM (gd v25_3 true) (oM Tryz.prog (.pick (.tmp 0) (.tmp 1) (.tmp 2)) 4 [v113_76, (.bool true), v116_79]) (fun v117_80 w =>
 oM Tryz.prog (.pick (.tmp 0) (.tmp 1) (.tmp 2)) 4 [v25_3, v117_80, (.bool false)] (fun v118_81 w =>
 K v118_81 w) w) w) w) w) w) w) w) w) w) w) w) w) w) w)) w) w) w) w) w) w) w) w) w) w) w) w) w) w) w) w) w) w) w) w) w) w) w) w) w) w)) w) w) w) w) w) w) w) w) w) w) w) w) w) w) w) w) w) w) w) w) w) w)) w) w) w) w) w) w) w) w) w) w) w) w) w) w) w) w) w) w) w) w) w) w) w) w) w
theorem sh_8_eq (a0 : Value) (a1 : Value) (a2 : Value) (a3 : Value) (a4 : Value) (a5 : Value) (K : Value → World → Prop) (w : World) : sh_8 a0 a1 a2 a3 a4 a5 K w = code Tryz.prog (fun _ => 0) 119 (Tryz.f8.body.getD .skip) (slotsAt [a0, a1, a2, a3, a4, a5]) (retK Tryz.prog [.tmp 12] K) w := by kernel_rfl
theorem sh_8_ok {a0 a1 a2 a3 a4 a5 : Value} {K : Value → World → Prop} {w : World} (h : sh_8 a0 a1 a2 a3 a4 a5 K w) : callM Tryz.prog 8 #[a0, a1, a2, a3, a4, a5] K w :=
  calls_of_code (fun _ => 0) (fn := Tryz.f8) (rs := [.tmp 12]) Tryz.func8 rfl rfl (by kernel_rfl) (Nat.le_of_ble_eq_true rfl) ((sh_8_eq a0 a1 a2 a3 a4 a5 K w).mp h)
end Go.Proofs
namespace Go.Proofs
open Go Go.Sh Go.RowKit FdSpec TkSpec CodeSpec
set_option linter.unusedSimpArgs false
set_option linter.unusedVariables false
set_option maxRecDepth 10000
section
variable {K : Value → World → Prop} {w w0 : World} {L : List (Addr × Value)}
theorem local_sesK {K : Value → World → Prop} {T' T2 : TypeId} (x : Ses) (ad : Option Addr) (m c : Nat) (hk : Kn w0 L w)
    (k : ∀ b W, Kn w0 (cellsOf L b 0 (sesC x (.slice ad m c))) W → Below w.heap.size w W → w.heap.size ≤ b → K (.pointer (some ⟨b, 0, none⟩)) W) :
    oM Tryz.prog (.alloc 39) T' [] (fun v w => oM Tryz.prog (.store 39 (.tmp 0) (.tmp 1)) T2 [v, sesV x (.slice ad m c)] (fun _ w => K v w) w) w :=
  local_kn al_ses rfl sz_ses rfl rfl (ses_one x ad m c) hk k
theorem local_bldK {K : Value → World → Prop} {T' T2 : TypeId} (x : Bld) (ad : Option Addr) (m c : Nat) (hk : Kn w0 L w)
    (k : ∀ b W, Kn w0 (cellsOf L b 0 (bldC x (.slice ad m c))) W → Below w.heap.size w W → w.heap.size ≤ b → K (.pointer (some ⟨b, 0, none⟩)) W) :
    oM Tryz.prog (.alloc 45) T' [] (fun v w => oM Tryz.prog (.store 45 (.tmp 0) (.tmp 1)) T2 [v, bldV x (.slice ad m c)] (fun _ w => K v w) w) w :=
  local_kn al_bld rfl sz_bld rfl rfl (bld_one x ad m c) hk k
theorem inn_range {s : Stp} (hv : validG s.g = true) (t : Tkt) : 0 ≤ innerQ s t ∧ innerQ s t < s.g.Q := by
  have hq := (GrLaw.gv_of hv).okQ
  have key : ∀ (l : List UInt8) (o : Int), 0 ≤ o ∧ o < s.g.Q → 0 ≤ l.foldl (numStep s.g.Q) o ∧ l.foldl (numStep s.g.Q) o < s.g.Q := by
    intro l
    induction l with
    | nil => exact fun o h => h
    | cons a l ih => exact fun o _ => ih _ (addM_range _ _ _ hq)
  unfold innerQ numberM
  rw [if_pos hq]
  exact key _ 0 ⟨by omega, hq.1⟩
theorem another_oth {g : Grp} {m : Mir} {s : Stp} {x w' n : Int} {l : List Int} (h : (anotherM s x l w' n).2 = true) : TpA.Oth g m s l w' n ∧ (anotherM s x l w' n).1 = TpA.oSes s l x w' n := by
  unfold anotherM at h ⊢
  split at h
  · cases h
  · rename_i hc
    rw [if_neg hc]
    have hp : (proposeM s x l w').2 = 0 := by
      refine Decidable.byContradiction fun hp => hc (.inl hp)
    refine ⟨?_, rfl⟩
    unfold proposeM at hp
    split at hp
    · rename_i h1
      simp only [Bool.and_eq_true] at h1
      exact ⟨h1.1.1, TpA.nums_one.mp h1.2, by omega⟩
    · cases hp
theorem made_mir {c : Cas} (hmd : (madeM c).2 = true) : mirrorsM (madeM c).1 c.m = true := by
  unfold madeM at hmd ⊢
  split at hmd
  · rename_i h0
    rw [if_pos h0]
    exact make_mirrors hmd
  · cases hmd
theorem SameBld_ok (x y : Bld) {v u : Value} (hx : BldR w x v) (hy : BldR w y u) (k : ∀ w', Below w.heap.size w w' → K (.bool (decide (x = y))) w') : callM Tryz.prog 20 #[bldV x v, bldV y u] K w := by
  apply sh_20_ok
  unfold sh_20
  have hx' := hx.ys
  have hy' := hy.ys
  obtain ⟨ad, c, rfl⟩ := hx.ys.isSlice
  obtain ⟨ad2, c2, rfl⟩ := hy.ys.isSlice
  refine box_kn (cs := bldC x (.slice ad x.ys.length c)) rfl (.start w) fun b1 W hk hb1 hbb => ?_
  refine box_kn (cs := bldC y (.slice ad2 y.ys.length c2)) rfl hk fun b2 W2 hk hb2 hbb => ?_
  have e : decide (x = y) = (decide (x.s = y.s) && (decide (x.u = y.u) && (decide (x.v = y.v) && decide (x.ys = y.ys)))) := by
    obtain ⟨a, b, c, d⟩ := x
    obtain ⟨a', b', c', d'⟩ := y
    rw [Bool.eq_iff_iff]
    simp
  rw [e] at k
  by_cases h1 : x.s = y.s
  rotate_left
  · rw [decide_eq_false h1, Bool.false_and] at k
    repeat (any_goals (first
    | (with_reducible first|((refine idGd ?_); refine zB ?_)|((refine idPick ?_); refine yC ?_))
    | ((with_reducible refine idO ?_); (with_reducible refine oM_gen fun Kv hK=>?_); simp [go_sem, hk.cells, h1]; refine hK _ _ ?_; clear hK; clear Kv)))
    exact k _ hk.below
  rw [decide_eq_true h1, Bool.true_and] at k
  by_cases h2 : x.u = y.u
  rotate_left
  · rw [decide_eq_false h2, Bool.false_and] at k
    repeat (any_goals (first
    | (with_reducible first|((refine idGd ?_); first|refine zA ?_|refine zB ?_)|((refine idPick ?_); first|refine yB ?_|refine yC ?_))
    | ((with_reducible refine idO ?_); (with_reducible refine oM_gen fun Kv hK=>?_); simp [go_sem, hk.cells, h1, h2]; refine hK _ _ ?_; clear hK; clear Kv)))
    exact k _ hk.below
  rw [decide_eq_true h2, Bool.true_and] at k
  by_cases h3 : x.v = y.v
  rotate_left
  · rw [decide_eq_false h3, Bool.false_and] at k
    repeat (any_goals (first
    | (with_reducible first|((refine idGd ?_); first|refine zA ?_|refine zB ?_)|((refine idPick ?_); first|refine yB ?_|refine yC ?_))
    | ((with_reducible refine idO ?_); (with_reducible refine oM_gen fun Kv hK=>?_); simp [go_sem, hk.cells, h1, h2, h3]; refine hK _ _ ?_; clear hK; clear Kv)))
    exact k _ hk.below
  rw [decide_eq_true h3, Bool.true_and] at k
  repeat (any_goals (first
  | (with_reducible first|((refine idGd ?_); refine zA ?_)|((refine idPick ?_); refine yB ?_))
  | ((with_reducible refine idO ?_); (with_reducible refine oM_gen fun Kv hK=>?_); simp [go_sem, hk.cells, h1, h2, h3]; refine hK _ _ ?_; clear hK; clear Kv)))
  refine Same_ok (hx'.next hk.below) (hy'.next hk.below) (fun w3 h => ?_)
  have k := k _ (hk.next h).below
  generalize decide (x.ys = y.ys) = q at *
  repeat (any_goals (with_reducible ((refine idPick ?_); refine yB ?_)))
  exact k
theorem blind_ok (c : Cas) (dare w' n : Int) (other : Bld) {mv av yv lv ov : Value} {l : List Int} (hd : I64 dare) (hw' : I64 w') (hn : I64 n) (hT : DbT w) (hL : Cd.Laid w) (hc : CasR w c mv av yv) (hl : Ints w lv l) (ho : BldR w other ov) (k : ∀ w', Below w.heap.size w w' → K (.bool true) w') :
    callM Tryz.prog 8 #[casV c mv av yv, .int .i64 dare, lv, .int .i64 w', .int .i64 n, bldV other ov] K w := by
  apply sh_8_ok
  unfold sh_8
  have hc' := hc
  have hl' := hl
  have ho' := ho
  obtain ⟨mad, mc, rfl⟩ := hc.m.ints.isSlice
  obtain ⟨aad, ac, rfl⟩ := hc.attrs.isSlice
  obtain ⟨yad, yc, rfl⟩ := hc.b.ys.isSlice
  obtain ⟨lad, lc, rfl⟩ := hl.isSlice
  obtain ⟨oad, oc, rfl⟩ := ho.ys.isSlice
  refine box_kn (cs := casC c (.slice mad c.m.bases.length mc) (.slice aad c.attrs.length ac) (.slice yad c.b.ys.length yc)) rfl (.start w) fun b1 W hk hb1 hbb => ?_
  refine box_kn (cs := bldC other (.slice oad other.ys.length oc)) rfl hk fun b2 W2 hk hb2 hbb2 => ?_
  clear hb1 hb2
  refine sane_ok (hT.next hk.below) (hL.below hk.below hL.size) (fun w1 h => ?_)
  have hk := hk.next h
  clear h
  repeat (any_goals ((with_reducible refine idO ?_); (with_reducible refine oM_gen fun Kv hK=>?_); simp [go_sem, hk.cells]; refine hK _ _ ?_; clear hK; clear Kv))
  refine issued_ok c (hT.next hk.below) (hL.below hk.below hL.size) (hc'.next hk.below) (fun w2 sv xv h hs hx ht => ?_)
  have hk := hk.next h
  clear h
  obtain ⟨sad, sc, rfl⟩ := hs.ints.isSlice
  obtain ⟨xad, xc, rfl⟩ := hx.attrs.isSlice
  iterate 4 (any_goals ((with_reducible refine idO ?_); (with_reducible refine oM_gen fun Kv hK=>?_); simp [go_sem]; refine hK _ _ ?_; clear hK; clear Kv))
  refine local3 _ _ _ _ _ _ _ _ _ hk (fun g1 g2 g3 w3 hk h => ?_)
  have hs := hs.next h
  have hx := hx.next h
  clear h
  cases hok : (issuedM c).ok with
  | false =>
    repeat (any_goals (first
    | (with_reducible first|((refine idGd ?_); refine zD ?_)|((refine idPick ?_); refine yB ?_)|((refine idCond ?_); refine yL ?_))
    | ((with_reducible refine idO ?_); (with_reducible refine oM_gen fun Kv hK=>?_); simp [go_sem]; refine hK _ _ ?_; clear hK; clear Kv)))
    exact k _ hk.below
  | true =>
  obtain ⟨hsm, hmd, es, hh, hi, ex, et⟩ := issued_hon hok
  rw [es, et, ex] at hk
  rw [es] at hs
  rw [ex] at hx
  rw [et] at ht
  by_cases hln : l.length ≤ 9
  rotate_left
  · repeat (any_goals (first
    | (with_reducible first|refine pureM_in ?_|((refine idGd ?_); first|refine zC ?_|((refine idGdD ?_); refine zJ ?_))|((refine idPick ?_); first|refine yC ?_|refine yD ?_)|((refine idCond ?_); refine yL ?_))
    | ((with_reducible refine idO ?_); (with_reducible refine oM_gen fun Kv hK=>?_); simp [go_sem, Nat.not_le.mp hln, hln]; refine hK _ _ ?_; clear hK; clear Kv)))
    exact k _ hk.below
  by_cases hlo : other.ys.length ≤ 9
  rotate_left
  · repeat (any_goals (first
    | (with_reducible first|refine pureM_in ?_|((refine idGd ?_); first|refine zC ?_|((refine idGdD ?_); refine zI ?_))|((refine idPick ?_); first|refine yC ?_|refine yE ?_)|((refine idCond ?_); refine yN ?_))
    | ((with_reducible refine idO ?_); (with_reducible refine oM_gen fun Kv hK=>?_); simp [go_sem, hk.cells, hln, Nat.not_lt.mpr hln, Nat.not_le.mp hlo, hlo]; refine hK _ _ ?_; clear hK; clear Kv)))
    exact k _ hk.below
  repeat (any_goals (first
  | (with_reducible first|refine pureM_in ?_|((refine idGd ?_); first|refine zC ?_|((refine idGdD ?_); refine zI ?_))|((refine idPick ?_); first|refine yC ?_|refine yE ?_)|((refine idCond ?_); refine yO ?_))
  | ((with_reducible refine idO ?_); (with_reducible refine oM_gen fun Kv hK=>?_); simp [go_sem, hk.cells, hln, Nat.not_lt.mpr hln, hlo, Nat.not_lt.mpr hlo]; refine hK _ _ ?_; clear hK; clear Kv)))
  refine another_ok (madeM c).1 c.x w' n hc'.x hw' hn hs (hl'.next hk.below) (fun w4 tv h htv => ?_)
  have hk := hk.next h
  have hs := hs.next h
  have hx := hx.next h
  clear h
  obtain ⟨tad, tc, rfl⟩ := htv.attrs.isSlice
  iterate 2 (any_goals ((with_reducible refine idO ?_); (with_reducible refine oM_gen fun Kv hK=>?_); simp [go_sem]; refine hK _ _ ?_; clear hK; clear Kv))
  refine local_sesK _ _ _ _ hk (fun g4 w5 hk h hg4 => ?_)
  have hs := hs.next h
  have hx := hx.next h
  have htv := htv.next h
  clear h
  repeat (any_goals ((with_reducible refine idO ?_); (with_reducible refine oM_gen fun Kv hK=>?_); simp [go_sem, hk.cells]; refine hK _ _ ?_; clear hK; clear Kv))
  refine Use_ok (madeM c).1 c.b dare hd hs (hc'.attrs.next hk.below) (hc'.b.next hk.below) (fun w6 uv h hu => ?_)
  have hk := hk.next h
  have hs := hs.next h
  have hx := hx.next h
  have htv := htv.next h
  clear h
  obtain ⟨uad, uc, rfl⟩ := hu.isSlice
  iterate 2 (any_goals ((with_reducible refine idO ?_); (with_reducible refine oM_gen fun Kv hK=>?_); simp [go_sem]; refine hK _ _ ?_; clear hK; clear Kv))
  refine local_spdK _ _ _ _ hk (fun g5 w7 hk h hg5 => ?_)
  have hs := hs.next h
  have hx := hx.next h
  have htv := htv.next h
  have hu := spd_R hd (hu.next h)
  clear h
  cases han : (anotherM (madeM c).1 c.x l w' n).2 with
  | false =>
    repeat (any_goals (first
    | (with_reducible first|((refine idGd ?_); refine zD ?_)|((refine idPick ?_); refine yB ?_)|((refine idCond ?_); refine yL ?_))
    | ((with_reducible refine idO ?_); (with_reducible refine oM_gen fun Kv hK=>?_); simp [go_sem]; refine hK _ _ ?_; clear hK; clear Kv)))
    exact k _ hk.below
  | true =>
  by_cases hdr : 1 ≤ dare ∧ dare < (madeM c).1.g.Q
  rotate_left
  · have e := hh.use_no hdr
    repeat (any_goals (first
    | (with_reducible first|refine pureM_in ?_|((refine idGd ?_); refine zC ?_)|((refine idPick ?_); refine yC ?_)|((refine idCond ?_); refine yL ?_))
    | ((with_reducible refine idO ?_); (with_reducible refine oM_gen fun Kv hK=>?_); simp [go_sem, hk.cells, e]; refine hK _ _ ?_; clear hK; clear Kv)))
    exact k _ hk.below
  have e1 : (useM (madeM c).1 c.attrs c.b dare).2 = true := by rw [hh.use_ok hdr]
  have hoth : TpA.Oth (makeG c.q).1 c.m (madeM c).1 l w' n ∧ (anotherM (madeM c).1 c.x l w' n).1 = TpA.oSes (madeM c).1 l c.x w' n := another_oth han
  obtain ⟨oth, eo⟩ := hoth
  rw [eo] at hk htv
  have hir := inn_range hh.md.v (askTkt (madeM c).1 c.attrs (proposeM (madeM c).1 c.x c.attrs c.w).1 c.b)
  have hxp := expl_yes hh oth (made_mir hmd) hi hir hdr
  obtain ⟨hyes, honly⟩ := blind_all hh oth hi hir hdr
  have hB : TpA.eB (madeM c).1 c.m c.attrs l c.b c.x c.w w' n dare = (explainM (madeM c).1 c.m (publicM (madeM c).1 c.x) (TpA.hSes (madeM c).1 c.attrs c.b c.x c.w) c.b (TpA.oSes (madeM c).1 l c.x w' n) dare).1 := by rw [hxp]
  repeat (any_goals (first
  | (with_reducible first|refine pureM_in ?_|((refine idGd ?_); refine zC ?_)|((refine idPick ?_); refine yC ?_)|((refine idCond ?_); refine yM ?_))
  | ((with_reducible refine idO ?_); (with_reducible refine oM_gen fun Kv hK=>?_); simp [go_sem, hk.cells, e1]; refine hK _ _ ?_; clear hK; clear Kv)))
  refine Public_ok (madeM c).1 c.x hc'.x hs (fun w8 h => ?_)
  have hk := hk.next h
  have hs := hs.next h
  have hx := hx.next h
  have htv := htv.next h
  have hu := hu.next h
  clear h
  repeat (any_goals ((with_reducible refine idO ?_); (with_reducible refine oM_gen fun Kv hK=>?_); simp [go_sem, hk.cells]; refine hK _ _ ?_; clear hK; clear Kv))
  refine Explain_ok (madeM c).1 c.m _ dare _ c.b _ (publicM_I64 _ _) hd hs (hc'.m.next hk.below) hx (hc'.b.next hk.below) htv (hL.below hk.below hL.size) (fun w9 fv h hf => ?_)
  have hk := hk.next h
  have hs := hs.next h
  have hx := hx.next h
  have htv := htv.next h
  have hu := hu.next h
  clear h
  rw [hxp] at hf ⊢
  dsimp only at hf ⊢
  obtain ⟨fad, fc, rfl⟩ := hf.ys.isSlice
  iterate 2 (any_goals ((with_reducible refine idO ?_); (with_reducible refine oM_gen fun Kv hK=>?_); simp [go_sem]; refine hK _ _ ?_; clear hK; clear Kv))
  refine local_bldK _ _ _ _ hk (fun g6 w10 hk h hg6 => ?_)
  have hs := hs.next h
  have htv := htv.next h
  have hu := hu.next h
  have hf := hf.next h
  clear h
  repeat (any_goals (first
  | (with_reducible first|refine pureM_in ?_|((refine idGd ?_); refine zC ?_))
  | ((with_reducible refine idO ?_); (with_reducible refine oM_gen fun Kv hK=>?_); simp [go_sem, hk.cells]; refine hK _ _ ?_; clear hK; clear Kv)))
  refine obtains_ok (madeM c).1 (publicM (madeM c).1 c.x) _ _ _ _ (publicM_I64 _ _) hs htv hf ht hu (hL.below hk.below hL.size) (fun w11 h => ?_)
  have hk := hk.next h
  have hs := hs.next h
  have htv := htv.next h
  have hu := hu.next h
  have hf := hf.next h
  clear h
  rw [hyes]
  repeat (any_goals (first
  | (with_reducible first|refine pureM_in ?_|((refine idGd ?_); first|refine zA ?_|refine zC ?_)|((refine idPick ?_); refine yC ?_)|((refine idCond ?_); refine yM ?_))
  | ((with_reducible refine idO ?_); (with_reducible refine oM_gen fun Kv hK=>?_); simp [go_sem, hk.cells]; refine hK _ _ ?_; clear hK; clear Kv)))
  refine obtains_ok (madeM c).1 (publicM (madeM c).1 c.x) _ other _ _ (publicM_I64 _ _) hs htv (ho'.next hk.below) ht hu (hL.below hk.below hL.size) (fun w12 h => ?_)
  have hk := hk.next h
  have hf := hf.next h
  clear h
  cases hob : obtainsM (madeM c).1 (publicM (madeM c).1 c.x) (TpA.oSes (madeM c).1 l c.x w' n) other (TpA.hT (madeM c).1 c.attrs c.b c.x c.w) (useM (madeM c).1 c.attrs c.b dare).1 with
  | false =>
    repeat (any_goals (first
    | (with_reducible first|refine pureM_in ?_|((refine idGd ?_); first|refine zA ?_|refine zD ?_)|((refine idPick ?_); refine yB ?_))
    | ((with_reducible refine idO ?_); (with_reducible refine oM_gen fun Kv hK=>?_); simp [go_sem]; refine hK _ _ ?_; clear hK; clear Kv)))
    exact k _ hk.below
  | true =>
    repeat (any_goals (first
    | (with_reducible first|refine pureM_in ?_|((refine idGd ?_); first|refine zA ?_|refine zC ?_))
    | ((with_reducible refine idO ?_); (with_reducible refine oM_gen fun Kv hK=>?_); simp [go_sem, hk.cells]; refine hK _ _ ?_; clear hK; clear Kv)))
    refine SameBld_ok other _ (ho'.next hk.below) hf (fun w13 h => ?_)
    rw [decide_eq_true (honly other hob)]
    repeat (any_goals (with_reducible first|((refine idGd ?_); refine zA ?_)|((refine idPick ?_); first|refine yB ?_|refine yC ?_)))
    exact k _ (hk.next h).below
end
end Go.Proofs
