/- Parts of the proof of the seat's statements (LawKit, OpenKit, OpenKit2, LZ, TpO, TlP, RgB, RgC, TkQ, LaA, TlA, HRe, HCh, TlB, TlC, HLTicketLends, TlD, LZl): lemmas about the given translation and plain laws. No condition of their own. -/
import Derived.Test.YtpfjmfgnlpnflaaGreatDoorZle
import Derived.ProofKit
import Derived.LaidMore
import Derived.OpenShut
import Derived.Carry
import Derived.SizedLaws
import Derived.Stop.Joined
import Derived.Deep.Slices
import Derived.Deep.Fields
import Derived.LaidSub
import Derived.Test.YtpfjmfgnlpnflaaGreatDoorRows
import Derived.Test.YtpfjmfgnlpnflaaGreatDoorCards
import Derived.Test.YtpfjmfgnlpnflaaGreatDoorTie
import Derived.SevenTiedAt
import Derived.Test.YtpfjmfgnlpnflaaGreatDoorProg
set_option linter.all false
set_option maxRecDepth 100000
namespace Go.Sh
open Go Go.ChangeShapes Go.WideShapes Go.ChangeAt Go.RowKit
section
variable {H : Type} {enc : TypeId × Value → H} {P : Program}
theorem trodAll_below (hl : laidOutB P = true) {W W' : World} (hb : Below W.heap.size W W') :
    ∀ (ts : List TypeId) (vs : List Value) (ds : List (DataW H)) (ps : List MemPlace), (ts.all fun t => P.readableRec t && decide (t < P.types.size)) = true →
    DataW.TrodAll enc P W 0 (fun _ => true) true ts vs ds ps → (∀ x ∈ ps, x.block < W.heap.size) → DataW.TrodAll enc P W' 0 (fun b => decide (b < W.heap.size)) true ts vs ds ps
  | [], [], [], _, _, h, _ => h
  | t :: ts, v :: vs, d :: ds, ps, ht, h, hlt => by
    obtain ⟨p, q, h1, h2, rfl⟩ := h
    simp only [List.all_cons, Bool.and_eq_true, decide_eq_true_eq] at ht
    exact ⟨p, q, Below.trod hl ht.1.1 ht.1.2 h1 hb (fun x hx => hlt x (by simp [hx])), trodAll_below hl hb ts vs ds q ht.2 h2 (fun x hx => hlt x (by simp [hx])), rfl⟩
  | [], _ :: _, _, _, _, h, _ => h.elim
  | [], [], _ :: _, _, _, h, _ => h.elim
  | _ :: _, [], _, _, _, h, _ => h.elim
  | _ :: _, _ :: _, [], _, _, h, _ => h.elim
theorem trodAll_length {W : World} {b : Nat} {sp : Nat → Bool} {hd : Bool} : ∀ (ts : List TypeId) (vs : List Value) (ds : List (DataW H)) (ps : List MemPlace), DataW.TrodAll enc P W b sp hd ts vs ds ps → ds.length = ts.length ∧ vs.length = ts.length
  | [], [], [], _, _ => ⟨rfl, rfl⟩
  | t :: ts, v :: vs, d :: ds, ps, h => by
    obtain ⟨p, q, h1, h2, rfl⟩ := h
    have := trodAll_length ts vs ds q h2
    simp [this]
  | [], _ :: _, _, _, h => h.elim
  | [], [], _ :: _, _, h => h.elim
  | _ :: _, [], _, _, h => h.elim
  | _ :: _, _ :: _, [], _, h => h.elim
theorem trodL_cons {W : World} {b : Nat} {sp : Nat → Bool} {hd : Bool} {t : TypeId} {ts : List TypeId} {vs : List Value} {ds : List (DataW H)} {ps : List MemPlace} (h : DataW.TrodAll enc P W b sp hd (t :: ts) vs ds ps) :
    ∃ v d vs' ds' p q, vs = v :: vs' ∧ ds = d :: ds' ∧ DataW.Trod enc P W b sp hd t v d p ∧ DataW.TrodAll enc P W b sp hd ts vs' ds' q ∧ ps = p ++ q := by
  match vs, ds, h with
  | v :: vs, d :: ds, h =>
    obtain ⟨p, q, h1, h2, rfl⟩ := h
    exact ⟨v, d, vs, ds, p, q, rfl, rfl, h1, h2, rfl⟩
  | [], _, h => exact h.elim
  | _ :: _, [], h => exact h.elim
theorem trodL0 {W : World} {b : Nat} {sp : Nat → Bool} {hd : Bool} {vs : List Value} {ds : List (DataW H)} {ps : List MemPlace} (h : DataW.TrodAll enc P W b sp hd [] vs ds ps) : vs = [] ∧ ds = [] ∧ ps = [] := by
  match vs, ds, h with
  | [], [], h => exact ⟨rfl, rfl, h⟩
theorem law_post {fn : Func} {s : ChangeSpec} {tb : TypeId} {apart : Bool} {W W' : World} {args : Array Value} {ds gs : List (DataW H)} {before : List MemPlace} (hl : laidOutB P = true)
    (hrt : fn.resultTypes = #[tb]) (hub : P.underlying tb = some .bool) (hpar : (fn.params.toList.all fun t => P.readableRec t && decide (t < P.types.size)) = true) (hvars : s.vars = [])
    (hspec : ∀ ds : List (DataW H), ds.length = fn.params.toList.length → s.fn H ds = { results := [.lit (.bool true)], args := ds })
    (hW : DataW.Whole enc P fn.params.toList s.vars apart W args.toList ds gs before) (hb : Below W.heap.size W W') : s.post enc P fn apart true false false W args (.bool true) W' := by
  have hW0 := hW
  have hlt := hW.lt
  obtain ⟨p, q, hA, hV, rfl, _, _⟩ := hW
  rw [hvars] at hV
  obtain ⟨rfl, rfl⟩ := trodVars_none hV
  have hlen := (trodAll_length _ _ _ _ hA).1
  have hs := hspec ds hlen
  rw [List.append_nil] at hlt hW0
  refine ⟨ds, [], p, [], p, [], hW0, ?_, ?_, ?_, hb.frame _, fun h => by cases h⟩
  · rw [List.append_nil, hs, hrt]
    exact trodAll_mk1 (shut_bool hub true)
  · rw [List.append_nil, hs]
    exact trodAll_below hl hb _ _ _ _ hpar hA hlt
  · rw [hvars, List.append_nil, hs]
    rfl
theorem law_lifted_laid {C : Checked} {os : Os} {f : FuncId} {fn : Func} {s : ChangeSpec} {tb : TypeId} {L : List (String × DataW Unit)} (own : ownKnob C.prog.godebug = none) (started : os.Started) (noInit : C.prog.inits.idxOf? f = none) (hfn : C.prog.funcs[f]? = some fn)
    (hl : laidOutB C.prog = true) (hrt : fn.resultTypes = #[tb]) (hub : C.prog.underlying tb = some .bool) (hpar : (fn.params.toList.all fun t => C.prog.readableRec t && decide (t < C.prog.types.size)) = true) (hvars : s.vars = [])
    (hspec : ∀ ds : List (DataW H), ds.length = fn.params.toList.length → s.fn H ds = { results := [.lit (.bool true)], args := ds })
    (witness : ∃ (w : World) (tape : Tape) (i : Input), w.os = os ∧ (w.forCall tape i).Shaped C.prog ∧ i.vars = [] ∧ Input.okWide C.prog (w.forCall tape i) .any w.heap.size f i ∧
      ((s.pre enc C.prog fn [] false (w.forCall tape i).memory i.args ∧ laidMetH C.prog L (w.forCall tape i).memory) ∧ sizedMet enc C.prog fn (OpenSpec.ofChange s) false (w.forCall tape i).memory i.args) ∧ ({} : Assume).holds C.prog (lone (Frame.enter C.prog f i.args .normal) [] (w.forCall tape i)))
    (contract : ∀ (W : World) (base : Nat) (args : List Value) (ds : List (DataW H)) (p : List MemPlace), (∀ (j : Nat) t v, fn.params.toList[j]? = some t → args[j]? = some v → Value.okWide C.prog W .any base t v) →
      DataW.TrodAll enc C.prog W 0 (fun _ => true) true fn.params.toList args ds p → (DataW.weightsEach C.prog fn.params.toList ds).all (· ≤ reachBytes) = true → (∀ x ∈ p, x.block < W.heap.size) →
      laidMetH C.prog L W →
      callM C.prog f args.toArray (fun v W' => v = .bool true ∧ Below W.heap.size W W') W) :
    ReturnsInHanded {} C os f .any (fun w args => (s.pre enc C.prog fn [] false w args ∧ laidMetH C.prog L w) ∧ sizedMet enc C.prog fn (OpenSpec.ofChange s) false w args)
      (s.post enc C.prog fn false true false false) := by
  refine returnsInHanded_of_change_and (X := fun w _ => laidMetH C.prog L w) (fun _ _ _ hh h => h.of_heap hh) own started noInit hfn witness ?_
  intro W base args ds gs before hval hW _ hsz hX _
  have hW0 := hW
  have hlt := hW.lt
  obtain ⟨p, q, hA, hV, rfl, _, _⟩ := hW
  rw [hvars] at hV
  obtain ⟨rfl, rfl⟩ := trodVars_none hV
  have hsz' : (DataW.weightsEach C.prog fn.params.toList ds).all (· ≤ reachBytes) = true := by
    simpa [hvars, ChangeSpec.plain, DataSpec.varTypes] using hsz
  have hc := contract W base args.toList ds p (fun j t v h1 h2 => hval j t v (by simpa using h1) (by simpa using h2)) hA hsz' (fun x hx => hlt x (by simp [hx])) hX
  refine hc.mono fun e W' h => ?_
  obtain ⟨v, rfl, rfl, hb⟩ := h
  exact ⟨_, rfl, law_post hl hrt hub hpar hvars hspec hW0 hb⟩
end
end Go.Sh
namespace Go.Sh
open Go Go.ChangeShapes Go.WideShapes Go.ChangeAt Go.RowKit Go.Deep
section
variable {H : Type} {enc : TypeId × Value → H} {P : Program} {w : World} {sp : Nat → Bool} {hd : Bool}
theorem addr_add' (b o k : Nat) : (⟨b, o, none⟩ : Addr).add k = ⟨b, o + k, none⟩ := by
  unfold Addr.add
  split
  · rename_i h; rw [h]; rfl
  · rfl
theorem cell_lt {a : Addr} {v : Value} (h : w.cell? a = some v) : a.block < w.heap.size ∧ a.spot = none := by
  unfold World.cell? at h
  split at h
  · rename_i c t f hh
    refine ⟨(Array.getElem?_eq_some_iff.1 hh).1, ?_⟩
    split at h
    · cases h
    · rename_i hs
      cases hsp : a.spot with
      | none => rfl
      | some x => rw [hsp] at hs; exact absurd rfl hs
  · cases h
theorem open_fields {e : TypeId} {fs : Array Field} {n : Nat} {cs : List Value} {D : DataW H × List MemPlace} (he : P.underlying e = some (.struct fs)) (hone : oneCellFields P fs = true) (hC : P.cellsOf e = fs.size)
    (h : DataW.trod enc P w 0 sp hd n e cs = some D) :
    cs.length = fs.size ∧ ∀ (j : Nat) (f : Field), fs[j]? = some f → ∃ (v : Value) (y : DataW H × List MemPlace) (m : Nat), cs[j]? = some v ∧ DataW.trod enc P w 0 sp hd m f.type [v] = some y := by
  obtain ⟨xs, m, _, _, hcl, hxl, hf⟩ := DataW.trod_struct he h
  rw [hC] at hcl
  refine ⟨hcl, fun j f hj => ?_⟩
  obtain ⟨ho, hk⟩ := hone_of hone j f hj
  have hjl : j < fs.size := (Array.getElem?_eq_some_iff.1 hj).1
  have h1 := hf j f hj
  rw [ho, hk, List.drop_eq_getElem_cons (by omega), List.getElem?_eq_getElem (by omega : j < xs.length)] at h1
  exact ⟨_, _, m, List.getElem?_eq_getElem (by omega), h1⟩
end
end Go.Sh
namespace Go.Sh
open Go Go.ChangeShapes Go.WideShapes Go.ChangeAt Go.RowKit Go.Deep
section
variable {H : Type} {enc : TypeId × Value → H} {P : Program} {w : World} {sp : Nat → Bool} {hd : Bool}
theorem rowOpen {α : Type} (mk : α → Value) (Q : α → Prop) {t e : TypeId} {v : Value} {n : Nat} {D : DataW H × List MemPlace} (ht : P.underlying t = some (.slice e)) (hC : P.cellsOf e = 1)
    (hrd : ∀ (V : Value) (n : Nat) (D : DataW H × List MemPlace), DataW.trod enc P w 0 sp hd n e [V] = some D → ∃ x, V = mk x ∧ Q x) (h : DataW.trod enc P w 0 sp hd n t [v] = some D) :
    ∃ l : List α, (∃ ad c, v = .slice ad l.length c ∧ (l = [] ∨ ∃ b o, ad = some ⟨b, o, none⟩ ∧ b < w.heap.size ∧ ∀ (i : Nat) (h : i < l.length), w.cell? ⟨b, o + i, none⟩ = some (mk l[i]))) ∧ l.length ≤ maxLen ∧ ∀ x ∈ l, Q x := by
  rcases open_slice1 ht hC h with ⟨hcs, _⟩ | ⟨a', len, cap, m, n', V, D', Pl, hcs, _, hl, hm, hmm, _, hi⟩
  · simp only [List.cons.injEq, and_true] at hcs
    subst hcs
    exact ⟨[], ⟨none, 0, rfl, .inl rfl⟩, by simp, by simp⟩
  · simp only [List.cons.injEq, and_true] at hcs
    subst hcs
    have hml : len ≤ m := by rw [hmm]; split <;> omega
    have key : ∀ i : Fin len, ∃ x, V i = mk x ∧ Q x := fun i => hrd _ _ _ (hi i (by have := i.2; omega)).2
    refine ⟨List.ofFn (fun i => (key i).choose), ⟨some a', cap, by rw [List.length_ofFn], ?_⟩, by rw [List.length_ofFn]; omega, ?_⟩
    · by_cases h0 : len = 0
      · left; subst h0; rfl
      · right
        have h00 := (hi 0 (by omega)).1
        have e0 : a'.add 0 = a' := by simp [Addr.add]
        rw [e0] at h00
        obtain ⟨hb, hs⟩ := cell_lt h00
        obtain ⟨b, o, s⟩ := a'
        simp only at hs hb
        subst hs
        refine ⟨b, o, rfl, hb, fun i hil => ?_⟩
        rw [List.length_ofFn] at hil
        have h1 := (hi i (by omega)).1
        rw [addr_add'] at h1
        rw [h1, List.getElem_ofFn]
        have := (key ⟨i, hil⟩).choose_spec.1
        exact congrArg some this
    · intro x hx
      rw [List.mem_ofFn] at hx
      obtain ⟨i, rfl⟩ := hx
      exact (key i).choose_spec.2
end
end Go.Sh
namespace Go.Proofs
open Go Go.Sh Go.RowKit Go.Lib CodeSpec TkSpec FdSpec Go.ChangeShapes Go.WideShapes Go.ChangeAt Go.Deep
set_option linter.unusedSimpArgs false
set_option maxRecDepth 100000
abbrev laidList : List (String × DataW Unit) := YtpfjmfgnlpnflaaGreatDoor.Rows.ticketHonestRow.laid
abbrev lname (i : Nat) : String := (laidList.map (·.1)).getD i default
theorem var_of_laid {W : World} {nm : String} {d : DataW Unit} (hf : (laidList.filter fun x => x.1 == nm) = [(nm, d)]) (h : laidMetH Tryz.prog laidList W) : laidMet Tryz.prog [(nm, d)] W := by
  rw [MakeChecks.laidMetH_plain _ _ _ (by kernel_rfl)] at h
  have := h.filter (fun x => x.1 == nm)
  rwa [hf] at this
theorem tab_laid {W : World} (h : laidMetH Tryz.prog laidList W) : TabIs Tryz.prog W tabName .u64 pow10Tab :=
  tabIs_of_head (rest := []) (t := 245) (e := 139) (n := 20) Cd.gTab (by kernel_rfl) Tryz.underlying245 Tryz.underlying139 (by kernel_rfl) (by kernel_rfl)
    (var_of_laid (d := tabData .u64 pow10Tab) (by kernel_rfl) h)
theorem gDb : Tryz.prog.globalNamed (lname 1) = some 2 := by kernel_rfl
theorem db_laid {W : World} (h : laidMetH Tryz.prog laidList W) : TabIs Tryz.prog W (lname 1) .u8 (Lib.deBruijn64tab.map (fun n : Nat => (n : Int))) :=
  tabIs_of_head (rest := []) (t := 243) (e := 5) (n := 64) gDb (by kernel_rfl) Tryz.underlying243 Tryz.underlying5 (by kernel_rfl) (by kernel_rfl)
    (var_of_laid (d := tabData .u8 (Lib.deBruijn64tab.map (fun n : Nat => (n : Int)))) (by kernel_rfl) h)
theorem db_of {W : World} (h : laidMetH Tryz.prog laidList W) : DbT W := by
  have ht := db_laid h
  have hl : (Lib.deBruijn64tab.map (fun n : Nat => (n : Int))).length = 64 := by decide +kernel
  have hc : ∀ j, j < 64 → W.cell? ⟨2, j, none⟩ = some (.int .u8 (Lib.deBruijn64tab.getD j 0 : Nat)) := fun j hj => by
    rw [ht.cell gDb j (by omega)]
    have : (Lib.deBruijn64tab.map (fun n : Nat => (n : Int))).getD j 0 = ((Lib.deBruijn64tab.getD j 0 : Nat) : Int) := by
      rw [List.getD_eq_getElem?_getD, List.getD_eq_getElem?_getD, List.getElem?_map]
      cases Lib.deBruijn64tab[j]? <;> rfl
    rw [this]
  refine ⟨?_, hc⟩
  have h0 := hc 0 (by omega)
  by_cases hlt : 2 < W.heap.size
  · exact hlt
  · unfold World.cell? at h0
    rw [Array.getElem?_eq_none (by show W.heap.size ≤ 2; omega)] at h0
    simp at h0
theorem heap8 {W : World} (h : laidMetH Tryz.prog laidList W) : 8 ≤ W.heap.size := by
  obtain ⟨ps, ⟨g0, t0, cs0, f0, p0, q0, hg0, ht0, hv0, hd0, _, _⟩, _, _⟩ := var_of_laid (nm := lname 0) (d := YtpfjmfgnlpnflaaGreatDoor.Rows.laid_math_bits_deBruijn32tab) (by kernel_rfl) h
  have hg : Tryz.prog.globalNamed (lname 0) = some 7 := by kernel_rfl
  unfold World.var? at hv0
  rw [hg] at hv0
  simp only [Option.bind_some] at hv0
  split at hv0
  · rename_i cs t f hh
    have := (Array.getElem?_eq_some_iff.1 hh).1
    omega
  · cases hv0
theorem laid_of {W : World} (h : laidMetH Tryz.prog laidList W) : Cd.Laid W := ⟨tab_laid h, heap8 h⟩
theorem ba_of1 (s : ByteArray) : s = ⟨s.data.toList.toArray⟩ := by cases s; rfl
theorem ba_len (s : ByteArray) : s.data.toList.length = s.size := by simp
theorem own : ownKnob Tryz.prog.godebug = none := by kernel_rfl
theorem laidOut : laidOutB Tryz.prog = true := by kernel_rfl
theorem door_met (os : Os) (args : Array Value) : laidMetH Tryz.prog laidList ((World.doorLaid Tryz.prog 400 os).forCall (fun _ _ => 0) ⟨#[], args, []⟩).memory :=
  laidMetH_of_parts3 (fuel := 8) (laidMet_of_run' 8 (by kernel_rfl) (by kernel_rfl)) (by kernel_rfl) (by kernel_rfl)
theorem intR {n : Int} (h : (Lit.int .i64 n).wf = true) : I64 n := by
  simp only [Lit.wf, Bool.and_eq_true, decide_eq_true_eq] at h
  exact (InR_iff n).1 h
section
variable {H : Type} {enc : TypeId × Value → H} {w : World} {sp : Nat → Bool} {hd : Bool}
theorem ints_of_row {v : Value} {l : List Int} (h : ∃ ad c, v = .slice ad l.length c ∧ (l = [] ∨ ∃ b o, ad = some ⟨b, o, none⟩ ∧ b < w.heap.size ∧ ∀ (i : Nat) (h : i < l.length), w.cell? ⟨b, o + i, none⟩ = some (Value.int .i64 l[i]))) (h0 : ∀ c, v = .slice none l.length c → l.length = 0 ∧ c = 0) (hl : l.length ≤ maxLen) (hr : ∀ x ∈ l, I64 x) : Ints w v l := by
  obtain ⟨ad, c, rfl, h⟩ := h
  refine ⟨⟨ad, c, rfl, fun e => ?_, ?_⟩, hr, hl⟩
  · subst e
    exact h0 c rfl
  · rcases h with h | ⟨b, o, rfl, hlt, hc⟩
    · exact .inl h
    · refine .inr ⟨b, o, rfl, hlt, fun k x hk => ?_⟩
      rw [flat_int] at hk
      obtain ⟨hk1, hk2⟩ := List.getElem?_eq_some_iff.1 hk
      have hk1 : k < l.length := by rw [List.length_map] at hk1; exact hk1
      rw [hc k hk1, ← hk2, List.getElem_map]
theorem nil_len {t : TypeId} {n m : Nat} {c : Nat} {D : DataW H × List MemPlace} (ht : Tryz.prog.underlying t = some (.slice 3)) (h : DataW.trod enc Tryz.prog w 0 sp hd n t [.slice none m c] = some D) : m = 0 ∧ c = 0 := by
  rcases open_slice1 ht (by kernel_rfl) h with ⟨hcs, _⟩ | ⟨a', len, cap, m, n', V, D', Pl, hcs, _⟩
  · simp only [List.cons.injEq, and_true, Value.slice.injEq] at hcs
    exact hcs.2
  · simp only [List.cons.injEq, and_true, Value.slice.injEq] at hcs
    exact absurd hcs.1 (by simp)
theorem open_ints {v : Value} {n : Nat} {D : DataW H × List MemPlace} (h : DataW.trod enc Tryz.prog w 0 sp hd n 22 [v] = some D) : ∃ l, Ints w v l := by
  have h' := h
  obtain ⟨l, h1, h2, h3⟩ := rowOpen (Value.int .i64) I64 Tryz.underlying22 (by kernel_rfl) (fun V n D h => by
    obtain ⟨k, e, _, hw⟩ := DataW.trod_int Tryz.underlying3 h
    simp only [List.cons.injEq, and_true] at e
    exact ⟨k, e, intR hw⟩) h
  exact ⟨l, ints_of_row h1 (fun c e => by subst e; exact nil_len Tryz.underlying22 h') h2 h3⟩
theorem cells_ints : Tryz.prog.cellsOf 22 = 1 := by kernel_rfl
theorem cells_int : Tryz.prog.cellsOf 3 = 1 := by kernel_rfl
theorem open_mir {n : Nat} {cs : List Value} {D : DataW H × List MemPlace} (h : DataW.trod enc Tryz.prog w 0 sp hd n 24 cs = some D) : ∃ m v, cs = [v, .int .i64 m.blind] ∧ MirR w m v := by
  obtain ⟨hcl, hf⟩ := open_fields Tryz.underlying24 (by kernel_rfl) (by kernel_rfl) h
  obtain ⟨v0, y0, m0, c0, f0⟩ := hf 0 _ rfl
  obtain ⟨v1, y1, m1, c1, f1⟩ := hf 1 _ rfl
  obtain ⟨l0, h0⟩ := open_ints f0
  obtain ⟨k1, e1, _, w1⟩ := DataW.trod_int Tryz.underlying3 f1
  simp only [List.cons.injEq, and_true] at e1
  have h6 : cs.length = 2 := hcl
  refine ⟨⟨l0, k1⟩, v0, ?_, ⟨h0, intR w1⟩⟩
  match cs, h6 with
  | [x0, x1], _ =>
    simp only [List.getElem?_cons_zero, List.getElem?_cons_succ, Option.some.injEq] at c0 c1
    rw [c0, c1, e1]
theorem open_bldC {n : Nat} {cs : List Value} {D : DataW H × List MemPlace} (h : DataW.trod enc Tryz.prog w 0 sp hd n 45 cs = some D) : ∃ b x, cs = [.int .i64 b.s, .int .i64 b.u, .int .i64 b.v, x] ∧ BldR w b x := by
  obtain ⟨hcl, hf⟩ := open_fields Tryz.underlying45 (by kernel_rfl) (by kernel_rfl) h
  obtain ⟨v0, y0, m0, c0, f0⟩ := hf 0 _ rfl
  obtain ⟨v1, y1, m1, c1, f1⟩ := hf 1 _ rfl
  obtain ⟨v2, y2, m2, c2, f2⟩ := hf 2 _ rfl
  obtain ⟨v3, y3, m3, c3, f3⟩ := hf 3 _ rfl
  obtain ⟨k0, e0, _, w0⟩ := DataW.trod_int Tryz.underlying3 f0
  obtain ⟨k1, e1, _, w1⟩ := DataW.trod_int Tryz.underlying3 f1
  obtain ⟨k2, e2, _, w2⟩ := DataW.trod_int Tryz.underlying3 f2
  obtain ⟨l3, h3⟩ := open_ints f3
  simp only [List.cons.injEq, and_true] at e0 e1 e2
  refine ⟨⟨k0, k1, k2, l3⟩, v3, ?_, ⟨intR w0, intR w1, intR w2, h3⟩⟩
  have h6 : cs.length = 4 := hcl
  match cs, h6 with
  | [x0, x1, x2, x3], _ =>
    simp only [List.getElem?_cons_zero, List.getElem?_cons_succ, Option.some.injEq] at c0 c1 c2 c3
    rw [c0, c1, c2, c3, e0, e1, e2]
theorem cells_mir : Tryz.prog.cellsOf 24 = 2 := by kernel_rfl
theorem cells_bld : Tryz.prog.cellsOf 45 = 4 := by kernel_rfl
theorem cells_cas : Tryz.prog.cellsOf 63 = 10 := by kernel_rfl
end
end Go.Proofs
namespace TpA
open FdSpec FdPoly GrLaw GrPr TkSpec
end TpA
namespace TpA
open FdSpec FdPoly GrLaw GrPr TkSpec
structure LinkG (s : Stp) (keys : List Int) (x : Lnk) : Prop where
  ex : ∃ q ∈ keys, validM s q x.ticket = true
  acc : acceptsM s x.ticket x.spend = true
  tm : x.terms.length ≤ 300
theorem LinkG.link {s : Stp} {keys : List Int} {x : Lnk} (h : LinkG s keys x) : linkM s keys x = true := by
  unfold linkM
  obtain ⟨q, hq, hv⟩ := h.ex
  have h1 : keys.any (fun k => validM s k x.ticket) = true := List.any_eq_true.mpr ⟨q, hq, hv⟩
  have := h.tm
  rw [h1, h.acc, decide_eq_true (by omega)]
  rfl
theorem LinkG.more {s : Stp} {keys keys' : List Int} {x : Lnk} (h : LinkG s keys x) (hk : ∀ q ∈ keys, q ∈ keys') : LinkG s keys' x :=
  ⟨h.ex.imp fun q ⟨a, b⟩ => ⟨hk q a, b⟩, h.acc, h.tm⟩
def ChG (s : Stp) (dare : Int) : List Lnk → Prop
  | [] => True
  | [x] => x.spend.dare = dare ∧ x.terms = []
  | x :: y :: l => x.spend.dare = lendM s y.ticket x.terms ∧ ChG s dare (y :: l)
theorem chain_eq {s : Stp} {keys : List Int} {dare : Int} : ∀ (ls : List Lnk), ls ≠ [] → (∀ x ∈ ls, LinkG s keys x) → ChG s dare ls → ∀ e, chainM s keys e ls = decide (dare = e)
  | [], h, _, _, _ => absurd rfl h
  | [x], _, hl, hc, e => by
    rw [chainM, (hl x (by simp)).link, hc.1, decide_eq_true hc.2]
    simp
  | x :: y :: l, _, hl, hc, e => by
    rw [chainM, (hl x (by simp)).link, decide_eq_true hc.1, chain_eq (y :: l) (by simp) (fun z hz => hl z (by simp [hz])) hc.2 e]
    simp
theorem chain_set {s : Stp} {keys : List Int} {dare : Int} {words : List UInt8} (hw : words.length ≤ 300) : ∀ (ls : List Lnk) (i : Nat) (x y : Lnk), ls[i]? = some x → ls[i + 1]? = some y → (∀ x ∈ ls, LinkG s keys x) → ChG s dare ls →
    chainM s keys dare (ls.set i { x with terms := words }) = decide (lendM s y.ticket x.terms = lendM s y.ticket words)
  | [], i, x, y, h, _, _, _ => by simp at h
  | [z], i, x, y, _, h2, _, _ => by simp at h2
  | z :: u :: l, 0, x, y, h1, h2, hl, hc => by
    have e1 : z = x := by simpa using h1
    have e2 : u = y := by simpa using h2
    subst e1; subst e2
    have hL : linkM s keys { z with terms := words } = true := LinkG.link ⟨(hl z (by simp)).ex, (hl z (by simp)).acc, hw⟩
    show chainM s keys dare ({ z with terms := words } :: u :: l) = _
    rw [chainM, hL, chain_eq (u :: l) (by simp) (fun v hv => hl v (by simp [hv])) hc.2 dare]
    have : z.spend.dare = lendM s u.ticket z.terms := hc.1
    simp [this]
  | z :: u :: l, i + 1, x, y, h1, h2, hl, hc => by
    have h1 : (u :: l)[i]? = some x := by simpa using h1
    have h2 : (u :: l)[i + 1]? = some y := by simpa using h2
    have ih := chain_set hw (u :: l) i x y h1 h2 (fun v hv => hl v (by simp [hv])) hc.2
    rw [List.set_cons_succ]
    have hz := hl z (by simp)
    have hd : z.spend.dare = lendM s u.ticket z.terms := hc.1
    cases i with
    | zero =>
      have e1 : u = x := by simpa using h1
      subst e1
      rw [List.set_cons_zero] at ih ⊢
      rw [chainM, hz.link, ih, hd]
      simp
    | succ j =>
      rw [List.set_cons_succ] at ih ⊢
      rw [chainM, hz.link, ih, hd]
      simp
theorem follows_eq {s : Stp} {keys : List Int} {ls : List Lnk} (hv : validS s = true) (h1 : 1 ≤ ls.length) (h5 : ls.length ≤ 5) (e : Int) : followsM s keys ls e = chainM s keys e ls := by
  unfold followsM
  rw [hv, decide_eq_true h1, decide_eq_true h5]
  simp
theorem number_range {n : Int} (hn : okN n) (l : List UInt8) : 0 ≤ numberM l n ∧ numberM l n < n := by
  have key : ∀ (l : List UInt8) (o : Int), 0 ≤ o ∧ o < n → 0 ≤ l.foldl (numStep n) o ∧ l.foldl (numStep n) o < n := by
    intro l
    induction l with
    | nil => exact fun o h => h
    | cons a l ih => exact fun o _ => ih _ (addM_range _ _ _ hn)
  unfold numberM
  rw [if_pos hn]
  exact key _ 0 ⟨by omega, hn.1⟩
theorem lend_range {s : Stp} (hv : validS s = true) (h5 : 5 ≤ s.g.Q) (t : Tkt) (m : List UInt8) : s.g.Q / 2 < lendM s t m ∧ lendM s t m < s.g.Q := by
  have hq := (gv_of (valid_facts hv).1).okQ
  unfold lendM
  rw [if_pos hv]
  have := number_range (n := s.g.Q - 1 - s.g.Q / 2) ⟨by omega, by have := hq.2; omega⟩ (encT t ++ CodeSpec.encText m)
  omega
end TpA
namespace Go.Proofs
open Go Go.Sh Go.RowKit FdSpec TkSpec CodeSpec
set_option linter.unusedSimpArgs false
set_option linter.unusedVariables false
set_option maxRecDepth 10000
section
variable {K : Value → World → Prop} {w w0 : World} {L : List (Addr × Value)}
end
end Go.Proofs
namespace Go.Proofs
open Go Go.Sh Go.RowKit FdSpec TkSpec CodeSpec
set_option linter.unusedSimpArgs false
set_option linter.unusedVariables false
set_option maxRecDepth 10000
section
variable {K : Value → World → Prop} {w w0 : World} {L : List (Addr × Value)}
end
end Go.Proofs
namespace Go.Proofs
open Go Go.Sh Go.RowKit FdSpec TkSpec CodeSpec
set_option linter.unusedSimpArgs false
set_option linter.unusedVariables false
set_option maxRecDepth 10000
section
variable {K : Value → World → Prop} {w w0 w1 : World} {L : List (Addr × Value)}
end
end Go.Proofs
namespace Go.Proofs
open Go Go.Sh Go.RowKit FdSpec TkSpec CodeSpec
set_option linter.unusedSimpArgs false
set_option linter.unusedVariables false
set_option maxRecDepth 10000
section
variable {K : Value → World → Prop} {w w0 : World} {L : List (Addr × Value)}
@[go_sem] theorem idx_ll (T : TypeId) (b o n c : Nat) (x : Int) : oM Tryz.prog (.indexAddr 98 (.tmp 0) (.tmp 1)) T [.slice (some ⟨b, o, none⟩) n c, .int .i64 x] = onM (0 ≤ x ∧ x < n) (.pointer (some ⟨b, o + x.toNat, none⟩)) := by
  funext K w
  rw [oM_indexAddr, run_indexAt_slice (h := by kernel_rfl)]
  have hs : (sizeOf (Tryz.prog.elem 98)).run Tryz.prog w = .ok 1 w := by kernel_rfl
  by_cases hi : 0 ≤ x ∧ x < n
  · rw [if_pos hi, hs]
    simp only [Result.andThen, add_none, Nat.mul_one, rM_ok]
    exact propext ⟨fun h => ⟨hi, h⟩, fun h => h.2⟩
  · rw [if_neg hi]
    obtain ⟨e', w', he⟩ := halts Value Tryz.prog .i64 x n .index w
    rw [he]
    exact propext ⟨fun h => h.elim, fun h => hi h.1⟩
end
end Go.Proofs
namespace Go.Proofs
open Go Go.Sh Go.RowKit FdSpec TkSpec CodeSpec
set_option linter.unusedSimpArgs false
set_option linter.unusedVariables false
set_option maxRecDepth 10000
section
variable {K : Value → World → Prop} {w w0 : World} {L : List (Addr × Value)}
abbrev OwnL (w : World) (B : Nat) (v : Value) (l : List (Lnk × Value)) : Prop := w.ownsRow B 91 9 v l.length (flat (fun p : Lnk × Value => lnkC p.1 p.2) l)
theorem pl_len (p : Lnk × Value) : (lnkC p.1 p.2).length = 9 := rfl
theorem build_lnk (T : TypeId) (t : Tkt) (x : Spd) (ad : Option Addr) (n c : Nat) (s : List UInt8) : oM Tryz.prog (Go.Op.build 91 #[(0, (.tmp 0)), (1, (.tmp 1)), (2, (.tmp 2))]) T [tktV t, spdV x (.slice ad n c), .string ⟨s.toArray⟩] = pureM (lnkV ⟨t, x, s⟩ (.slice ad n c)) := by
  funext K w
  kernel_rfl
theorem mkL {T : TypeId} (x : Lnk) (ad : Option Addr) (n c : Nat) (k : ∀ W, Below w.heap.size w W → W.heap.size = w.heap.size + 1 → OwnL W w.heap.size (.slice (some ⟨w.heap.size, 0, none⟩) 1 1) [(x, .slice ad n c)] → K (.slice (some ⟨w.heap.size, 0, none⟩) 1 1) W) :
    oM Tryz.prog (.buildSlice 85 1 #[(0, .tmp 0)]) T [lnkV x (.slice ad n c)] K w := by
  rw [oM_buildSlice1]
  have e : (Instr.buildSlice 85 1 #[(0, lnkV x (.slice ad n c))]).run Tryz.prog w = .ok (.slice (some ⟨w.heap.size, 0, none⟩) 1 1) (w.alloc (.cells (lnkC x (.slice ad n c)).toArray 91)) := by kernel_rfl
  rw [e]
  exact k _ ((Below.refl _ w).alloc (Nat.le_refl _) _) (by simp) (World.ownsRow_lit w (lnkC x (.slice ad n c)).toArray 1 (Nat.le_refl _) (by decide) rfl)
theorem appendL {B C : Nat} {T : TypeId} {v u : Value} {x : Lnk × Value} {l : List (Lnk × Value)} (ho : OwnL w B v [x]) (hs : ∃ ad n c, x.2 = .slice ad n c) (hu : OwnL w C u l) (hls : ∀ y ∈ l, ∃ ad n c, y.2 = .slice ad n c) (hB : B ≤ w.heap.size) (hl : l.length ≤ 10)
    (k : ∀ v' w', OwnL w' B v' (x :: l) → w.grownBy w' v.ownBlock → (∀ i, v'.ownBlock = some i → v.ownBlock = some i ∨ w.heap.size ≤ i) → K v' w') :
    oM Tryz.prog (.call { callee := .builtin .append, args := #[.tmp 0, .tmp 1], argTypes := #[85, 85] }) T [v, u] K w := by
  obtain ⟨ad, c, rfl, h0, h1⟩ := RowR.of_owns hu
  refine append_at 85 T 91 ((Tryz.prog.info? 91).getD default) (((Tryz.prog.info? 91).getD default).zero.getD default) 9 96 (by kernel_rfl) (by kernel_rfl) (by kernel_rfl) (by kernel_rfl) (by kernel_rfl) (by kernel_rfl) (by omega) (owns_base ho (Nat.zero_le _)) (flat (fun p : Lnk × Value => lnkC p.1 p.2) l) (flat_length pl_len l) ?_ ?_ ?_ (by simp only [maxLen, List.length_singleton]; omega) (by simp only [List.length_singleton]; omega) ?_
  · intro e
    exact h0 e
  · rintro a rfl j y hj
    rcases h1 with rfl | ⟨b, o, e, hlt, hc⟩
    · simp [flat] at hj
    · cases e
      rw [add_none]
      exact hc j y hj
  · intro y hy
    obtain ⟨p, hp, hy⟩ := List.mem_flatMap.1 hy
    obtain ⟨ad, n, c, e⟩ := hls p hp
    rw [e] at hy
    exact lnk_one p.1 ad n c y hy
  · intro v' w' ho' hg hv
    have hbl : ∀ i, v.ownBlock = some i → B ≤ i := fun i hi => (owns_own ho hi).2.1
    refine k v' w' ?_ hg hv
    have e1 : (x :: l).length = [x].length + l.length := by simp; omega
    show w'.ownsRow B 91 9 v' (x :: l).length (flat (fun p : Lnk × Value => lnkC p.1 p.2) ([x] ++ l))
    rw [e1, flat_append]
    exact owns_up ho' (fun i hi => (hv i hi).elim (hbl i) (fun h => Nat.le_trans hB h))
theorem appendK {B : Nat} {T : TypeId} {v xv : Value} {l m : List Int} (ho : OwnI w B v l) (hB : B ≤ w.heap.size) (hx : Ints w xv m) (hl : l.length + m.length < 1099511627776)
    (k : ∀ v' w', OwnI w' B v' (l ++ m) → w.grownBy w' v.ownBlock → (∀ i, v'.ownBlock = some i → v.ownBlock = some i ∨ w.heap.size ≤ i) → K v' w') : oM Tryz.prog (.call { callee := .builtin .append, args := #[.tmp 0, .tmp 1], argTypes := #[22, 22] }) T [v, xv] K w := by
  obtain ⟨⟨ad, c, rfl, h0, hc⟩, hr, _⟩ := hx
  refine append_at 22 T 3 ((Tryz.prog.info? 3).getD default) (.int .i64 0) 1 8 (by kernel_rfl) (by kernel_rfl) (by kernel_rfl) (by kernel_rfl) (by kernel_rfl) (by kernel_rfl) (by omega) (owns_base ho (Nat.zero_le _)) (m.map (Value.int .i64)) (by simp) h0 ?_ ?_ (by simp only [maxLen]; omega) (by omega) ?_
  · rintro a rfl j u hj
    rcases hc with rfl | ⟨b, o, hbo, hlt, hcell⟩
    · simp at hj
    · cases hbo
      rw [add_none]
      exact hcell j u (by rw [flat_int]; exact hj)
  · intro u hu
    obtain ⟨x, _, rfl⟩ := List.mem_map.1 hu
    rfl
  · intro v' w' ho' hg hv
    have hbl : ∀ i, v.ownBlock = some i → B ≤ i := fun i hi => (owns_own ho hi).2.1
    refine k v' w' ?_ hg hv
    have e2 : flat intC (l ++ m) = flat intC l ++ m.map (Value.int .i64) := by rw [flat_int, flat_int]; simp
    show w'.ownsRow B 3 1 v' (l ++ m).length (flat intC (l ++ m))
    rw [List.length_append, e2]
    exact owns_up ho' (fun i hi => (hv i hi).elim (hbl i) (fun h => Nat.le_trans hB h))
structure ChS (w : World) (B : Nat) (lv kv : Value) (ps : List (Lnk × Value)) (keys : List Int) : Prop where
  own : OwnL w B lv ps
  ko : OwnI w B kv keys
  ne : ∀ i, lv.ownBlock = some i → kv.ownBlock ≠ some i
  spd : ∀ p ∈ ps, SpdR w p.1.spend p.2 ∧ TktR p.1.ticket ∧ p.1.terms.length ≤ 300
  ans : ∀ p ∈ ps, ∀ i, Value.inBlock p.2 = some i → i < w.heap.size ∧ kv.ownBlock ≠ some i ∧ lv.ownBlock ≠ some i
  kr : ∀ q ∈ keys, I64 q
theorem ChS.next {w' : World} {B : Nat} {lv kv : Value} {ps : List (Lnk × Value)} {keys : List Int} (h : ChS w B lv kv ps keys) (hb : Below w.heap.size w w') : ChS w' B lv kv ps keys :=
  ⟨owns_keep h.own (fun i hi => hb.block i (owns_own h.own hi).1), owns_keep h.ko (fun i hi => hb.block i (owns_own h.ko hi).1), h.ne, fun p hp => ⟨(h.spd p hp).1.next hb, (h.spd p hp).2⟩, fun p hp i hi => ⟨Nat.lt_of_lt_of_le (h.ans p hp i hi).1 hb.size, (h.ans p hp i hi).2⟩, h.kr⟩
theorem ChS.row {B : Nat} {lv kv : Value} {ps : List (Lnk × Value)} {keys : List Int} (h : ChS w B lv kv ps keys) (hl : ps.length ≤ 10) : LnkRow w lv (ps.map (·.1)) := by
  obtain ⟨ad, c, rfl, h0, h1⟩ := RowR.of_owns h.own
  refine ⟨⟨ad, c, by rw [List.length_map], ?_⟩, ?_, ?_, by rw [List.length_map]; omega⟩
  · rcases h1 with rfl | ⟨b, o, rfl, hlt, hc⟩
    · exact .inl rfl
    · refine .inr ⟨b, o, rfl, hlt, fun i hi => ?_⟩
      rw [List.length_map] at hi
      have hm := h.spd _ (List.getElem_mem hi)
      have f := fun j (hj : j < 9) => flat_at pl_len ps i j (List.getElem?_eq_getElem hi) hj
      rw [List.getElem_map]
      have e : ∀ k, o + i * 9 + k = o + (i * 9 + k) := fun k => by omega
      refine ⟨ps[i].2, hm.1, ?_, ?_, ?_, ?_, ?_, ?_, ?_, ?_, ?_⟩
      · exact hc _ _ (f 0 (by omega))
      · rw [e]; exact hc _ _ (f 1 (by omega))
      · rw [e]; exact hc _ _ (f 2 (by omega))
      · rw [e]; exact hc _ _ (f 3 (by omega))
      · rw [e]; exact hc _ _ (f 4 (by omega))
      · rw [e]; exact hc _ _ (f 5 (by omega))
      · rw [e]; exact hc _ _ (f 6 (by omega))
      · rw [e]; exact hc _ _ (f 7 (by omega))
      · rw [e]; exact hc _ _ (f 8 (by omega))
  · intro x hx
    obtain ⟨p, hp, rfl⟩ := List.mem_map.1 hx
    exact (h.spd p hp).2.1
  · intro x hx
    obtain ⟨p, hp, rfl⟩ := List.mem_map.1 hx
    have := (h.spd p hp).2.2
    omega
theorem ChS.keys {B : Nat} {lv kv : Value} {ps : List (Lnk × Value)} {keys : List Int} (h : ChS w B lv kv ps keys) (hl : keys.length ≤ 10) : Ints w kv keys := h.ko.ints h.kr (by omega)
end
end Go.Proofs
set_option linter.unusedVariables false
set_option maxRecDepth 100000
namespace Go.Proofs
open Go.Sh
end Go.Proofs
set_option linter.unusedVariables false
set_option maxRecDepth 100000
namespace Go.Proofs
open Go.Sh
def sh_37 (a0 : Value) (a1 : Value) (a2 : Value) (K : Value → World → Prop) (w : World) : Prop :=
 oM Tryz.prog (.buildSlice 85 0 #[]) 85 [] (fun v21_1 w =>
 oM Tryz.prog (.buildSlice 22 0 #[]) 22 [] (fun v22_2 w =>
 oM Tryz.prog (.call (Go.Call.mk (.builtin .len) #[(.tmp 0)] #[83])) 3 [a0] (fun v24_3 w =>
 oM Tryz.prog (.binOp .sub 3 (.tmp 0) (.tmp 1) 3) 3 [v24_3, (.int .i64 1)] (fun v25_4 w =>
 loopM [undef, (.slice none 0 0), (.slice none 0 0), (.bool false), undef, undef, undef, v21_1, v22_2, v25_4] w (fun J_5 m_6 l_7 u_l_7 w0_l_7 => (fun w => (
 oM Tryz.prog (.binOp .geq 3 (.tmp 0) (.tmp 1) 3) 4 [(l_7.getD 9 undef), (.int .i64 0)] (fun v27_8 w =>
 condM v27_8
 (oM Tryz.prog (.indexAddr 83 (.tmp 0) (.tmp 1)) 0 [a0, (l_7.getD 9 undef)] (fun v32_9 w =>
 oM Tryz.prog (.load 63 (.tmp 0)) 63 [v32_9] (fun v33_10 w =>
 oM Tryz.prog (.alloc 63) 0 [] (fun v12_11 w =>
 oM Tryz.prog (.store 63 (.tmp 0) (.tmp 1)) 0 [v12_11, v33_10] (fun _ w =>
 oM Tryz.prog (.indexAddr 83 (.tmp 0) (.tmp 1)) 0 [a0, (.int .i64 0)] (fun v35_12 w =>
 oM Tryz.prog (.fieldAddr 63 (.tmp 0) 0) 0 [v35_12] (fun v36_13 w =>
 oM Tryz.prog (.load 3 (.tmp 0)) 3 [v36_13] (fun v37_14 w =>
 oM Tryz.prog (.fieldAddr 63 (.tmp 0) 0) 0 [v12_11] (fun v38_15 w =>
 oM Tryz.prog (.store 3 (.tmp 0) (.tmp 1)) 0 [v38_15, v37_14] (fun _ w =>
 oM Tryz.prog (.indexAddr 83 (.tmp 0) (.tmp 1)) 0 [a0, (.int .i64 0)] (fun v40_16 w =>
 oM Tryz.prog (.fieldAddr 63 (.tmp 0) 1) 0 [v40_16] (fun v41_17 w =>
 oM Tryz.prog (.load 24 (.tmp 0)) 24 [v41_17] (fun v42_18 w =>
 oM Tryz.prog (.fieldAddr 63 (.tmp 0) 1) 0 [v12_11] (fun v43_19 w =>
 oM Tryz.prog (.store 24 (.tmp 0) (.tmp 1)) 0 [v43_19, v42_18] (fun _ w =>
 oM Tryz.prog (.load 63 (.tmp 0)) 63 [v12_11] (fun v45_20 w =>
 callM Tryz.prog 30 #[v45_20] (fun v46_21 w =>
 oM Tryz.prog (.extract (.tmp 0) 0) 32 [v46_21] (fun v47_22 w =>
 oM Tryz.prog (.extract (.tmp 0) 1) 39 [v46_21] (fun v48_23 w =>
 oM Tryz.prog (.extract (.tmp 0) 2) 41 [v46_21] (fun v49_24 w =>
 oM Tryz.prog (.extract (.tmp 0) 3) 4 [v46_21] (fun v50_25 w =>
 oM Tryz.prog (.alloc 32) 0 [] (fun v13_26 w =>
 oM Tryz.prog (.alloc 39) 0 [] (fun v14_27 w =>
 oM Tryz.prog (.alloc 41) 0 [] (fun v15_28 w =>
 oM Tryz.prog (.store 32 (.tmp 0) (.tmp 1)) 0 [v13_26, v47_22] (fun _ w =>
 oM Tryz.prog (.store 39 (.tmp 0) (.tmp 1)) 0 [v14_27, v48_23] (fun _ w =>
 oM Tryz.prog (.store 41 (.tmp 0) (.tmp 1)) 0 [v15_28, v49_24] (fun _ w =>
 oM Tryz.prog (.unOp .not 4 (.tmp 0)) 4 [v50_25] (fun v52_29 w =>
 condM v52_29
 (K (.tuple #[(.slice none 0 0), (.slice none 0 0), (.bool false)]) w)
 (joinM (fun M_30 => (oM Tryz.prog (.call (Go.Call.mk (.builtin .len) #[(.tmp 0)] #[85])) 3 [(l_7.getD 7 undef)] (fun v55_32 w =>
 oM Tryz.prog (.binOp .gtr 3 (.tmp 0) (.tmp 1) 3) 4 [v55_32, (.int .i64 0)] (fun v56_33 w =>
 condM v56_33
 (oM Tryz.prog (.indexAddr 84 (.tmp 0) (.tmp 1)) 0 [a1, (l_7.getD 9 undef)] (fun v59_34 w =>
 oM Tryz.prog (.load 9 (.tmp 0)) 9 [v59_34] (fun v60_35 w =>
 heldM w (fun C_36 w => (((true : Bool) = true) ∧ (oH Tryz.prog (.load 32 (.tmp 0)) 32 [v13_26] C_36 (fun v61_37 =>
 pureH (l_7.getD 7 undef) C_36 (fun v62_38 =>
 oH Tryz.prog (.indexAddr 85 (.tmp 0) (.tmp 1)) 0 [v62_38, (.int .i64 0)] C_36 (fun v63_39 =>
 oH Tryz.prog (.fieldAddr 91 (.tmp 0) 0) 0 [v63_39] C_36 (fun v64_40 =>
 oH Tryz.prog (.load 41 (.tmp 0)) 41 [v64_40] C_36 (fun v65_41 =>
 pureH v60_35 C_36 (fun v66_42 =>
 ∃ S_43 : World → World → Prop, ∀ w, C_36 w → (
 callM Tryz.prog 39 #[v61_37, v65_41, v66_42] (fun v67_44 w =>
 M_30 [v60_35, v67_44] w) w))))))))))) w) w)
 (M_30 [(.string ⟨#[]⟩), a2] w)) w) w))
 (fun l_31 u_l_31 w => (oM Tryz.prog (.load 32 (.tmp 0)) 32 [v13_26] (fun v69_45 w =>
 oM Tryz.prog (.fieldAddr 63 (.tmp 0) 4) 0 [v12_11] (fun v70_46 w =>
 oM Tryz.prog (.load 22 (.tmp 0)) 22 [v70_46] (fun v71_47 w =>
 oM Tryz.prog (.fieldAddr 63 (.tmp 0) 5) 0 [v12_11] (fun v72_48 w =>
 oM Tryz.prog (.load 45 (.tmp 0)) 45 [v72_48] (fun v73_49 w =>
 callM Tryz.prog 15 #[v69_45, v71_47, v73_49, (l_31.getD 1 undef)] (fun v75_50 w =>
 oM Tryz.prog (.extract (.tmp 0) 0) 49 [v75_50] (fun v76_51 w =>
 oM Tryz.prog (.extract (.tmp 0) 1) 4 [v75_50] (fun v77_52 w =>
 oM Tryz.prog (.alloc 49) 0 [] (fun v19_53 w =>
 oM Tryz.prog (.store 49 (.tmp 0) (.tmp 1)) 0 [v19_53, v76_51] (fun _ w =>
 oM Tryz.prog (.unOp .not 4 (.tmp 0)) 4 [v77_52] (fun v79_54 w =>
 condM v79_54
 (K (.tuple #[(.slice none 0 0), (.slice none 0 0), (.bool false)]) w)
 (oM Tryz.prog (.load 41 (.tmp 0)) 41 [v15_28] (fun v80_55 w =>
 oM Tryz.prog (.load 49 (.tmp 0)) 49 [v19_53] (fun v81_56 w =>
 oM Tryz.prog (.build 91 #[(0, (.tmp 0)), (1, (.tmp 1)), (2, (.tmp 2))]) 91 [v80_55, v81_56, (l_31.getD 0 undef)] (fun v83_57 w =>
 oM Tryz.prog (.buildSlice 85 1 #[(0, (.tmp 0))]) 85 [v83_57] (fun v84_58 w =>
 oM Tryz.prog (.call (Go.Call.mk (.builtin .append) #[(.tmp 0), (.tmp 1)] #[85, 85])) 85 [v84_58, (l_7.getD 7 undef)] (fun v86_59 w =>
 oM Tryz.prog (.load 32 (.tmp 0)) 32 [v13_26] (fun v88_60 w =>
 oM Tryz.prog (.fieldAddr 63 (.tmp 0) 2) 0 [v12_11] (fun v89_61 w =>
 oM Tryz.prog (.load 3 (.tmp 0)) 3 [v89_61] (fun v90_62 w =>
 callM Tryz.prog 13 #[v88_60, v90_62] (fun v91_63 w =>
 oM Tryz.prog (.buildSlice 22 1 #[(0, (.tmp 0))]) 22 [v91_63] (fun v92_64 w =>
 oM Tryz.prog (.call (Go.Call.mk (.builtin .append) #[(.tmp 0), (.tmp 1)] #[22, 22])) 22 [(l_7.getD 8 undef), v92_64] (fun v93_65 w =>
 oM Tryz.prog (.binOp .sub 3 (.tmp 0) (.tmp 1) 3) 3 [(l_7.getD 9 undef), (.int .i64 1)] (fun v29_66 w =>
 J_5 [v50_25, (l_7.getD 1 undef), (l_7.getD 2 undef), (l_7.getD 3 undef), (l_31.getD 1 undef), (l_31.getD 0 undef), v77_52, v86_59, v93_65, v29_66] w ∧ m_6 [v50_25, (l_7.getD 1 undef), (l_7.getD 2 undef), (l_7.getD 3 undef), (l_31.getD 1 undef), (l_31.getD 0 undef), v77_52, v86_59, v93_65, v29_66] w < m_6 l_7 w0_l_7) w) w) w) w) w) w) w) w) w) w) w) w)) w) w) w) w) w) w) w) w) w) w) w)))) w) w) w) w) w) w) w) w) w) w) w) w) w) w) w) w) w) w) w) w) w) w) w) w) w) w) w)
 (K (.tuple #[(l_7.getD 7 undef), (l_7.getD 8 undef), (.bool true)]) w)) w)) w0_l_7)) w) w) w) w
theorem sh_37_eq (a0 : Value) (a1 : Value) (a2 : Value) (K : Value → World → Prop) (w : World) : sh_37 a0 a1 a2 K w = code Tryz.prog (fun _ => .free [0, 1, 2, 3, 4, 5] [] [6, 7]) 96 (Tryz.f37.body.getD .skip) (slotsAt [a0, a1, a2]) (retK Tryz.prog [.tmp 6, .tmp 7, .tmp 8] K) w := by kernel_rfl
theorem sh_37_ok {a0 a1 a2 : Value} {K : Value → World → Prop} {w : World} (h : sh_37 a0 a1 a2 K w) : callM Tryz.prog 37 #[a0, a1, a2] K w :=
  calls_of_code (fun _ => .free [0, 1, 2, 3, 4, 5] [] [6, 7]) (fn := Tryz.f37) (rs := [.tmp 6, .tmp 7, .tmp 8]) Tryz.func37 rfl rfl (by kernel_rfl) (Nat.le_of_ble_eq_true rfl) ((sh_37_eq a0 a1 a2 K w).mp h)
end Go.Proofs
namespace Go.Proofs
open Go Go.Sh Go.RowKit FdSpec TkSpec CodeSpec
set_option linter.unusedSimpArgs false
set_option linter.unusedVariables false
set_option maxRecDepth 10000
structure SRow {α : Type} (n : Nat) (At : World → Nat → Nat → α → Prop) (w : World) (v : Value) (l : List α) : Prop where
  row : ∃ ad c, v = .slice ad l.length c ∧ (l = [] ∨ ∃ b o, ad = some ⟨b, o, none⟩ ∧ b < w.heap.size ∧ ∀ (i : Nat) (h : i < l.length), At w b (o + i * n) l[i])
  len : l.length ≤ 9223372036854775807
section
variable {α : Type} {n : Nat} {At : World → Nat → Nat → α → Prop} {w w' : World} {v : Value} {l : List α}
theorem SRow.isSlice (h : SRow n At w v l) : ∃ ad c, v = .slice ad l.length c := by
  obtain ⟨⟨ad, c, rfl, _⟩, _⟩ := h; exact ⟨ad, c, rfl⟩
theorem SRow.at {ad : Option Addr} {m c : Nat} (h : SRow n At w (.slice ad m c) l) {i : Nat} (hi : i < l.length) : ∃ b o, ad = some ⟨b, o, none⟩ ∧ b < w.heap.size ∧ At w b (o + i * n) l[i] := by
  obtain ⟨⟨ad', c', hv, h1⟩, _⟩ := h
  cases hv
  rcases h1 with rfl | ⟨b, o, rfl, hlt, hc⟩
  · simp at hi
  · exact ⟨b, o, rfl, hlt, hc i hi⟩
end
theorem idx_row {P : Program} {K : Value → World → Prop} {n : Nat} (t T : TypeId) (hu : P.underlying t = some (.slice (P.elem t))) (hs : ∀ w, (sizeOf (P.elem t)).run P w = .ok n w) (b o m c : Nat) (x : Int) :
    oM P (.indexAddr t (.tmp 0) (.tmp 1)) T [.slice (some ⟨b, o, none⟩) m c, .int .i64 x] = onM (0 ≤ x ∧ x < m) (.pointer (some ⟨b, o + x.toNat * n, none⟩)) := by
  funext K w
  rw [oM_indexAddr, run_indexAt_slice (h := hu)]
  by_cases hi : 0 ≤ x ∧ x < m
  · rw [if_pos hi, hs]
    simp only [Result.andThen, add_none, rM_ok]
    exact propext ⟨fun h => ⟨hi, h⟩, fun h => h.2⟩
  · rw [if_neg hi]
    obtain ⟨e', w', he⟩ := halts Value P .i64 x m .index w
    rw [he]
    exact propext ⟨fun h => h.elim, fun h => hi h.1⟩
section
variable {K : Value → World → Prop} {w w0 : World} {L : List (Addr × Value)}
@[go_sem] theorem idx_cas (T : TypeId) (b o n c : Nat) (x : Int) : oM Tryz.prog (.indexAddr 83 (.tmp 0) (.tmp 1)) T [.slice (some ⟨b, o, none⟩) n c, .int .i64 x] = onM (0 ≤ x ∧ x < n) (.pointer (some ⟨b, o + x.toNat * 10, none⟩)) :=
  idx_row (K := fun _ _ => True) _ T (by kernel_rfl) (fun w => by kernel_rfl) b o n c x
@[go_sem] theorem idx_strs (T : TypeId) (b o n c : Nat) (x : Int) : oM Tryz.prog (.indexAddr 84 (.tmp 0) (.tmp 1)) T [.slice (some ⟨b, o, none⟩) n c, .int .i64 x] = onM (0 ≤ x ∧ x < n) (.pointer (some ⟨b, o + x.toNat * 1, none⟩)) :=
  idx_row (K := fun _ _ => True) _ T (by kernel_rfl) (fun w => by kernel_rfl) b o n c x
theorem sz_cas (w : World) : (sizeOf 63).run Tryz.prog w = .ok 10 w := by kernel_rfl
theorem sz_mir (w : World) : (sizeOf 24).run Tryz.prog w = .ok 2 w := by kernel_rfl
theorem al_cas (w : World) : (Instr.alloc 63 true (.tuple #[])).run Tryz.prog w = .ok (.pointer (some ⟨w.heap.size, 0, none⟩)) (w.alloc (.cells [.int .i64 0, .slice none 0 0, .int .i64 0, .int .i64 0, .int .i64 0, .slice none 0 0, .int .i64 0, .int .i64 0, .int .i64 0, .slice none 0 0].toArray 63)) := by kernel_rfl
theorem cas_one (c : Cas) (a1 a2 a3 : Option Addr) (n1 n2 n3 c1 c2 c3 : Nat) : ∀ u ∈ casC c (.slice a1 n1 c1) (.slice a2 n2 c2) (.slice a3 n3 c3), u.oneCell' = true := by
  intro u hu
  simp only [casC, List.mem_cons, List.not_mem_nil, or_false] at hu
  rcases hu with rfl | rfl | rfl | rfl | rfl | rfl | rfl | rfl | rfl | rfl <;> rfl
def CAt (w : World) (b p : Nat) (c : Cas) : Prop := ∃ mv av yv, CasR w c mv av yv ∧ w.cell? ⟨b, p, none⟩ = some (.int .i64 c.q) ∧ w.cell? ⟨b, p + 1, none⟩ = some mv ∧ w.cell? ⟨b, p + 2, none⟩ = some (.int .i64 c.m.blind) ∧ w.cell? ⟨b, p + 3, none⟩ = some (.int .i64 c.x) ∧
  w.cell? ⟨b, p + 4, none⟩ = some (.int .i64 c.w) ∧ w.cell? ⟨b, p + 5, none⟩ = some av ∧ w.cell? ⟨b, p + 6, none⟩ = some (.int .i64 c.b.s) ∧ w.cell? ⟨b, p + 7, none⟩ = some (.int .i64 c.b.u) ∧ w.cell? ⟨b, p + 8, none⟩ = some (.int .i64 c.b.v) ∧ w.cell? ⟨b, p + 9, none⟩ = some yv
def StrAt (w : World) (b p : Nat) (s : List UInt8) : Prop := w.cell? ⟨b, p, none⟩ = some (.string ⟨s.toArray⟩) ∧ s.length ≤ 9223372036854775807
theorem ints_lt {v : Value} {l : List Int} (h : Ints w v l) (hne : l ≠ []) {i : Nat} (hi : Value.inBlock v = some i) : i < w.heap.size := by
  obtain ⟨⟨ad, c, rfl, h0, h1⟩, _, _⟩ := h
  rcases h1 with rfl | ⟨b, o, rfl, hlt, _⟩
  · exact absurd rfl hne
  · cases hi
    exact hlt
theorem chS_links {W W2 : World} {B : Nat} {lv kv lv' uv : Value} {ps : List (Lnk × Value)} {keys : List Int} {x : Lnk} (h : ChS W B lv kv ps keys) (hB : B ≤ W.heap.size) (hx : SpdR W x.spend uv ∧ TktR x.ticket ∧ x.terms.length ≤ 300)
    (hu : ∀ i, Value.inBlock uv = some i → i < W.heap.size ∧ kv.ownBlock ≠ some i) (ho : OwnL W2 W.heap.size lv' ((x, uv) :: ps)) (hb : Below W.heap.size W W2) : ChS W2 B lv' kv ((x, uv) :: ps) keys := by
  have h2 := h.next hb
  refine ⟨owns_base ho hB, h2.ko, fun i hi e => ?_, fun p hp => ?_, fun p hp i hi => ?_, h.kr⟩
  · have := (owns_own ho hi).2.1
    have := (owns_own h.ko e).1
    omega
  · rcases List.mem_cons.1 hp with rfl | hp
    · exact ⟨hx.1.next hb, hx.2⟩
    · exact h2.spd p hp
  · have key : i < W.heap.size ∧ kv.ownBlock ≠ some i := by
      rcases List.mem_cons.1 hp with rfl | hp
      · exact hu i hi
      · exact ⟨(h.ans p hp i hi).1, (h.ans p hp i hi).2.1⟩
    refine ⟨Nat.lt_of_lt_of_le key.1 hb.size, key.2, fun e => ?_⟩
    have := (owns_own ho e).2.1
    omega
theorem chS_keys {W W2 : World} {B : Nat} {lv kv kv' : Value} {ps : List (Lnk × Value)} {keys : List Int} {q : Int} (h : ChS W B lv kv ps keys) (ho : OwnI W2 B kv' (keys ++ [q])) (hq : I64 q) (hg : W.grownBy W2 kv.ownBlock)
    (hf : ∀ i, kv'.ownBlock = some i → kv.ownBlock = some i ∨ W.heap.size ≤ i) : ChS W2 B lv kv' ps (keys ++ [q]) := by
  refine ⟨owns_keep h.own (fun i hi => hg.block i (owns_own h.own hi).1 (fun e => h.ne i hi (by first | exact e | exact e.symm))), ho, fun i hi e => ?_, fun p hp => ?_, fun p hp i hi => ?_, ?_⟩
  · rcases hf i e with e | e
    · exact h.ne i hi e
    · have := (owns_own h.own hi).1
      omega
  · have hp1 := h.spd p hp
    refine ⟨⟨hp1.1.dare, ⟨hp1.1.answers.row.keep hg.size (fun i e hlt => hg.block i hlt (fun e2 => (h.ans p hp i e).2.1 (by first | exact e2 | exact e2.symm))), hp1.1.answers.rng, hp1.1.answers.len⟩⟩, hp1.2⟩
  · have ha := h.ans p hp i hi
    refine ⟨Nat.lt_of_lt_of_le ha.1 hg.size, fun e => ?_, ha.2.2⟩
    rcases hf i e with e | e
    · exact ha.2.1 e
    · omega
  · intro z hz
    rcases List.mem_append.1 hz with hz | hz
    · exact h.kr z hz
    · rw [List.mem_singleton.1 hz]; exact hq
end
end Go.Proofs
namespace Go.Proofs
open Go Go.Sh Go.RowKit FdSpec TkSpec CodeSpec
set_option linter.unusedSimpArgs false
set_option linter.unusedVariables false
set_option maxRecDepth 10000
section
variable {K : Value → World → Prop} {w w0 : World} {L : List (Addr × Value)}
def CgJ (w0 : World) (dare : Int) (n : Nat) (s : Stp) (md : Bool) (vs : List Value) (w' : World) : Prop := Below w0.heap.size w0 w' ∧ ∃ (a b c d e f g ov kv : Value) (j : Nat) (ps : List (Lnk × Value)) (keys : List Int), vs = [a, b, c, d, e, f, g, ov, kv, .int .i64 ((j : Int) - 1)] ∧
  ps.length + j = n ∧ keys.length = ps.length ∧ ChS w' w0.heap.size ov kv ps keys ∧ (∀ x ∈ ps.map (·.1), TpA.LinkG s keys x) ∧ TpA.ChG s dare (ps.map (·.1)) ∧ (ps ≠ [] → md = true)
def cgMu (l : List Value) (_ : World) : Nat := match l with | [_, _, _, _, _, _, _, _, _, .int _ i] => (i + 1).toNat | _ => 0
theorem cgMu_eq (a b c d e f g h i : Value) (k : IntKind) (x : Int) (w : World) : cgMu [a, b, c, d, e, f, g, h, i, .int k x] w = (x + 1).toNat := rfl
theorem chS_start : ChS ((w.alloc (Obj.cells #[] 91)).alloc (Obj.cells #[] 3)) w.heap.size (.slice (some ⟨w.heap.size, 0, none⟩) 0 0) (.slice (some ⟨w.heap.size + 1, 0, none⟩) 0 0) [] [] := by
  have h1 : OwnL (w.alloc (Obj.cells #[] 91)) w.heap.size (.slice (some ⟨w.heap.size, 0, none⟩) 0 0) [] := World.ownsRow_lit w #[] 0 (Nat.le_refl _) (by decide) rfl
  have h2 : OwnI ((w.alloc (Obj.cells #[] 91)).alloc (Obj.cells #[] 3)) (w.alloc (Obj.cells #[] 91)).heap.size (.slice (some ⟨(w.alloc (Obj.cells #[] 91)).heap.size, 0, none⟩) 0 0) [] := World.ownsRow_lit (w.alloc (Obj.cells #[] 91)) #[] 0 (Nat.le_refl _) (by decide) rfl
  have e : (w.alloc (Obj.cells #[] 91)).heap.size = w.heap.size + 1 := alloc_size _ _
  rw [e] at h2
  refine ⟨h1.alloc _, owns_base h2 (by omega), fun i hi hj => ?_, by simp, by simp, by simp⟩
  have e1 : w.heap.size = i := Option.some.inj hi
  have e2 : w.heap.size + 1 = i := Option.some.inj hj
  omega
theorem chain_ok (l : List Cas) (ts : List (List UInt8)) (dare : Int) (c0 : Cas) {lv tv : Value} (hd : I64 dare) (hT : DbT w) (hL : Cd.Laid w) (hl : SRow 10 CAt w lv l) (ht : SRow 1 StrAt w tv ts) (h0 : l[0]? = some c0) (h5 : l.length ≤ 5) (hts : ts.length = l.length) (h300 : ∀ t ∈ ts, t.length ≤ 300)
    (k0 : ∀ w', Below w.heap.size w w' → K (.tuple #[.slice none 0 0, .slice none 0 0, .bool false]) w')
    (k1 : ∀ w' ov kv ps keys, Below w.heap.size w w' → ChS w' w.heap.size ov kv ps keys → ps.length = l.length → keys.length = l.length → (∀ x ∈ ps.map (·.1), TpA.LinkG (madeM c0).1 keys x) → TpA.ChG (madeM c0).1 dare (ps.map (·.1)) → (madeM c0).2 = true → K (.tuple #[ov, kv, .bool true]) w') :
    callM Tryz.prog 37 #[lv, tv, .int .i64 dare] K w := by
  apply sh_37_ok
  unfold sh_37
  obtain ⟨lad, lc, rfl⟩ := hl.isSlice
  have ht0 := ht
  obtain ⟨tad, tc, rfl⟩ := ht.isSlice
  have h1 : 0 < l.length := (List.getElem?_eq_some_iff.1 h0).1
  have ec0 : l[0] = c0 := (List.getElem?_eq_some_iff.1 h0).2
  repeat (any_goals ((with_reducible refine idO ?_); (with_reducible refine oM_gen fun Kv hK=>?_); simp [go_sem]; (try simp (disch := omega) only [wrapI64, wrapU8, wrapU32, wrapU64]); refine hK _ _ ?_; clear hK; clear Kv))
  refine ⟨CgJ w dare l.length (madeM c0).1 (madeM c0).2, cgMu, ⟨((Below.refl _ w).alloc (Nat.le_refl _) _).alloc (by rw [alloc_size]; omega) _, _, _, _, _, _, _, _, _, _, l.length, [], [], rfl, by simp, rfl, chS_start, by simp, trivial, by simp⟩, ?_⟩
  rintro _ _ w6 ⟨hb, u0, u1, u2, u3, u4, u5, u6, ov, kv, j, ps, keys, rfl, hj, hkl, hS, hG, hC, hmd⟩
  simp only [List.getD_cons_zero, List.getD_cons_succ]
  obtain ⟨oad, oc, rfl⟩ := owns_len hS.own
  cases j with
  | zero =>
    repeat (any_goals (first
    | (with_reducible ((refine idCond ?_); refine yM ?_))
    | ((with_reducible refine idO ?_); (with_reducible refine oM_gen fun Kv hK=>?_); simp [go_sem]; refine hK _ _ ?_; clear hK; clear Kv)))
    exact k1 _ _ _ ps keys hb hS (by omega) (by omega) hG hC (hmd (fun e => by rw [e] at hj; simp at hj; omega))
  | succ i =>
  have ei : ((i + 1 : Nat) : Int) - 1 = (i : Int) := by omega
  rw [ei]
  have hil : (i : Int) < l.length := by omega
  have h1l : (0 : Int) < l.length := by omega
  obtain ⟨b8, o8, rfl, hb8, mv0, av0, yv0, hz, cs0⟩ := hl.at (i := 0) (by omega)
  obtain ⟨_, _, e8, _, mv, av, yv, hc, cs⟩ := hl.at (i := i) (by omega)
  cases e8
  simp only [Nat.zero_mul, Nat.add_zero] at cs0
  rw [ec0] at hz cs0
  generalize l[i] = c at *
  have cz : ∀ w', Below w.heap.size w w' → _ := fun w' hb => by
    have e : ∀ k, w'.cell? ⟨b8, k, none⟩ = w.cell? ⟨b8, k, none⟩ := fun k => by rw [hb.cell hb8]
    have cs := cs0
    simp only [← e] at cs
    exact cs
  have ca : ∀ w', Below w.heap.size w w' → _ := fun w' hb => by
    have e : ∀ k, w'.cell? ⟨b8, k, none⟩ = w.cell? ⟨b8, k, none⟩ := fun k => by rw [hb.cell hb8]
    have cs := cs
    simp only [← e] at cs
    exact cs
  obtain ⟨mad, mc, rfl⟩ := hc.m.ints.isSlice
  obtain ⟨aad, ac, rfl⟩ := hc.attrs.isSlice
  obtain ⟨yad, yc, rfl⟩ := hc.b.ys.isSlice
  have hz' := hz
  obtain ⟨zad, zc, rfl⟩ := hz.m.ints.isSlice
  iterate 4 (any_goals (first
  | (with_reducible ((refine idCond ?_); refine yL ?_))
  | ((with_reducible refine idO ?_); (with_reducible refine oM_gen fun Kv hK=>?_); simp [go_sem, ca _ hb, hil, h1l]; refine hK _ _ ?_; clear hK; clear Kv)))
  refine arr_alloc al_cas fun g1 w7 h7 hg1 hh => ?_
  refine arr_store sz_cas rfl rfl (cas_one c _ _ _ _ _ _ _ _ _) hh rfl (fun w8 hq hh => ?_)
  have hB := grown_below h7 hq hg1
  clear hq h7
  repeat (any_goals ((with_reducible refine idO ?_); (with_reducible refine oM_gen fun Kv hK=>?_); simp [go_sem, cz _ (hb.on hB), hil, h1l]; (first|refine hK _ _ ?_|refine And.intro (by omega) (hK _ _ ?_)); clear hK; clear Kv))
  refine arr_set (i := 0) sz_int rfl rfl hh (show 0 < 10 by decide) (fun w9 hq hh => ?_)
  have hB := grown_below hB hq hg1
  clear hq
  repeat (any_goals ((with_reducible refine idO ?_); (with_reducible refine oM_gen fun Kv hK=>?_); simp [go_sem, cz _ (hb.on hB), hil, h1l]; (first|refine hK _ _ ?_|refine And.intro (by omega) (hK _ _ ?_)); clear hK; clear Kv))
  refine arr_storeRow (o := 1) (m := 2) (x := mirV c0.m (.slice zad c0.m.bases.length zc)) (xs := mirC c0.m (.slice zad c0.m.bases.length zc)) sz_mir rfl rfl (by intro u hu; simp only [mirC, List.mem_cons, List.not_mem_nil, or_false] at hu; rcases hu with rfl | rfl <;> rfl) hh (show 1 + 2 ≤ 10 by decide) (fun w10 hq hh => ?_)
  have hB := grown_below hB hq hg1
  clear hq
  have em : madeM { c with q := c0.q, m := c0.m } = madeM c0 := rfl
  have hcR : ∀ w', Below w.heap.size w w' → CasR w' { c with q := c0.q, m := c0.m } (.slice zad c0.m.bases.length zc) (.slice aad c.attrs.length ac) (.slice yad c.b.ys.length yc) := fun w' hb => ⟨hz'.q, hz'.m.next hb, hc.x, hc.wn, hc.attrs.next hb, hc.b.next hb⟩
  have hh : Holds w10 g1 63 (casC { c with q := c0.q, m := c0.m } (.slice zad c0.m.bases.length zc) (.slice aad c.attrs.length ac) (.slice yad c.b.ys.length yc)) := hh
  have hk : Kn w6 (cellsOf [] g1 0 (casC { c with q := c0.q, m := c0.m } (.slice zad c0.m.bases.length zc) (.slice aad c.attrs.length ac) (.slice yad c.b.ys.length yc))) w10 :=
    ⟨hB, cellsOf_are (xs := casC { c with q := c0.q, m := c0.m } (.slice zad c0.m.bases.length zc) (.slice aad c.attrs.length ac) (.slice yad c.b.ys.length yc)) trivial (fun i v hi => by
      obtain ⟨hl, rfl⟩ := List.getElem?_eq_some_iff.1 hi
      exact hh.cell i hl) _ 0 rfl⟩
  clear hh hB cz
  generalize hcc : ({ c with q := c0.q, m := c0.m } : Cas) = d at *
  have ed : d.attrs = c.attrs ∧ d.b = c.b ∧ d.m = c0.m := by subst hcc; exact ⟨rfl, rfl, rfl⟩
  rw [← ed.1, ← ed.2.1, ← ed.2.2] at hk hcR
  clear hc cs ca hz hz' cs0 hcc ed
  have hbk : Below w.heap.size w w10 := hb.on hk.below
  repeat (any_goals ((with_reducible refine idO ?_); (with_reducible refine oM_gen fun Kv hK=>?_); simp [go_sem, hk.cells]; refine hK _ _ ?_; clear hK; clear Kv))
  refine issued_ok d (hT.next hbk) (hL.below hbk hL.size) (hcR _ hbk) (fun w11 sv xv h hs hx ht => ?_)
  have hk := hk.next h
  clear h hbk
  obtain ⟨sad, sc, rfl⟩ := hs.ints.isSlice
  obtain ⟨xad, xc, rfl⟩ := hx.attrs.isSlice
  iterate 4 (any_goals ((with_reducible refine idO ?_); (with_reducible refine oM_gen fun Kv hK=>?_); simp [go_sem]; refine hK _ _ ?_; clear hK; clear Kv))
  refine local3 _ _ _ _ _ _ _ _ _ hk (fun g2 g3 g4 w12 hk h => ?_)
  have hs := hs.next h
  clear h hx
  cases hok : (issuedM d).ok with
  | false =>
    repeat (any_goals (first
    | (with_reducible ((refine idCond ?_); refine yL ?_))
    | ((with_reducible refine idO ?_); (with_reducible refine oM_gen fun Kv hK=>?_); simp [go_sem]; refine hK _ _ ?_; clear hK; clear Kv)))
    exact k0 _ (hb.on hk.below)
  | true =>
  obtain ⟨hsm, hmd2, es, hh, hi, ex, et⟩ := issued_hon hok
  rw [es, et] at hk
  rw [es] at hs
  rw [et] at ht
  rw [em] at hk hs ht hh hi hmd2
  clear es et ex em hmd hok hsm
  generalize (madeM c0).1 = s at *
  repeat (any_goals (first
  | (with_reducible ((refine idCond ?_); refine yM ?_))
  | ((with_reducible refine idO ?_); (with_reducible refine oM_gen fun Kv hK=>?_); simp [go_sem]; refine hK _ _ ?_; clear hK; clear Kv)))
  have hvs := hh.md.vs
  have hQ5 := (validS_Q hvs).1
  have hlI : ∀ (t : Tkt) (m : List UInt8), I64 (lendM s t m) := fun t m => by
    have := TpA.lend_range hvs hQ5 t m
    have := hs.grp.2.1
    unfold I64 at this ⊢
    omega
  have hlen : ps.length ≤ 10 := by omega
  refine ⟨fun l W => Kn w6 (cellsOf (cellsOf (cellsOf (cellsOf [] g1 0 (casC d (.slice zad d.m.bases.length zc) (.slice aad d.attrs.length ac) (.slice yad d.b.ys.length yc))) g2 0 (stpC s (.slice sad s.bases.length sc))) g3 0 (sesC (issuedM d).x (.slice xad (issuedM d).x.attrs.length xc))) g4 0 (tktC (TpA.hT s d.attrs d.b d.x d.w))) W ∧ SetR W s (.slice sad s.bases.length sc) ∧ ∃ (words : List UInt8) (e : Int), l = [Value.string ⟨words.toArray⟩, Value.int .i64 e] ∧ words.length ≤ 300 ∧ I64 e ∧ ((ps = [] ∧ e = dare ∧ words = []) ∨ ∃ p qs, ps = p :: qs ∧ e = lendM s p.1.ticket words), ?_, ?_⟩
  · cases ps with
    | nil =>
      repeat (any_goals (first
      | (with_reducible ((refine idCond ?_); refine yM ?_))
      | ((with_reducible refine idO ?_); (with_reducible refine oM_gen fun Kv hK=>?_); simp [go_sem]; refine hK _ _ ?_; clear hK; clear Kv)))
      exact ⟨hk, hs, [], dare, rfl, by simp, hd, .inl ⟨rfl, rfl, rfl⟩⟩
    | cons p qs =>
      obtain ⟨bt, ot, rfl, hbt, hst, _⟩ := ht0.at (i := i) (by omega)
      have hst : ∀ w', Below w.heap.size w w' → w'.cell? ⟨bt, ot + i, none⟩ = some (.string ⟨ts[i].toArray⟩) := fun w' h => by rw [h.cell hbt]; rw [Nat.mul_one] at hst; exact hst
      have hw3 := h300 _ (List.getElem_mem (show i < ts.length by omega))
      obtain ⟨bo, oo, av, e8, cb, _, htk, _⟩ := ((hS.next hk.below).row hlen).at (i := 0) (by simp)
      cases e8
      simp only [Nat.zero_mul, Nat.add_zero, List.map_cons, List.getElem_cons_zero] at cb htk
      have cb : ∀ w', Below w12.heap.size w12 w' → _ := fun w' h => by
        have := cb w' h
        unfold LnkAt at this
        exact this
      have hit : (i : Int) < ts.length := by omega
      have hpl : (0 : Int) < (p :: qs).length := by simp
      generalize ts[i] = words at *
      repeat (any_goals (first
      | (with_reducible ((refine idCond ?_); refine yL ?_))
      | ((with_reducible refine idO ?_); (with_reducible refine oM_gen fun Kv hK=>?_); simp [go_sem, hst _ (hb.on hk.below), hit, hpl]; refine hK _ _ ?_; clear hK; clear Kv)))
      have hD : Below w12.heap.size w12 { w12 with drawn := w12.drawn + 1 } := .drawn
      have hk := hk.drew
      have hs : SetR { w12 with drawn := w12.drawn + 1 } _ _ := hs.next (Below.refl _ w12).drew
      refine ⟨Nx { w12 with drawn := w12.drawn + 1 }, Below.refl _ _, trivial, ?_⟩
      generalize ({ w12 with drawn := w12.drawn + 1 } : World) = W at hk hs hD ⊢
      repeat (any_goals (first
      | (with_reducible refine pureH_in ?_)
      | ((with_reducible refine idOH ?_); (with_reducible refine oH_of ⟨_, rfl⟩ (fun W0 hW0 => by (refine oM_gen (fun Kv hK => ?_)); simp [go_sem, (hk.next hW0).cells, cb _ (hD.on hW0), hpl]; (first | exact hK _ _ ⟨rfl, rfl⟩ | exact ⟨by omega, hK _ _ ⟨rfl, rfl⟩⟩)) ?_))))
      refine ⟨Nx, fun w13 h13 => ?_⟩
      refine LendDare_ok s p.1.ticket words (by omega) htk (hs.next h13) (hL.below (hb.on (hk.next h13).below) hL.size) (fun w14 h14 => ?_)
      exact ⟨(hk.next h13).next h14, (hs.next h13).next h14, words, _, rfl, hw3, hlI _ _, .inr ⟨p, qs, rfl, rfl⟩⟩
  clear hk hs
  rintro _ _ w15 ⟨hk, hs, words, e, rfl, hw3, heI, hcase⟩
  simp only [List.getD_cons_zero, List.getD_cons_succ]
  repeat (any_goals ((with_reducible refine idO ?_); (with_reducible refine oM_gen fun Kv hK=>?_); simp [go_sem, hk.cells]; refine hK _ _ ?_; clear hK; clear Kv))
  refine Use_okF s d.b e heI hs (hcR _ (hb.on hk.below)).attrs (hcR _ (hb.on hk.below)).b (fun w16 uv h hu hf => ?_)
  have hs15 := hk.below.size
  have hk := hk.next h
  have hs := hs.next h
  clear h
  obtain ⟨uad, uc, rfl⟩ := hu.isSlice
  iterate 2 (any_goals ((with_reducible refine idO ?_); (with_reducible refine oM_gen fun Kv hK=>?_); simp [go_sem]; refine hK _ _ ?_; clear hK; clear Kv))
  refine local_spdK _ _ _ _ hk (fun g5 w17 hk h hg5 => ?_)
  have hs := hs.next h
  have hu := hu.next h
  clear h
  by_cases hdr : 1 ≤ e ∧ e < s.g.Q
  rotate_left
  · have e0 := hh.use_no hdr
    repeat (any_goals (first
    | (with_reducible ((refine idCond ?_); refine yL ?_))
    | ((with_reducible refine idO ?_); (with_reducible refine oM_gen fun Kv hK=>?_); simp [go_sem, e0]; refine hK _ _ ?_; clear hK; clear Kv)))
    exact k0 _ (hb.on hk.below)
  have e1 : (useM s d.attrs d.b e).2 = true := by rw [hh.use_ok hdr]
  have ed : (useM s d.attrs d.b e).1.dare = e := by rw [hh.use_ok hdr]
  obtain ⟨hul, _, _⟩ := use_len e1
  have hb2 := hh.md.b2
  have hml := hh.md.len
  have hw17 := hk.below.size
  have hkb : Below w.heap.size w w17 := hb.on hk.below
  have hu2 := spd_R heI hu
  have hublk : ∀ i, Value.inBlock (.slice uad (useM s d.attrs d.b e).1.answers.length uc) = some i → i < w17.heap.size ∧ kv.ownBlock ≠ some i := fun i hi => by
    refine ⟨ints_lt hu (fun h0 => by rw [h0] at hul; simp at hul; omega) hi, fun h0 => ?_⟩
    have := hf i hi
    have := (owns_own hS.ko h0).1
    omega
  have hS17 := hS.next hk.below
  have hB17 : w.heap.size ≤ w17.heap.size := hkb.size
  have hXL : ∀ y ∈ ps, ∃ ad n c, y.2 = .slice ad n c := fun y hy => by
    obtain ⟨ad, c, e⟩ := (hS.spd y hy).1.answers.isSlice
    exact ⟨ad, _, c, e⟩
  repeat (any_goals (first
  | ((with_reducible refine mkL ⟨TpA.hT s d.attrs d.b d.x d.w, (useM s d.attrs d.b e).1, words⟩ uad (useM s d.attrs d.b e).1.answers.length uc ?_); intro w18 h18 hz18 hoL)
  | (with_reducible ((refine idCond ?_); refine yM ?_))
  | ((with_reducible refine idO ?_); (with_reducible refine oM_gen fun Kv hK=>?_); simp [go_sem, hk.cells, e1, build_lnk]; refine hK _ _ ?_; clear hK; clear Kv)))
  refine appendL hoL ⟨_, _, _, rfl⟩ (hS17.next h18).own hXL h18.size hlen (fun lv' w19 ho19 hq hfr => ?_)
  have h19 : Below w17.heap.size w17 w19 := h18.grown hq h18.size (fun i hi => by cases hi; exact Nat.le_refl _)
  have hS19 := chS_links hS17 hB17 ⟨hu2, ht, hw3⟩ hublk ho19 h19
  have hk := hk.next h19
  have hs := hs.next h19
  clear h18 hz18 hoL hq hfr ho19 hS17
  repeat (any_goals ((with_reducible refine idO ?_); (with_reducible refine oM_gen fun Kv hK=>?_); simp [go_sem, hk.cells]; refine hK _ _ ?_; clear hK; clear Kv))
  refine Public_ok s d.x (hcR _ hkb).x hs (fun w20 h => ?_)
  have hk := hk.next h
  have hS20 := hS19.next h
  clear h h19 hs hu hu2 hf hS19
  repeat (any_goals ((with_reducible refine mk1 (publicM s d.x) (publicM_I64 _ _) ?_); intro v21 w21 h21 hi21))
  have hk := hk.next h21
  have hS21 := hS20.next h21
  have hb21 := hb.on hk.below
  refine appendK hS21.ko hb21.size hi21 (by simp; omega) (fun kv' w22 ho22 hq hfr => ?_)
  have hS22 := chS_keys hS21 ho22 (publicM_I64 _ _) hq hfr
  have hb22 : Below w.heap.size w w22 := hb21.grown hq hb21.size (fun i hi => (owns_own hS21.ko hi).2.1)
  have hsub : IntKind.i64.wrap ((i : Int) - 1) = (i : Int) - 1 := wrapI64 _ (by omega) (by omega)
  repeat (any_goals ((with_reducible refine idO ?_); (with_reducible refine oM_gen fun Kv hK=>?_); simp [go_sem, hsub]; refine hK _ _ ?_; clear hK; clear Kv))
  refine ⟨⟨hb22, _, _, _, _, _, _, _, lv', kv', i, (⟨TpA.hT s d.attrs d.b d.x d.w, (useM s d.attrs d.b e).1, words⟩, .slice uad (useM s d.attrs d.b e).1.answers.length uc) :: ps, keys ++ [publicM s d.x], rfl, by simp; omega, by simp; omega, hS22, ?_, ?_, fun _ => hmd2⟩, ?_⟩
  · intro x hx
    rw [List.map_cons] at hx
    rcases List.mem_cons.1 hx with rfl | hx
    · exact ⟨⟨publicM s d.x, by simp, hh.valid hi rfl⟩, hh.accept hdr (hh.r_range _), hw3⟩
    · exact (hG x hx).more (fun q hq => List.mem_append_left _ hq)
  · rcases hcase with ⟨rfl, rfl, rfl⟩ | ⟨p, qs, rfl, he⟩
    · exact ⟨ed, rfl⟩
    · exact ⟨ed.trans he, hC⟩
  · rw [cgMu_eq, cgMu_eq]
    omega
end
end Go.Proofs
set_option linter.unusedVariables false
set_option maxRecDepth 100000
namespace Go.Proofs
open Go.Sh
def sh_7 (a0 : Value) (a1 : Value) (a2 : Value) (a3 : Value) (a4 : Value) (a5 : Value) (K : Value → World → Prop) (w : World) : Prop :=
 callM Tryz.prog 21 #[] (fun v23_1 w =>
 oM Tryz.prog (.call (Go.Call.mk (.builtin .len) #[(.tmp 0)] #[83])) 3 [a0] (fun v25_2 w =>
 oM Tryz.prog (.binOp .lss 3 (.tmp 0) (.tmp 1) 3) 4 [v25_2, (.int .i64 1)] (fun v26_3 w =>
 gdM (gd v26_3 false) (pureM a0) (fun v28_4 w =>
 gdM (gd v26_3 false) (oM Tryz.prog (.call (Go.Call.mk (.builtin .len) #[(.tmp 0)] #[83])) 3 [v28_4]) (fun v29_5 w =>
 gdM (gd v26_3 false) (oM Tryz.prog (.binOp .gtr 3 (.tmp 0) (.tmp 1) 3) 4 [v29_5, (.int .i64 5)]) (fun v30_6 w =>
 oM Tryz.prog (.pick (.tmp 0) (.tmp 1) (.tmp 2)) 4 [v26_3, (.bool true), v30_6] (fun v31_7 w =>
 gdM (gd v31_7 false) (pureM a1) (fun v33_8 w =>
 gdM (gd v31_7 false) (oM Tryz.prog (.call (Go.Call.mk (.builtin .len) #[(.tmp 0)] #[84])) 3 [v33_8]) (fun v34_9 w =>
 gdM (gd v31_7 false) (pureM a0) (fun v35_10 w =>
 gdM (gd v31_7 false) (oM Tryz.prog (.call (Go.Call.mk (.builtin .len) #[(.tmp 0)] #[83])) 3 [v35_10]) (fun v36_11 w =>
 gdM (gd v31_7 false) (oM Tryz.prog (.binOp .neq 3 (.tmp 0) (.tmp 1) 3) 4 [v34_9, v36_11]) (fun v37_12 w =>
 oM Tryz.prog (.pick (.tmp 0) (.tmp 1) (.tmp 2)) 4 [v31_7, (.bool true), v37_12] (fun v38_13 w =>
 gdM (gd v38_13 false) (pureM a5) (fun v40_14 w =>
 gdM (gd v38_13 false) (oM Tryz.prog (.call (Go.Call.mk (.builtin .len) #[(.tmp 0)] #[9])) 3 [v40_14]) (fun v41_15 w =>
 gdM (gd v38_13 false) (oM Tryz.prog (.binOp .gtr 3 (.tmp 0) (.tmp 1) 3) 4 [v41_15, (.int .i64 300)]) (fun v42_16 w =>
 oM Tryz.prog (.pick (.tmp 0) (.tmp 1) (.tmp 2)) 4 [v38_13, (.bool true), v42_16] (fun v43_17 w =>
 condM v43_17
 (K v23_1 w)
 (loopM [(.bool false), (.int .i64 0)] w (fun J_18 m_19 l_20 u_l_20 w0_l_20 => (fun w => (
 oM Tryz.prog (.call (Go.Call.mk (.builtin .len) #[(.tmp 0)] #[83])) 3 [a0] (fun v47_21 w =>
 oM Tryz.prog (.binOp .lss 3 (.tmp 0) (.tmp 1) 3) 4 [(l_20.getD 1 undef), v47_21] (fun v48_22 w =>
 condM v48_22
 (oM Tryz.prog (.indexAddr 83 (.tmp 0) (.tmp 1)) 0 [a0, (l_20.getD 1 undef)] (fun v53_23 w =>
 oM Tryz.prog (.load 63 (.tmp 0)) 63 [v53_23] (fun v54_24 w =>
 callM Tryz.prog 23 #[v54_24] (fun v55_25 w =>
 oM Tryz.prog (.unOp .not 4 (.tmp 0)) 4 [v55_25] (fun v56_26 w =>
 gdM (gd v56_26 false) (pureM a1) (fun v58_27 w =>
 gdM (gd v56_26 false) (pureM (l_20.getD 1 undef)) (fun v59_28 w =>
 gdM (gd v56_26 false) (oM Tryz.prog (.indexAddr 84 (.tmp 0) (.tmp 1)) 0 [v58_27, v59_28]) (fun v60_29 w =>
 gdM (gd v56_26 false) (oM Tryz.prog (.load 9 (.tmp 0)) 9 [v60_29]) (fun v61_30 w =>
 gdM (gd v56_26 false) (oM Tryz.prog (.call (Go.Call.mk (.builtin .len) #[(.tmp 0)] #[9])) 3 [v61_30]) (fun v62_31 w =>
 gdM (gd v56_26 false) (oM Tryz.prog (.binOp .gtr 3 (.tmp 0) (.tmp 1) 3) 4 [v62_31, (.int .i64 300)]) (fun v63_32 w =>
 oM Tryz.prog (.pick (.tmp 0) (.tmp 1) (.tmp 2)) 4 [v56_26, (.bool true), v63_32] (fun v64_33 w =>
 condM v64_33
 (K v23_1 w)
 (oM Tryz.prog (.binOp .add 3 (.tmp 0) (.tmp 1) 3) 3 [(l_20.getD 1 undef), (.int .i64 1)] (fun v50_34 w =>
 J_18 [(l_20.getD 0 undef), v50_34] w ∧ m_19 [(l_20.getD 0 undef), v50_34] w < m_19 l_20 w0_l_20) w)) w) w) w) w) w) w) w) w) w) w) w)
 (callM Tryz.prog 37 #[a0, a1, a2] (fun v70_35 w =>
 oM Tryz.prog (.extract (.tmp 0) 0) 85 [v70_35] (fun v71_36 w =>
 oM Tryz.prog (.extract (.tmp 0) 1) 22 [v70_35] (fun v72_37 w =>
 oM Tryz.prog (.extract (.tmp 0) 2) 4 [v70_35] (fun v73_38 w =>
 oM Tryz.prog (.unOp .not 4 (.tmp 0)) 4 [v73_38] (fun v75_39 w =>
 condM v75_39
 (K v23_1 w)
 (oM Tryz.prog (.indexAddr 83 (.tmp 0) (.tmp 1)) 0 [a0, (.int .i64 0)] (fun v79_40 w =>
 oM Tryz.prog (.load 63 (.tmp 0)) 63 [v79_40] (fun v80_41 w =>
 callM Tryz.prog 22 #[v80_41] (fun v81_42 w =>
 oM Tryz.prog (.extract (.tmp 0) 0) 32 [v81_42] (fun v82_43 w =>
 oM Tryz.prog (.extract (.tmp 0) 1) 4 [v81_42] (fun v83_44 w =>
 oM Tryz.prog (.alloc 32) 0 [] (fun v18_45 w =>
 oM Tryz.prog (.store 32 (.tmp 0) (.tmp 1)) 0 [v18_45, v82_43] (fun _ w =>
 oM Tryz.prog (.load 32 (.tmp 0)) 32 [v18_45] (fun v84_46 w =>
 callM Tryz.prog 38 #[v84_46, v72_37, v71_36, a2] (fun v88_47 w =>
 oM Tryz.prog (.unOp .not 4 (.tmp 0)) 4 [v88_47] (fun v89_48 w =>
 gdM (gd v89_48 false) (oM Tryz.prog (.load 32 (.tmp 0)) 32 [v18_45]) (fun v91_49 w =>
 gdM (gd v89_48 false) (pureM v72_37) (fun v92_50 w =>
 gdM (gd v89_48 false) (pureM v71_36) (fun v93_51 w =>
 gdM (gd v89_48 false) (pureM a3) (fun v94_52 w =>
 gdM (gd v89_48 false) (callM Tryz.prog 38 #[v91_49, v92_50, v93_51, v94_52]) (fun v95_53 w =>
 gdM (gd v89_48 false) (pureM a3) (fun v96_54 w =>
 gdM (gd v89_48 false) (pureM a2) (fun v97_55 w =>
 gdM (gd v89_48 false) (oM Tryz.prog (.binOp .eql 3 (.tmp 0) (.tmp 1) 3) 4 [v96_54, v97_55]) (fun v98_56 w =>
 gdM (gd v89_48 false) (oM Tryz.prog (.binOp .neq 4 (.tmp 0) (.tmp 1) 4) 4 [v95_53, v98_56]) (fun v99_57 w =>
 oM Tryz.prog (.pick (.tmp 0) (.tmp 1) (.tmp 2)) 4 [v89_48, (.bool true), v99_57] (fun v100_58 w =>
 condM v100_58
 (K (.bool false) w)
 (oM Tryz.prog (.convert 5 3 (.tmp 0)) 3 [a4] (fun v102_59 w =>
 oM Tryz.prog (.call (Go.Call.mk (.builtin .len) #[(.tmp 0)] #[85])) 3 [v71_36] (fun v104_60 w =>
 oM Tryz.prog (.binOp .rem 3 (.tmp 0) (.tmp 1) 3) 3 [v102_59, v104_60] (fun v105_61 w =>
 oM Tryz.prog (.binOp .add 3 (.tmp 0) (.tmp 1) 3) 3 [v105_61, (.int .i64 1)] (fun v107_62 w =>
 oM Tryz.prog (.call (Go.Call.mk (.builtin .len) #[(.tmp 0)] #[85])) 3 [v71_36] (fun v109_63 w =>
 oM Tryz.prog (.binOp .eql 3 (.tmp 0) (.tmp 1) 3) 4 [v107_62, v109_63] (fun v110_64 w =>
 condM v110_64
 (K v23_1 w)
 (heldM w (fun C_65 w => (((true : Bool) = true) ∧ (oH Tryz.prog (.load 32 (.tmp 0)) 32 [v18_45] C_65 (fun v112_66 =>
 pureH v71_36 C_65 (fun v113_67 =>
 pureH v105_61 C_65 (fun v114_68 =>
 oH Tryz.prog (.binOp .add 3 (.tmp 0) (.tmp 1) 3) 3 [v114_68, (.int .i64 1)] C_65 (fun v115_69 =>
 oH Tryz.prog (.indexAddr 85 (.tmp 0) (.tmp 1)) 0 [v113_67, v115_69] C_65 (fun v116_70 =>
 oH Tryz.prog (.fieldAddr 91 (.tmp 0) 0) 0 [v116_70] C_65 (fun v117_71 =>
 oH Tryz.prog (.load 41 (.tmp 0)) 41 [v117_71] C_65 (fun v118_72 =>
 pureH v71_36 C_65 (fun v119_73 =>
 pureH v105_61 C_65 (fun v120_74 =>
 oH Tryz.prog (.indexAddr 85 (.tmp 0) (.tmp 1)) 0 [v119_73, v120_74] C_65 (fun v121_75 =>
 oH Tryz.prog (.fieldAddr 91 (.tmp 0) 2) 0 [v121_75] C_65 (fun v122_76 =>
 oH Tryz.prog (.load 9 (.tmp 0)) 9 [v122_76] C_65 (fun v123_77 =>
 ∃ S_78 : World → World → Prop, ∀ w, C_65 w → (
 callM Tryz.prog 39 #[v112_66, v118_72, v123_77] (fun v124_79 w =>
 heldM w (fun C_80 w => (((true : Bool) = true) ∧ (oH Tryz.prog (.load 32 (.tmp 0)) 32 [v18_45] C_80 (fun v125_81 =>
 pureH v71_36 C_80 (fun v126_82 =>
 pureH v105_61 C_80 (fun v127_83 =>
 oH Tryz.prog (.binOp .add 3 (.tmp 0) (.tmp 1) 3) 3 [v127_83, (.int .i64 1)] C_80 (fun v128_84 =>
 oH Tryz.prog (.indexAddr 85 (.tmp 0) (.tmp 1)) 0 [v126_82, v128_84] C_80 (fun v129_85 =>
 oH Tryz.prog (.fieldAddr 91 (.tmp 0) 0) 0 [v129_85] C_80 (fun v130_86 =>
 oH Tryz.prog (.load 41 (.tmp 0)) 41 [v130_86] C_80 (fun v131_87 =>
 pureH a5 C_80 (fun v132_88 =>
 ∃ S_89 : World → World → Prop, ∀ w, C_80 w → (
 callM Tryz.prog 39 #[v125_81, v131_87, v132_88] (fun v133_90 w =>
 oM Tryz.prog (.indexAddr 85 (.tmp 0) (.tmp 1)) 0 [v71_36, v105_61] (fun v137_91 w =>
 oM Tryz.prog (.fieldAddr 91 (.tmp 0) 2) 0 [v137_91] (fun v138_92 w =>
 oM Tryz.prog (.store 9 (.tmp 0) (.tmp 1)) 0 [v138_92, a5] (fun _ w =>
 oM Tryz.prog (.fieldAddr 32 (.tmp 0) 0) 0 [v18_45] (fun v140_93 w =>
 oM Tryz.prog (.fieldAddr 30 (.tmp 0) 1) 0 [v140_93] (fun v141_94 w =>
 oM Tryz.prog (.load 3 (.tmp 0)) 3 [v141_94] (fun v142_95 w =>
 oM Tryz.prog (.binOp .quo 3 (.tmp 0) (.tmp 1) 3) 3 [v142_95, (.int .i64 2)] (fun v143_96 w =>
 oM Tryz.prog (.binOp .leq 3 (.tmp 0) (.tmp 1) 3) 4 [v124_79, v143_96] (fun v144_97 w =>
 gdM (gd v144_97 false) (pureM v124_79) (fun v146_98 w =>
 gdM (gd v144_97 false) (oM Tryz.prog (.fieldAddr 32 (.tmp 0) 0) 0 [v18_45]) (fun v147_99 w =>
 gdM (gd v144_97 false) (oM Tryz.prog (.fieldAddr 30 (.tmp 0) 1) 0 [v147_99]) (fun v148_100 w =>
 gdM (gd v144_97 false) (oM Tryz.prog (.load 3 (.tmp 0)) 3 [v148_100]) (fun v149_101 w =>
 gdM (gd v144_97 false) (oM Tryz.prog (.binOp .geq 3 (.tmp 0) (.tmp 1) 3) 4 [v146_98, v149_101]) (fun v150_102 w =>
 oM Tryz.prog (.pick (.tmp 0) (.tmp 1) (.tmp 2)) 4 [v144_97, (.bool true), v150_102] (fun v151_103 w =>
 gdM (gd v151_103 false) (pureM v133_90) (fun v153_104 w =>
 gdM (gd v151_103 false) (oM Tryz.prog (.fieldAddr 32 (.tmp 0) 0) 0 [v18_45]) (fun v154_105 w =>
 gdM (gd v151_103 false) (oM Tryz.prog (.fieldAddr 30 (.tmp 0) 1) 0 [v154_105]) (fun v155_106 w =>
 gdM (gd v151_103 false) (oM Tryz.prog (.load 3 (.tmp 0)) 3 [v155_106]) (fun v156_107 w =>
 gdM (gd v151_103 false) (oM Tryz.prog (.binOp .quo 3 (.tmp 0) (.tmp 1) 3) 3 [v156_107, (.int .i64 2)]) (fun v157_108 w =>
 gdM (gd v151_103 false) (oM Tryz.prog (.binOp .leq 3 (.tmp 0) (.tmp 1) 3) 4 [v153_104, v157_108]) (fun v158_109 w =>
 oM Tryz.prog (.pick (.tmp 0) (.tmp 1) (.tmp 2)) 4 [v151_103, (.bool true), v158_109] (fun v159_110 w =>
 gdM (gd v159_110 false) (pureM v133_90) (fun v161_111 w =>
 gdM (gd v159_110 false) (oM Tryz.prog (.fieldAddr 32 (.tmp 0) 0) 0 [v18_45]) (fun v162_112 w =>
 gdM (gd v159_110 false) (oM Tryz.prog (.fieldAddr 30 (.tmp 0) 1) 0 [v162_112]) (fun v163_113 w =>
 gdM (gd v159_110 false) (oM Tryz.prog (.load 3 (.tmp 0)) 3 [v163_113]) (fun v164_114 w =>
 gdM (gd v159_110 false) (oM Tryz.prog (.binOp .geq 3 (.tmp 0) (.tmp 1) 3) 4 [v161_111, v164_114]) (fun v165_115 w =>
 oM Tryz.prog (.pick (.tmp 0) (.tmp 1) (.tmp 2)) 4 [v159_110, (.bool true), v165_115] (fun v166_116 w =>
 condM v166_116
 (K (.bool false) w)
 (gdM (gd v23_1 true) (oM Tryz.prog (.load 32 (.tmp 0)) 32 [v18_45]) (fun v169_117 w =>
 gdM (gd v23_1 true) (pureM v72_37) (fun v170_118 w =>
 gdM (gd v23_1 true) (pureM v71_36) (fun v171_119 w =>
 gdM (gd v23_1 true) (pureM a2) (fun v172_120 w =>
 gdM (gd v23_1 true) (callM Tryz.prog 38 #[v169_117, v170_118, v171_119, v172_120]) (fun v173_121 w =>
 gdM (gd v23_1 true) (pureM v124_79) (fun v174_122 w =>
 gdM (gd v23_1 true) (pureM v133_90) (fun v175_123 w =>
 gdM (gd v23_1 true) (oM Tryz.prog (.binOp .eql 3 (.tmp 0) (.tmp 1) 3) 4 [v174_122, v175_123]) (fun v176_124 w =>
 gdM (gd v23_1 true) (oM Tryz.prog (.binOp .eql 4 (.tmp 0) (.tmp 1) 4) 4 [v173_121, v176_124]) (fun v177_125 w =>
 oM Tryz.prog (.pick (.tmp 0) (.tmp 1) (.tmp 2)) 4 [v23_1, v177_125, (.bool false)] (fun v178_126 w =>
 K v178_126 w) w) w) w) w) w) w) w) w) w) w)) w) w) w) w) w) w) w) w) w) w) w) w) w) w) w) w) w) w) w) w) w) w) w) w) w) w) w) w))))))))))))) w)))))))))))))))))) w) w) w) w) w) w)) w) w) w) w) w) w) w) w) w) w) w) w) w) w) w) w) w) w) w) w)) w) w) w) w) w)) w) w)) w0_l_20))) w) w) w) w) w) w) w) w) w) w) w) w) w) w) w) w) w
theorem sh_7_eq (a0 : Value) (a1 : Value) (a2 : Value) (a3 : Value) (a4 : Value) (a5 : Value) (K : Value → World → Prop) (w : World) : sh_7 a0 a1 a2 a3 a4 a5 K w = code Tryz.prog (fun i => bif Nat.beq i 18 then .free [0, 1, 2, 3, 4, 5, 6, 7, 8, 9, 10, 11] [] [12, 13] else bif Nat.beq i 19 then .free [0, 1, 2, 3, 4, 5, 6, 7] [] [8, 9] else 0) 179 (Tryz.f7.body.getD .skip) (slotsAt [a0, a1, a2, a3, a4, a5]) (retK Tryz.prog [.tmp 12] K) w := by kernel_rfl
theorem sh_7_ok {a0 a1 a2 a3 a4 a5 : Value} {K : Value → World → Prop} {w : World} (h : sh_7 a0 a1 a2 a3 a4 a5 K w) : callM Tryz.prog 7 #[a0, a1, a2, a3, a4, a5] K w :=
  calls_of_code (fun i => bif Nat.beq i 18 then .free [0, 1, 2, 3, 4, 5, 6, 7, 8, 9, 10, 11] [] [12, 13] else bif Nat.beq i 19 then .free [0, 1, 2, 3, 4, 5, 6, 7] [] [8, 9] else 0) (fn := Tryz.f7) (rs := [.tmp 12]) Tryz.func7 rfl rfl (by kernel_rfl) (Nat.le_of_ble_eq_true rfl) ((sh_7_eq a0 a1 a2 a3 a4 a5 K w).mp h)
end Go.Proofs
namespace Go.Proofs
open Go Go.Sh Go.RowKit FdSpec TkSpec CodeSpec
set_option linter.unusedSimpArgs false
set_option linter.unusedVariables false
set_option maxRecDepth 10000
section
variable {K : Value → World → Prop} {w w0 : World} {L : List (Addr × Value)}
def Stay {α : Type} (At : World → Nat → Nat → α → Prop) : Prop := ∀ (w w' : World) (b p : Nat) (x : α), At w b p x → b < w.heap.size → Below w.heap.size w w' → At w' b p x
theorem SRow.next {α : Type} {n : Nat} {At : World → Nat → Nat → α → Prop} {w w' : World} {v : Value} {l : List α} (h : SRow n At w v l) (hs : Stay At) (hb : Below w.heap.size w w') : SRow n At w' v l := by
  obtain ⟨⟨ad, c, rfl, h1⟩, h2⟩ := h
  refine ⟨⟨ad, c, rfl, h1.imp id ?_⟩, h2⟩
  rintro ⟨b, o, rfl, hlt, hc⟩
  exact ⟨b, o, rfl, Nat.lt_of_lt_of_le hlt hb.size, fun i hi => hs _ _ _ _ _ (hc i hi) hlt hb⟩
theorem stay_C : Stay CAt := by
  intro w w' b p x h hlt hb
  obtain ⟨mv, av, yv, h, hc⟩ := h
  have e : ∀ k, w'.cell? ⟨b, k, none⟩ = w.cell? ⟨b, k, none⟩ := fun k => by rw [hb.cell hlt]
  refine ⟨mv, av, yv, h.next hb, ?_⟩
  simp only [e]
  exact hc
theorem stay_S : Stay StrAt := by
  intro w w' b p x h hlt hb
  exact ⟨by rw [hb.cell hlt]; exact h.1, h.2⟩
theorem sz_string (w : World) : (sizeOf 9).run Tryz.prog w = .ok 1 w := by kernel_rfl
theorem ChS.row_set {w w2 : World} {B : Nat} {lv kv : Value} {ps : List (Lnk × Value)} {keys : List Int} (h : ChS w B lv kv ps keys) (hl : ps.length ≤ 10) {g cap m : Nat} (e : lv = .slice (some ⟨g, 0, none⟩) ps.length cap) (hm : m < ps.length) {words : List UInt8} (hw : words.length ≤ 300)
    (hq : w.grownBy w2 (some g)) (hne : ∀ j, j ≠ m * 9 + 8 → w2.cell? ⟨g, j, none⟩ = w.cell? ⟨g, j, none⟩) (heq : w2.cell? ⟨g, m * 9 + 8, none⟩ = some (.string ⟨words.toArray⟩)) : LnkRow w2 lv ((ps.map (·.1)).set m { ps[m].1 with terms := words }) := by
  obtain ⟨ad, c, e2, h0, h1⟩ := RowR.of_owns h.own
  rw [e] at e2
  cases e2
  subst e
  have hgl := (owns_own h.own rfl).1
  refine ⟨⟨_, _, by rw [List.length_set, List.length_map], ?_⟩, ?_, ?_, by rw [List.length_set, List.length_map]; omega⟩
  · rcases h1 with rfl | ⟨b, o, eb, hlt, hc⟩
    · simp at hm
    · cases eb
      refine .inr ⟨g, 0, rfl, Nat.lt_of_lt_of_le hgl hq.size, fun i hi => ?_⟩
      rw [List.length_set, List.length_map] at hi
      have hmi := h.spd _ (List.getElem_mem hi)
      have hai := h.ans _ (List.getElem_mem hi)
      have hsp : SpdR w2 ps[i].1.spend ps[i].2 := ⟨hmi.1.dare, ⟨hmi.1.answers.row.keep hq.size (fun j e hlt => hq.block j hlt (fun e2 => (hai j e).2.2 (by first | exact e2 | exact e2.symm))), hmi.1.answers.rng, hmi.1.answers.len⟩⟩
      have f := fun j (hj : j < 9) => flat_at pl_len ps i j (List.getElem?_eq_getElem hi) hj
      have c9 := fun j (hj : j < 9) => hc (i * 9 + j) _ ((f j hj).trans (List.getElem?_eq_getElem (show j < (lnkC ps[i].1 ps[i].2).length from hj)))
      by_cases him : i = m
      · subst him
        rw [List.getElem_set_self]
        have c9' := fun j (hj : j < 8) => (hne (i * 9 + j) (by omega)).trans ((by simpa using c9 j (by omega)) : w.cell? ⟨g, i * 9 + j, none⟩ = _)
        refine ⟨ps[i].2, hsp, ?_⟩
        unfold LnkAt
        simp only [Nat.zero_add]
        exact ⟨c9' 0 (by omega), c9' 1 (by omega), c9' 2 (by omega), c9' 3 (by omega), c9' 4 (by omega), c9' 5 (by omega), c9' 6 (by omega), c9' 7 (by omega), heq⟩
      · rw [List.getElem_set_ne (fun e => him e.symm), List.getElem_map]
        have c9' := fun j (hj : j < 9) => (hne (i * 9 + j) (by omega)).trans ((by simpa using c9 j hj) : w.cell? ⟨g, i * 9 + j, none⟩ = _)
        refine ⟨ps[i].2, hsp, ?_⟩
        unfold LnkAt
        simp only [Nat.zero_add]
        exact ⟨c9' 0 (by omega), c9' 1 (by omega), c9' 2 (by omega), c9' 3 (by omega), c9' 4 (by omega), c9' 5 (by omega), c9' 6 (by omega), c9' 7 (by omega), c9' 8 (by omega)⟩
  · intro x hx
    rcases List.mem_or_eq_of_mem_set hx with hx | rfl
    · obtain ⟨p, hp, rfl⟩ := List.mem_map.1 hx
      exact (h.spd p hp).2.1
    · exact (h.spd _ (List.getElem_mem hm)).2.1
  · intro x hx
    rcases List.mem_or_eq_of_mem_set hx with hx | rfl
    · obtain ⟨p, hp, rfl⟩ := List.mem_map.1 hx
      have := (h.spd p hp).2.2
      omega
    · show words.length ≤ _
      omega
def LdJ (w0 : World) (l : List Cas) (ts : List (List UInt8)) (vs : List Value) (w' : World) : Prop := Below w0.heap.size w0 w' ∧ ∃ (u : Value) (i : Nat), vs = [u, .int .i64 (i : Int)] ∧ i ≤ l.length ∧ ∀ (j : Nat) (h : j < ts.length), j < i → ts[j].length ≤ 300
theorem lends_law (l : List Cas) (ts : List (List UInt8)) (dare other which : Int) (words : List UInt8) {lv tv : Value} (hd : I64 dare) (ho : I64 other) (hwh : 0 ≤ which ∧ which < 256) (hwl : words.length ≤ 9223372036854775807) (hT : DbT w) (hL : Cd.Laid w) (hl : SRow 10 CAt w lv l) (ht : SRow 1 StrAt w tv ts)
    (k : ∀ w', Below w.heap.size w w' → K (.bool true) w') :
    callM Tryz.prog 7 #[lv, tv, .int .i64 dare, .int .i64 other, .int .u8 which, .string ⟨words.toArray⟩] K w := by
  apply sh_7_ok
  unfold sh_7
  have hl' := hl
  have ht' := ht
  have hll := hl.len
  have htl := ht.len
  obtain ⟨lad, lc, rfl⟩ := hl.isSlice
  obtain ⟨tad, tc, rfl⟩ := ht.isSlice
  refine sane_ok hT hL (fun w1 h1 => ?_)
  by_cases g1 : (l.length : Int) < 1
  · repeat (any_goals (first
    | (with_reducible first|((refine idGd ?_); refine zD ?_)|((refine idPick ?_); refine yB ?_)|((refine idCond ?_); refine yL ?_))
    | ((with_reducible refine idO ?_); (with_reducible refine oM_gen fun Kv hK=>?_); simp [go_sem, g1]; refine hK _ _ ?_; clear hK; clear Kv)))
    exact k _ h1
  by_cases g2 : (5 : Int) < l.length
  · repeat (any_goals (first
    | (with_reducible first|refine pureM_in ?_|((refine idGd ?_); first|refine zC ?_|refine zD ?_)|((refine idPick ?_); first|refine yB ?_|refine yC ?_)|((refine idCond ?_); refine yL ?_))
    | ((with_reducible refine idO ?_); (with_reducible refine oM_gen fun Kv hK=>?_); simp [go_sem, g1, g2]; refine hK _ _ ?_; clear hK; clear Kv)))
    exact k _ h1
  by_cases g3 : ts.length = l.length
  rotate_left
  · have g3' : ¬ (ts.length : Int) = l.length := by omega
    repeat (any_goals (first
    | (with_reducible first|refine pureM_in ?_|((refine idGd ?_); first|refine zC ?_|refine zD ?_)|((refine idPick ?_); first|refine yB ?_|refine yC ?_)|((refine idCond ?_); refine yL ?_))
    | ((with_reducible refine idO ?_); (with_reducible refine oM_gen fun Kv hK=>?_); simp [go_sem, g1, g2, g3']; refine hK _ _ ?_; clear hK; clear Kv)))
    exact k _ h1
  have g3' : (ts.length : Int) = l.length := by omega
  by_cases g4 : (300 : Int) < words.length
  · repeat (any_goals (first
    | (with_reducible first|refine pureM_in ?_|((refine idGd ?_); refine zC ?_)|((refine idPick ?_); refine yC ?_)|((refine idCond ?_); refine yL ?_))
    | ((with_reducible refine idO ?_); (with_reducible refine oM_gen fun Kv hK=>?_); simp [go_sem, g1, g2, g3', g4]; refine hK _ _ ?_; clear hK; clear Kv)))
    exact k _ h1
  repeat (any_goals (first
  | (with_reducible first|refine pureM_in ?_|((refine idGd ?_); refine zC ?_)|((refine idPick ?_); refine yC ?_)|((refine idCond ?_); refine yM ?_))
  | ((with_reducible refine idO ?_); (with_reducible refine oM_gen fun Kv hK=>?_); simp [go_sem, g1, g2, g3', g4]; refine hK _ _ ?_; clear hK; clear Kv)))
  refine ⟨LdJ w l ts, grMu l.length, ⟨h1, _, 0, rfl, by omega, fun j h hj => by omega⟩, ?_⟩
  clear h1
  rintro _ _ w2 ⟨hb, u, i, rfl, hi, hs3⟩
  by_cases hin : i = l.length
  rotate_left
  · have hil : (i : Int) < l.length := by omega
    obtain ⟨b8, o8, rfl, hb8, mv, av, yv, hc, cs⟩ := hl'.at (i := i) (by omega)
    obtain ⟨bt, ot, rfl, hbt, hst, _⟩ := ht'.at (i := i) (by omega)
    have e : ∀ k, w2.cell? ⟨b8, k, none⟩ = w.cell? ⟨b8, k, none⟩ := fun k => by rw [hb.cell hb8]
    simp only [← e] at cs
    rw [Nat.mul_one, ← hb.cell hbt] at hst
    have hs4 : ts[i].length ≤ 300 → ∀ (j : Nat) (h : j < ts.length), j < i + 1 → ts[j].length ≤ 300 := fun h0 j h hj => by
      by_cases e : j = i
      · subst e; exact h0
      · exact hs3 j h (by omega)
    generalize l[i] = c at *
    generalize ts[i] = t at *
    have hit : (i : Int) < ts.length := by omega
    repeat (any_goals (first
    | (with_reducible ((refine idCond ?_); refine yL ?_))
    | ((with_reducible refine idO ?_); (with_reducible refine oM_gen fun Kv hK=>?_); simp [go_sem, cs, hil]; refine hK _ _ ?_; clear hK; clear Kv)))
    refine small_ok c (hc.next hb) (fun w3 h3 => ?_)
    have hst : w3.cell? ⟨bt, ot + i, none⟩ = _ := (h3.cell (Nat.lt_of_lt_of_le hbt hb.size)).trans hst
    have hb := hb.on h3
    cases smallM c with
    | false =>
      repeat (any_goals (first
      | (with_reducible first|((refine idGd ?_); refine zD ?_)|((refine idPick ?_); refine yB ?_)|((refine idCond ?_); refine yL ?_))
      | ((with_reducible refine idO ?_); (with_reducible refine oM_gen fun Kv hK=>?_); simp [go_sem]; refine hK _ _ ?_; clear hK; clear Kv)))
      exact k _ hb
    | true =>
    by_cases h300 : (300 : Int) < t.length
    · repeat (any_goals (first
      | (with_reducible first|refine pureM_in ?_|((refine idGd ?_); refine zC ?_)|((refine idPick ?_); refine yC ?_)|((refine idCond ?_); refine yL ?_))
      | ((with_reducible refine idO ?_); (with_reducible refine oM_gen fun Kv hK=>?_); simp [go_sem, hst, hit, h300]; refine hK _ _ ?_; clear hK; clear Kv)))
      exact k _ hb
    · repeat (any_goals (first
      | (with_reducible first|refine pureM_in ?_|((refine idGd ?_); refine zC ?_)|((refine idPick ?_); refine yC ?_)|((refine idCond ?_); refine yM ?_))
      | ((with_reducible refine idO ?_); (with_reducible refine oM_gen fun Kv hK=>?_); simp [go_sem, hst, hit, h300]; (try simp (disch := omega) only [wrapI64, wrapU8, wrapU32, wrapU64]); refine hK _ _ ?_; clear hK; clear Kv)))
      refine ⟨⟨hb, _, i + 1, rfl, by omega, hs4 (by omega)⟩, ?_⟩
      rw [grMu_eq, grMu_eq]
      omega
  have h300 : ∀ t ∈ ts, t.length ≤ 300 := fun t ht => by
    obtain ⟨j, hj, rfl⟩ := List.getElem_of_mem ht
    exact hs3 j hj (by omega)
  clear hs3
  repeat (any_goals (first
  | (with_reducible ((refine idCond ?_); refine yM ?_))
  | ((with_reducible refine idO ?_); (with_reducible refine oM_gen fun Kv hK=>?_); simp [go_sem, hin]; refine hK _ _ ?_; clear hK; clear Kv)))
  obtain ⟨b8, o8, rfl, hb8, hC0⟩ := hl'.at (i := 0) (by omega)
  simp only [Nat.zero_mul, Nat.add_zero] at hC0
  have hc0 : l[0]? = some l[0] := List.getElem?_eq_getElem (by omega)
  generalize l[0] = c0 at *
  refine chain_ok l ts dare c0 hd (hT.next hb) (hL.below hb hL.size) (hl'.next stay_C hb) (ht'.next stay_S hb) hc0 (by omega) g3 h300 (fun w3 h3 => ?_) (fun w3 ov kv ps keys h3 hS hpl hkl hG hC hmd => ?_)
  · repeat (any_goals (first
    | (with_reducible ((refine idCond ?_); refine yL ?_))
    | ((with_reducible refine idO ?_); (with_reducible refine oM_gen fun Kv hK=>?_); simp [go_sem]; refine hK _ _ ?_; clear hK; clear Kv)))
    exact k _ (hb.on h3)
  have hb3 := hb.on h3
  obtain ⟨mv, av, yv, hc, cs⟩ := stay_C _ _ _ _ _ hC0 hb8 hb3
  have h1l : (0 : Int) < l.length := by omega
  repeat (any_goals (first
  | (with_reducible ((refine idCond ?_); refine yM ?_))
  | ((with_reducible refine idO ?_); (with_reducible refine oM_gen fun Kv hK=>?_); simp [go_sem, cs, h1l]; (first|refine hK _ _ ?_|refine And.intro (by omega) (hK _ _ ?_)); clear hK; clear Kv)))
  refine made_ok c0 (hT.next hb3) hc (fun w4 sv h4 hs hfs => ?_)
  have hb4 := hb3.on h4
  have hS3 := hS
  have hz4 := h4.size
  have hS := hS.next h4
  obtain ⟨sad, sc, rfl⟩ := hs.ints.isSlice
  obtain ⟨hmdd, hq⟩ := made_of hmd
  iterate 2 (any_goals ((with_reducible refine idO ?_); (with_reducible refine oM_gen fun Kv hK=>?_); simp [go_sem]; refine hK _ _ ?_; clear hK; clear Kv))
  refine local_stpK (L := []) _ _ _ _ (Kn.mk hb4 trivial) (fun g1 w5 hk h hg1 => ?_)
  have hs := hs.next h
  have hS := hS.next h
  clear h
  generalize (madeM c0).1 = s at *
  have hvs := hmdd.vs
  have hQ5 := (validS_Q hvs).1
  have hps : (ps.map (·.1)).length = ps.length := List.length_map _
  have hne : ps.map (·.1) ≠ [] := fun e => by rw [e] at hps; simp at hps; omega
  have hfl : ∀ e, followsM s keys (ps.map (·.1)) e = decide (dare = e) := fun e => by rw [TpA.follows_eq hvs (by omega) (by omega), TpA.chain_eq _ hne hG hC]
  repeat (any_goals ((with_reducible refine idO ?_); (with_reducible refine oM_gen fun Kv hK=>?_); simp [go_sem, hk.cells]; refine hK _ _ ?_; clear hK; clear Kv))
  refine Follows_ok s dare hs (hS.keys (by omega)) (hS.row (by omega)) (hL.below hk.below hL.size) (fun w6 h => ?_)
  have hk := hk.next h
  have hs := hs.next h
  have hS := hS.next h
  clear h
  rw [hfl, decide_eq_true rfl]
  repeat (any_goals (first
  | (with_reducible first|refine pureM_in ?_|((refine idGd ?_); refine zC ?_))
  | ((with_reducible refine idO ?_); (with_reducible refine oM_gen fun Kv hK=>?_); simp [go_sem, hk.cells]; refine hK _ _ ?_; clear hK; clear Kv)))
  refine Follows_ok s other hs (hS.keys (by omega)) (hS.row (by omega)) (hL.below hk.below hL.size) (fun w7 h => ?_)
  have hk := hk.next h
  have hs := hs.next h
  have hS := hS.next h
  clear h
  rw [hfl]
  have e3 : decide (dare = other) = decide (other = dare) := decide_eq_decide.mpr eq_comm
  rw [e3]
  clear e3
  obtain ⟨oad, oc, rfl⟩ := owns_len hS.own
  have hpn : ¬ ps = [] := fun e => by rw [e] at hpl; simp at hpl; omega
  obtain ⟨m, em, hm⟩ : ∃ m : Nat, which.tmod (ps.length : Int) = (m : Int) ∧ m < ps.length := by
    refine ⟨which.toNat % ps.length, ?_, Nat.mod_lt _ (by omega)⟩
    rw [Int.tmod_eq_emod_of_nonneg hwh.1, Int.natCast_emod, Int.toNat_of_nonneg hwh.1]
  have ew : IntKind.i64.wrap ((m : Int) + 1) = (m : Int) + 1 := wrapI64 _ (by omega) (by omega)
  by_cases hlast : (m : Int) + 1 = ps.length
  · repeat (any_goals (first
    | (with_reducible first|refine pureM_in ?_|((refine idGd ?_); refine zC ?_)|((refine idPick ?_); refine yC ?_)|((refine idCond ?_); first|refine yL ?_|refine yM ?_))
    | ((with_reducible refine idO ?_); (with_reducible refine oM_gen fun Kv hK=>?_); simp [go_sem, hpn, em, ew, hlast]; (try simp (disch := omega) only [wrapI64, wrapU8, wrapU32, wrapU64]); refine hK _ _ ?_; clear hK; clear Kv)))
    exact k _ hk.below
  repeat (any_goals (first
  | (with_reducible first|refine pureM_in ?_|((refine idGd ?_); refine zC ?_)|((refine idPick ?_); refine yC ?_)|((refine idCond ?_); refine yM ?_))
  | ((with_reducible refine idO ?_); (with_reducible refine oM_gen fun Kv hK=>?_); simp [go_sem, hpn, em, ew, hlast]; (try simp (disch := omega) only [wrapI64, wrapU8, wrapU32, wrapU64]); refine hK _ _ ?_; clear hK; clear Kv)))
  have hm1 : m + 1 < ps.length := by omega
  obtain ⟨g, cap, cur, eov, hgl, hBg, hheap, hcs, hcap, _⟩ := owns_cells hS.own (by omega)
  cases eov
  have hrow := hS.row (by omega)
  obtain ⟨_, _, av1, ea, c1, _, ht1, _⟩ := hrow.at (i := m + 1) (by rw [hps]; omega)
  cases ea
  obtain ⟨_, _, av0, ea, c0', _, _, htm0⟩ := hrow.at (i := m) (by rw [hps]; omega)
  cases ea
  simp only [Nat.zero_add, List.getElem_map] at c1 c0' ht1 htm0
  have c1 : ∀ w', Below w7.heap.size w7 w' → _ := fun w' h => by
    have := c1 w' h
    unfold LnkAt at this
    exact this
  have c0' : ∀ w', Below w7.heap.size w7 w' → _ := fun w' h => by
    have := c0' w' h
    unfold LnkAt at this
    exact this
  have hset := TpA.chain_set (s := s) (keys := keys) (dare := dare) (words := words) (by omega) (ps.map (·.1)) m ps[m].1 ps[m + 1].1 (by simp [List.getElem?_eq_getElem (show m < ps.length by omega)]) (by simp [List.getElem?_eq_getElem hm1]) hG hC
  have et : ((m : Int) + 1).toNat = m + 1 := by omega
  have hi1 : (m : Int) + 1 < ps.length := by omega
  have hi0 : (m : Int) < ps.length := by omega
  have hD : Below w7.heap.size w7 { w7 with drawn := w7.drawn + 1 } := .drawn
  have hk := hk.drew
  have hs : SetR { w7 with drawn := w7.drawn + 1 } _ _ := hs.next (Below.refl _ w7).drew
  refine ⟨Nx { w7 with drawn := w7.drawn + 1 }, Below.refl _ _, rfl, ?_⟩
  generalize ({ w7 with drawn := w7.drawn + 1 } : World) = W at hk hs hD ⊢
  repeat (any_goals (first
  | (with_reducible refine pureH_in ?_)
  | ((with_reducible refine idOH ?_); (with_reducible refine oH_of ⟨_, rfl⟩ (fun W0 hW0 => by (refine oM_gen (fun Kv hK => ?_)); simp [go_sem, (hk.next hW0).cells, c1 _ (hD.on hW0), c0' _ (hD.on hW0), et, ew, hi1, hi0]; (first | exact hK _ _ ⟨rfl, rfl⟩ | exact ⟨by omega, hK _ _ ⟨rfl, rfl⟩⟩)) ?_))))
  refine ⟨Nx, fun w8 h8 => ?_⟩
  refine LendDare_ok s ps[m + 1].1.ticket ps[m].1.terms (by have := (hS.spd _ (List.getElem_mem (show m < ps.length by omega))).2.2; omega) ht1 (hs.next h8) (hL.below (hk.next h8).below hL.size) (fun w9 h9 => ?_)
  have hk := ((hk.next h8).next h9).drew
  have hs : SetR { w9 with drawn := w9.drawn + 1 } _ _ := ((hs.next h8).next h9).next (Below.refl _ w9).drew
  have hD := ((hD.on h8).on h9).on (.drawn (B := w9.heap.size))
  clear h8 h9
  refine ⟨Nx { w9 with drawn := w9.drawn + 1 }, Below.refl _ _, rfl, ?_⟩
  generalize ({ w9 with drawn := w9.drawn + 1 } : World) = W at hk hs hD ⊢
  repeat (any_goals (first
  | (with_reducible refine pureH_in ?_)
  | ((with_reducible refine idOH ?_); (with_reducible refine oH_of ⟨_, rfl⟩ (fun W0 hW0 => by (refine oM_gen (fun Kv hK => ?_)); simp [go_sem, (hk.next hW0).cells, c1 _ (hD.on hW0), et, ew, hi1]; (first | exact hK _ _ ⟨rfl, rfl⟩ | exact ⟨by omega, hK _ _ ⟨rfl, rfl⟩⟩)) ?_))))
  refine ⟨Nx, fun w8 h8 => ?_⟩
  refine LendDare_ok s ps[m + 1].1.ticket words (by omega) ht1 (hs.next h8) (hL.below (hk.next h8).below hL.size) (fun w9 h9 => ?_)
  have hk := (hk.next h8).next h9
  have hs := (hs.next h8).next h9
  have hD := (hD.on h8).on h9
  clear h8 h9 c1 c0'
  have hS := hS.next hD
  have hheap : Holds w9 g 91 cur.toList := by
    show w9.heap[g]? = some (.cells cur.toList.toArray 91 (0, 0))
    rw [hD.block g hgl, hheap]
  iterate 2 (any_goals ((with_reducible refine idO ?_); (with_reducible refine oM_gen fun Kv hK=>?_); simp [go_sem, hi0]; refine hK _ _ ?_; clear hK; clear Kv))
  have hg3 : g < w3.heap.size := (owns_own hS3.own rfl).1
  refine arr_set (i := m * 9 + 8) (T0 := 91) sz_string rfl rfl hheap (by rw [Array.length_toList, hcs]; omega) (fun w10 hq hh => ?_)
  have hx : ∀ j, w10.cell? ⟨g, j, none⟩ = _ := fun j => cell_of_block hh j
  have hy : ∀ j, w9.cell? ⟨g, j, none⟩ = _ := fun j => cell_of_block hheap j
  have hne2 : ∀ j, j ≠ m * 9 + 8 → w10.cell? ⟨g, j, none⟩ = w9.cell? ⟨g, j, none⟩ := fun j hj => by
    rw [hx, hy]
    simp [List.getElem?_set_ne (fun e => hj e.symm)]
  have heq : w10.cell? ⟨g, m * 9 + 8, none⟩ = some (.string ⟨words.toArray⟩) := by
    rw [hx]
    have : m * 9 + 8 < cur.toList.length := by rw [Array.length_toList, hcs]; omega
    simp [List.getElem?_set_self this]
  have hrow2 := hS.row_set (by omega) rfl (by omega) (by omega) hq hne2 heq
  have hko2 : OwnI w10 w2.heap.size kv keys := owns_keep hS.ko (fun i hi => hq.block i (owns_own hS.ko hi).1 (fun e => hS.ne g rfl (by
    have e3 : g = i := by first | exact Option.some.inj e | exact (Option.some.inj e).symm
    rw [e3]; exact hi)))
  have hkeys2 : Ints w10 kv keys := hko2.ints hS.kr (by omega)
  have hb10 : Below w.heap.size w w10 := hk.below.grown hq hk.below.size (fun i hi => by cases hi; have := hb.size; omega)
  have hs10 : SetR w10 s (.slice sad s.bases.length sc) := ⟨hs.grp, ⟨hs.ints.row.keep hq.size (fun i e hlt => hq.block i hlt (fun e2 => by have := hfs i e; have := Option.some.inj e2; omega)), hs.ints.rng, hs.ints.len⟩, hs.blind, hT.next hb10⟩
  have hc10 := cellsAre_keepBut (g := g) hk.cells (fun p hp => by
    rcases cellsOf_mem _ _ _ hp with h | h
    · omega
    · cases h) (fun a ha hn => World.cell?_of_block (hq.block _ ha (fun e => hn (by have := Option.some.inj e; omega))))
  have e2 : IntKind.i64.wrap (s.g.Q.tdiv 2) = s.g.Q / 2 := by
    rw [Int.tdiv_eq_ediv_of_nonneg (by omega)]
    exact wrapI64 _ (by omega) (by have := hs.grp.2.1; unfold I64 at this; omega)
  have r1 := TpA.lend_range hvs hQ5 ps[m + 1].1.ticket ps[m].1.terms
  have r2 := TpA.lend_range hvs hQ5 ps[m + 1].1.ticket words
  generalize lendM s ps[m + 1].1.ticket ps[m].1.terms = bf at *
  generalize lendM s ps[m + 1].1.ticket words = af at *
  repeat (any_goals (first
  | (with_reducible first|refine pureM_in ?_|((refine idGd ?_); first|refine zA ?_|refine zC ?_)|((refine idPick ?_); refine yC ?_)|((refine idCond ?_); refine yM ?_))
  | ((with_reducible refine idO ?_); (with_reducible refine oM_gen fun Kv hK=>?_); simp [go_sem, hc10, e2, Int.not_le.mpr r1.1, Int.not_le.mpr r1.2, Int.not_le.mpr r2.1, Int.not_le.mpr r2.2]; refine hK _ _ ?_; clear hK; clear Kv)))
  refine Follows_ok s dare hs10 hkeys2 (by have := hrow2.isSlice; exact hrow2) (hL.below hb10 hL.size) (fun w11 h => ?_)
  rw [TpA.follows_eq hvs (by rw [List.length_set]; omega) (by rw [List.length_set]; omega), hset]
  repeat (any_goals (first
  | (with_reducible first|refine pureM_in ?_|((refine idGd ?_); refine zA ?_)|((refine idPick ?_); refine yB ?_))
  | ((with_reducible refine idO ?_); (with_reducible refine oM_gen fun Kv hK=>?_); simp [go_sem]; refine hK _ _ ?_; clear hK; clear Kv)))
  exact k _ (hb10.on h)
end
end Go.Proofs
namespace Go.Proofs
open Go Go.Sh Go.RowKit Go.Lib CodeSpec TkSpec FdSpec Go.ChangeShapes Go.WideShapes Go.ChangeAt Go.Deep
set_option linter.unusedSimpArgs false
set_option maxRecDepth 100000
section
variable {H : Type} {enc : TypeId × Value → H} {w : World} {sp : Nat → Bool} {hd : Bool}
theorem rowsOpen {P : Program} {α : Type} {n : Nat} {At : World → Nat → Nat → α → Prop} {t e : TypeId} {v : Value} {m0 : Nat} {D : DataW H × List MemPlace} (ht : P.underlying t = some (.slice e)) (hC : P.cellsOf e = n) (hn : 0 < n)
    (hrd : ∀ (cs : List Value) (b p m : Nat) (D : DataW H × List MemPlace), cs.length = n → (∀ (j : Nat) (u : Value), cs[j]? = some u → w.cell? ⟨b, p + j, none⟩ = some u) → DataW.trod enc P w 0 sp hd m e cs = some D → ∃ x, At w b p x)
    (h : DataW.trod enc P w 0 sp hd m0 t [v] = some D) : ∃ l : List α, SRow n At w v l := by
  rcases open_slice ht h with ⟨hcs, _⟩ | ⟨a', len, cap, m, n', D', Pl, hcs, _, hl, hm, hmm, _, hi⟩
  · simp only [List.cons.injEq, and_true] at hcs
    subst hcs
    exact ⟨[], ⟨none, 0, rfl, .inl rfl⟩, by simp⟩
  · simp only [List.cons.injEq, and_true] at hcs
    subst hcs
    subst hC
    have hml : len ≤ m := by rw [hmm]; split <;> omega
    by_cases h0 : len = 0
    · subst h0
      exact ⟨[], ⟨some a', cap, rfl, .inl rfl⟩, by simp⟩
    obtain ⟨cs0, hc0, _⟩ := hi 0 (by omega)
    obtain ⟨_, hl0, h00⟩ := World.cells?_some hc0
    have h00 := h00 0 hn
    rw [Nat.zero_mul] at h00
    have e0 : (a'.add 0).add 0 = a' := by simp [Addr.add]
    rw [e0, List.getElem?_eq_getElem (by omega)] at h00
    obtain ⟨hb, hs⟩ := cell_lt h00
    obtain ⟨b, o, s⟩ := a'
    simp only at hs hb
    subst hs
    have key : ∀ i : Fin len, ∃ x, At w b (o + i * P.cellsOf e) x := fun i => by
      obtain ⟨cs, hc, ht2⟩ := hi i (by have := i.2; omega)
      obtain ⟨_, hcl, hat⟩ := World.cells?_some hc
      refine hrd cs b (o + i * P.cellsOf e) _ _ hcl (fun j u hj => ?_) ht2
      have hjl := (List.getElem?_eq_some_iff.1 hj).1
      have := hat j (by omega)
      rw [addr_add', addr_add'] at this
      rw [this, hj]
    refine ⟨List.ofFn (fun i => (key i).choose), ⟨some ⟨b, o, none⟩, cap, by rw [List.length_ofFn], .inr ⟨b, o, rfl, hb, fun i hil => ?_⟩⟩, by rw [List.length_ofFn]; simp only [maxLen] at hm; omega⟩
    rw [List.length_ofFn] at hil
    rw [List.getElem_ofFn]
    exact (key ⟨i, hil⟩).choose_spec
theorem u8R {n : Int} (h : (Lit.int .u8 n).wf = true) : 0 ≤ n ∧ n < 256 := by
  simp only [Lit.wf, Bool.and_eq_true, decide_eq_true_eq] at h
  have h1 : IntKind.u8.min = 0 := by decide
  have h2 : IntKind.u8.max = 255 := by decide
  omega
theorem cells_str : Tryz.prog.cellsOf 9 = 1 := by kernel_rfl
theorem open_cass {b0 : Nat} {v : Value} {d : DataW H} {ps : List MemPlace} (hval : Value.okWide Tryz.prog w .any b0 83 v) (h : DataW.Trod enc Tryz.prog w 0 sp hd 83 v d ps) : ∃ l, SRow 10 CAt w v l := by
  obtain ⟨a, n, c, rfl⟩ := okWide_slice Tryz.underlying83 hval
  obtain ⟨fuel, hf⟩ := h
  have hf : DataW.trod enc Tryz.prog w 0 sp hd fuel 83 [.slice a n c] = some (d, ps) := hf
  exact rowsOpen (At := CAt) Tryz.underlying83 cells_cas (by decide) (fun cs b p m0 D hl hc ht => by
    obtain ⟨xs, m, _, _, hcl, hxl, hf⟩ := DataW.trod_struct Tryz.underlying63 ht
    have hxl : xs.length = 6 := hxl
    match cs, hl, xs, hxl with
    | [x0, x1, x2, x3, x4, x5, x6, x7, x8, x9], _, [y0, y1, y2, y3, y4, y5], _ =>
      have f0 : DataW.trod enc Tryz.prog w 0 sp hd m 3 (([x0, x1, x2, x3, x4, x5, x6, x7, x8, x9].drop 0).take (Tryz.prog.cellsOf 3)) = some y0 := hf 0 _ rfl
      have f1 : DataW.trod enc Tryz.prog w 0 sp hd m 24 (([x0, x1, x2, x3, x4, x5, x6, x7, x8, x9].drop 1).take (Tryz.prog.cellsOf 24)) = some y1 := hf 1 _ rfl
      have f2 : DataW.trod enc Tryz.prog w 0 sp hd m 3 (([x0, x1, x2, x3, x4, x5, x6, x7, x8, x9].drop 3).take (Tryz.prog.cellsOf 3)) = some y2 := hf 2 _ rfl
      have f3 : DataW.trod enc Tryz.prog w 0 sp hd m 3 (([x0, x1, x2, x3, x4, x5, x6, x7, x8, x9].drop 4).take (Tryz.prog.cellsOf 3)) = some y3 := hf 3 _ rfl
      have f4 : DataW.trod enc Tryz.prog w 0 sp hd m 22 (([x0, x1, x2, x3, x4, x5, x6, x7, x8, x9].drop 5).take (Tryz.prog.cellsOf 22)) = some y4 := hf 4 _ rfl
      have f5 : DataW.trod enc Tryz.prog w 0 sp hd m 45 (([x0, x1, x2, x3, x4, x5, x6, x7, x8, x9].drop 6).take (Tryz.prog.cellsOf 45)) = some y5 := hf 5 _ rfl
      rw [cells_int] at f0 f2 f3
      rw [cells_mir] at f1
      rw [cells_ints] at f4
      rw [cells_bld] at f5
      obtain ⟨k0, e0, _, w0⟩ := DataW.trod_int Tryz.underlying3 f0
      obtain ⟨mi, mv, em, hm⟩ := open_mir f1
      obtain ⟨k2, e2, _, w2⟩ := DataW.trod_int Tryz.underlying3 f2
      obtain ⟨k3, e3, _, w3⟩ := DataW.trod_int Tryz.underlying3 f3
      obtain ⟨l4, h4⟩ := open_ints f4
      obtain ⟨bl, bv, eb, hb⟩ := open_bldC f5
      simp only [List.drop_zero, List.take_succ_cons, List.take_zero, List.drop_succ_cons, List.cons.injEq, and_true] at e0 em e2 e3 eb h4
      obtain ⟨em0, em1⟩ := em
      obtain ⟨eb0, eb1, eb2, eb3⟩ := eb
      subst em0
      subst eb3
      refine ⟨⟨k0, mi, k2, k3, l4, bl⟩, x1, x5, x9, ⟨intR w0, hm, intR w2, intR w3, h4, hb⟩, ?_, ?_, ?_, ?_, ?_, ?_, ?_, ?_, ?_, ?_⟩
      · rw [← e0]; exact hc 0 _ rfl
      · exact hc 1 _ rfl
      · rw [← em1]; exact hc 2 _ rfl
      · rw [← e2]; exact hc 3 _ rfl
      · rw [← e3]; exact hc 4 _ rfl
      · exact hc 5 _ rfl
      · rw [← eb0]; exact hc 6 _ rfl
      · rw [← eb1]; exact hc 7 _ rfl
      · rw [← eb2]; exact hc 8 _ rfl
      · exact hc 9 _ rfl) hf
theorem open_strs {b0 : Nat} {v : Value} {d : DataW H} {ps : List MemPlace} (hval : Value.okWide Tryz.prog w .any b0 84 v) (h : DataW.Trod enc Tryz.prog w 0 sp hd 84 v d ps) : ∃ l, SRow 1 StrAt w v l := by
  obtain ⟨a, n, c, rfl⟩ := okWide_slice Tryz.underlying84 hval
  obtain ⟨fuel, hf⟩ := h
  have hf : DataW.trod enc Tryz.prog w 0 sp hd fuel 84 [.slice a n c] = some (d, ps) := hf
  exact rowsOpen (At := StrAt) Tryz.underlying84 cells_str (by decide) (fun cs b p m0 D hl hc ht => by
    match cs, hl with
    | [x0], _ =>
      obtain ⟨s, es, _, hs⟩ := DataW.trod_string Tryz.underlying9 ht
      simp only [List.cons.injEq, and_true] at es
      refine ⟨s.data.toList, ?_, ?_⟩
      · rw [← ba_of1, ← es]; exact hc 0 _ rfl
      · rw [ba_len]
        simp only [maxLen] at hs
        omega) hf
end
end Go.Proofs
