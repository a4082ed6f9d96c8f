/- Parts of the proof of the seat's statements (LawKit, OpenKit, OpenKit2, LZ, HLTicketHonest, TzH, HLTicketExposes, TzE, HLTicketSound, TzS): lemmas about the given translation and plain laws. No condition of their own. -/
import Derived.Test.YtpfjmfgnlpnflaaGreatDoorZhf
import Derived.ProofKit
import Derived.LaidMore
import Derived.OpenShut
import Derived.Carry
import Derived.SizedLaws
import Derived.Stop.Joined
import Derived.Deep.Slices
import Derived.Deep.Fields
import Derived.LaidSub
import Derived.Test.YtpfjmfgnlpnflaaGreatDoorRows
import Derived.Test.YtpfjmfgnlpnflaaGreatDoorCards
import Derived.Test.YtpfjmfgnlpnflaaGreatDoorTie
import Derived.SevenTiedAt
import Derived.Test.YtpfjmfgnlpnflaaGreatDoorProg
set_option linter.all false
set_option maxRecDepth 100000
namespace Go.Sh
open Go Go.ChangeShapes Go.WideShapes Go.ChangeAt Go.RowKit
section
variable {H : Type} {enc : TypeId × Value → H} {P : Program}
theorem trodAll_below (hl : laidOutB P = true) {W W' : World} (hb : Below W.heap.size W W') :
    ∀ (ts : List TypeId) (vs : List Value) (ds : List (DataW H)) (ps : List MemPlace), (ts.all fun t => P.readableRec t && decide (t < P.types.size)) = true →
    DataW.TrodAll enc P W 0 (fun _ => true) true ts vs ds ps → (∀ x ∈ ps, x.block < W.heap.size) → DataW.TrodAll enc P W' 0 (fun b => decide (b < W.heap.size)) true ts vs ds ps
  | [], [], [], _, _, h, _ => h
  | t :: ts, v :: vs, d :: ds, ps, ht, h, hlt => by
    obtain ⟨p, q, h1, h2, rfl⟩ := h
    simp only [List.all_cons, Bool.and_eq_true, decide_eq_true_eq] at ht
    exact ⟨p, q, Below.trod hl ht.1.1 ht.1.2 h1 hb (fun x hx => hlt x (by simp [hx])), trodAll_below hl hb ts vs ds q ht.2 h2 (fun x hx => hlt x (by simp [hx])), rfl⟩
  | [], _ :: _, _, _, _, h, _ => h.elim
  | [], [], _ :: _, _, _, h, _ => h.elim
  | _ :: _, [], _, _, _, h, _ => h.elim
  | _ :: _, _ :: _, [], _, _, h, _ => h.elim
theorem trodAll_length {W : World} {b : Nat} {sp : Nat → Bool} {hd : Bool} : ∀ (ts : List TypeId) (vs : List Value) (ds : List (DataW H)) (ps : List MemPlace), DataW.TrodAll enc P W b sp hd ts vs ds ps → ds.length = ts.length ∧ vs.length = ts.length
  | [], [], [], _, _ => ⟨rfl, rfl⟩
  | t :: ts, v :: vs, d :: ds, ps, h => by
    obtain ⟨p, q, h1, h2, rfl⟩ := h
    have := trodAll_length ts vs ds q h2
    simp [this]
  | [], _ :: _, _, _, h => h.elim
  | [], [], _ :: _, _, h => h.elim
  | _ :: _, [], _, _, h => h.elim
  | _ :: _, _ :: _, [], _, h => h.elim
theorem trodL_cons {W : World} {b : Nat} {sp : Nat → Bool} {hd : Bool} {t : TypeId} {ts : List TypeId} {vs : List Value} {ds : List (DataW H)} {ps : List MemPlace} (h : DataW.TrodAll enc P W b sp hd (t :: ts) vs ds ps) :
    ∃ v d vs' ds' p q, vs = v :: vs' ∧ ds = d :: ds' ∧ DataW.Trod enc P W b sp hd t v d p ∧ DataW.TrodAll enc P W b sp hd ts vs' ds' q ∧ ps = p ++ q := by
  match vs, ds, h with
  | v :: vs, d :: ds, h =>
    obtain ⟨p, q, h1, h2, rfl⟩ := h
    exact ⟨v, d, vs, ds, p, q, rfl, rfl, h1, h2, rfl⟩
  | [], _, h => exact h.elim
  | _ :: _, [], h => exact h.elim
theorem trodL0 {W : World} {b : Nat} {sp : Nat → Bool} {hd : Bool} {vs : List Value} {ds : List (DataW H)} {ps : List MemPlace} (h : DataW.TrodAll enc P W b sp hd [] vs ds ps) : vs = [] ∧ ds = [] ∧ ps = [] := by
  match vs, ds, h with
  | [], [], h => exact ⟨rfl, rfl, h⟩
theorem law_post {fn : Func} {s : ChangeSpec} {tb : TypeId} {apart : Bool} {W W' : World} {args : Array Value} {ds gs : List (DataW H)} {before : List MemPlace} (hl : laidOutB P = true)
    (hrt : fn.resultTypes = #[tb]) (hub : P.underlying tb = some .bool) (hpar : (fn.params.toList.all fun t => P.readableRec t && decide (t < P.types.size)) = true) (hvars : s.vars = [])
    (hspec : ∀ ds : List (DataW H), ds.length = fn.params.toList.length → s.fn H ds = { results := [.lit (.bool true)], args := ds })
    (hW : DataW.Whole enc P fn.params.toList s.vars apart W args.toList ds gs before) (hb : Below W.heap.size W W') : s.post enc P fn apart true false false W args (.bool true) W' := by
  have hW0 := hW
  have hlt := hW.lt
  obtain ⟨p, q, hA, hV, rfl, _, _⟩ := hW
  rw [hvars] at hV
  obtain ⟨rfl, rfl⟩ := trodVars_none hV
  have hlen := (trodAll_length _ _ _ _ hA).1
  have hs := hspec ds hlen
  rw [List.append_nil] at hlt hW0
  refine ⟨ds, [], p, [], p, [], hW0, ?_, ?_, ?_, hb.frame _, fun h => by cases h⟩
  · rw [List.append_nil, hs, hrt]
    exact trodAll_mk1 (shut_bool hub true)
  · rw [List.append_nil, hs]
    exact trodAll_below hl hb _ _ _ _ hpar hA hlt
  · rw [hvars, List.append_nil, hs]
    rfl
theorem law_lifted_laid {C : Checked} {os : Os} {f : FuncId} {fn : Func} {s : ChangeSpec} {tb : TypeId} {L : List (String × DataW Unit)} (own : ownKnob C.prog.godebug = none) (started : os.Started) (noInit : C.prog.inits.idxOf? f = none) (hfn : C.prog.funcs[f]? = some fn)
    (hl : laidOutB C.prog = true) (hrt : fn.resultTypes = #[tb]) (hub : C.prog.underlying tb = some .bool) (hpar : (fn.params.toList.all fun t => C.prog.readableRec t && decide (t < C.prog.types.size)) = true) (hvars : s.vars = [])
    (hspec : ∀ ds : List (DataW H), ds.length = fn.params.toList.length → s.fn H ds = { results := [.lit (.bool true)], args := ds })
    (witness : ∃ (w : World) (tape : Tape) (i : Input), w.os = os ∧ (w.forCall tape i).Shaped C.prog ∧ i.vars = [] ∧ Input.okWide C.prog (w.forCall tape i) .any w.heap.size f i ∧
      ((s.pre enc C.prog fn [] false (w.forCall tape i).memory i.args ∧ laidMetH C.prog L (w.forCall tape i).memory) ∧ sizedMet enc C.prog fn (OpenSpec.ofChange s) false (w.forCall tape i).memory i.args) ∧ ({} : Assume).holds C.prog (lone (Frame.enter C.prog f i.args .normal) [] (w.forCall tape i)))
    (contract : ∀ (W : World) (base : Nat) (args : List Value) (ds : List (DataW H)) (p : List MemPlace), (∀ (j : Nat) t v, fn.params.toList[j]? = some t → args[j]? = some v → Value.okWide C.prog W .any base t v) →
      DataW.TrodAll enc C.prog W 0 (fun _ => true) true fn.params.toList args ds p → (DataW.weightsEach C.prog fn.params.toList ds).all (· ≤ reachBytes) = true → (∀ x ∈ p, x.block < W.heap.size) →
      laidMetH C.prog L W →
      callM C.prog f args.toArray (fun v W' => v = .bool true ∧ Below W.heap.size W W') W) :
    ReturnsInHanded {} C os f .any (fun w args => (s.pre enc C.prog fn [] false w args ∧ laidMetH C.prog L w) ∧ sizedMet enc C.prog fn (OpenSpec.ofChange s) false w args)
      (s.post enc C.prog fn false true false false) := by
  refine returnsInHanded_of_change_and (X := fun w _ => laidMetH C.prog L w) (fun _ _ _ hh h => h.of_heap hh) own started noInit hfn witness ?_
  intro W base args ds gs before hval hW _ hsz hX _
  have hW0 := hW
  have hlt := hW.lt
  obtain ⟨p, q, hA, hV, rfl, _, _⟩ := hW
  rw [hvars] at hV
  obtain ⟨rfl, rfl⟩ := trodVars_none hV
  have hsz' : (DataW.weightsEach C.prog fn.params.toList ds).all (· ≤ reachBytes) = true := by
    simpa [hvars, ChangeSpec.plain, DataSpec.varTypes] using hsz
  have hc := contract W base args.toList ds p (fun j t v h1 h2 => hval j t v (by simpa using h1) (by simpa using h2)) hA hsz' (fun x hx => hlt x (by simp [hx])) hX
  refine hc.mono fun e W' h => ?_
  obtain ⟨v, rfl, rfl, hb⟩ := h
  exact ⟨_, rfl, law_post hl hrt hub hpar hvars hspec hW0 hb⟩
end
end Go.Sh
namespace Go.Sh
open Go Go.ChangeShapes Go.WideShapes Go.ChangeAt Go.RowKit Go.Deep
section
variable {H : Type} {enc : TypeId × Value → H} {P : Program} {w : World} {sp : Nat → Bool} {hd : Bool}
theorem addr_add' (b o k : Nat) : (⟨b, o, none⟩ : Addr).add k = ⟨b, o + k, none⟩ := by
  unfold Addr.add
  split
  · rename_i h; rw [h]; rfl
  · rfl
theorem cell_lt {a : Addr} {v : Value} (h : w.cell? a = some v) : a.block < w.heap.size ∧ a.spot = none := by
  unfold World.cell? at h
  split at h
  · rename_i c t f hh
    refine ⟨(Array.getElem?_eq_some_iff.1 hh).1, ?_⟩
    split at h
    · cases h
    · rename_i hs
      cases hsp : a.spot with
      | none => rfl
      | some x => rw [hsp] at hs; exact absurd rfl hs
  · cases h
theorem open_fields {e : TypeId} {fs : Array Field} {n : Nat} {cs : List Value} {D : DataW H × List MemPlace} (he : P.underlying e = some (.struct fs)) (hone : oneCellFields P fs = true) (hC : P.cellsOf e = fs.size)
    (h : DataW.trod enc P w 0 sp hd n e cs = some D) :
    cs.length = fs.size ∧ ∀ (j : Nat) (f : Field), fs[j]? = some f → ∃ (v : Value) (y : DataW H × List MemPlace) (m : Nat), cs[j]? = some v ∧ DataW.trod enc P w 0 sp hd m f.type [v] = some y := by
  obtain ⟨xs, m, _, _, hcl, hxl, hf⟩ := DataW.trod_struct he h
  rw [hC] at hcl
  refine ⟨hcl, fun j f hj => ?_⟩
  obtain ⟨ho, hk⟩ := hone_of hone j f hj
  have hjl : j < fs.size := (Array.getElem?_eq_some_iff.1 hj).1
  have h1 := hf j f hj
  rw [ho, hk, List.drop_eq_getElem_cons (by omega), List.getElem?_eq_getElem (by omega : j < xs.length)] at h1
  exact ⟨_, _, m, List.getElem?_eq_getElem (by omega), h1⟩
end
end Go.Sh
namespace Go.Sh
open Go Go.ChangeShapes Go.WideShapes Go.ChangeAt Go.RowKit Go.Deep
section
variable {H : Type} {enc : TypeId × Value → H} {P : Program} {w : World} {sp : Nat → Bool} {hd : Bool}
theorem rowOpen {α : Type} (mk : α → Value) (Q : α → Prop) {t e : TypeId} {v : Value} {n : Nat} {D : DataW H × List MemPlace} (ht : P.underlying t = some (.slice e)) (hC : P.cellsOf e = 1)
    (hrd : ∀ (V : Value) (n : Nat) (D : DataW H × List MemPlace), DataW.trod enc P w 0 sp hd n e [V] = some D → ∃ x, V = mk x ∧ Q x) (h : DataW.trod enc P w 0 sp hd n t [v] = some D) :
    ∃ l : List α, (∃ ad c, v = .slice ad l.length c ∧ (l = [] ∨ ∃ b o, ad = some ⟨b, o, none⟩ ∧ b < w.heap.size ∧ ∀ (i : Nat) (h : i < l.length), w.cell? ⟨b, o + i, none⟩ = some (mk l[i]))) ∧ l.length ≤ maxLen ∧ ∀ x ∈ l, Q x := by
  rcases open_slice1 ht hC h with ⟨hcs, _⟩ | ⟨a', len, cap, m, n', V, D', Pl, hcs, _, hl, hm, hmm, _, hi⟩
  · simp only [List.cons.injEq, and_true] at hcs
    subst hcs
    exact ⟨[], ⟨none, 0, rfl, .inl rfl⟩, by simp, by simp⟩
  · simp only [List.cons.injEq, and_true] at hcs
    subst hcs
    have hml : len ≤ m := by rw [hmm]; split <;> omega
    have key : ∀ i : Fin len, ∃ x, V i = mk x ∧ Q x := fun i => hrd _ _ _ (hi i (by have := i.2; omega)).2
    refine ⟨List.ofFn (fun i => (key i).choose), ⟨some a', cap, by rw [List.length_ofFn], ?_⟩, by rw [List.length_ofFn]; omega, ?_⟩
    · by_cases h0 : len = 0
      · left; subst h0; rfl
      · right
        have h00 := (hi 0 (by omega)).1
        have e0 : a'.add 0 = a' := by simp [Addr.add]
        rw [e0] at h00
        obtain ⟨hb, hs⟩ := cell_lt h00
        obtain ⟨b, o, s⟩ := a'
        simp only at hs hb
        subst hs
        refine ⟨b, o, rfl, hb, fun i hil => ?_⟩
        rw [List.length_ofFn] at hil
        have h1 := (hi i (by omega)).1
        rw [addr_add'] at h1
        rw [h1, List.getElem_ofFn]
        have := (key ⟨i, hil⟩).choose_spec.1
        exact congrArg some this
    · intro x hx
      rw [List.mem_ofFn] at hx
      obtain ⟨i, rfl⟩ := hx
      exact (key i).choose_spec.2
end
end Go.Sh
namespace Go.Proofs
open Go Go.Sh Go.RowKit Go.Lib CodeSpec TkSpec FdSpec Go.ChangeShapes Go.WideShapes Go.ChangeAt Go.Deep
set_option linter.unusedSimpArgs false
set_option maxRecDepth 100000
abbrev laidList : List (String × DataW Unit) := YtpfjmfgnlpnflaaGreatDoor.Rows.ticketHonestRow.laid
abbrev lname (i : Nat) : String := (laidList.map (·.1)).getD i default
theorem var_of_laid {W : World} {nm : String} {d : DataW Unit} (hf : (laidList.filter fun x => x.1 == nm) = [(nm, d)]) (h : laidMetH Tryz.prog laidList W) : laidMet Tryz.prog [(nm, d)] W := by
  rw [MakeChecks.laidMetH_plain _ _ _ (by kernel_rfl)] at h
  have := h.filter (fun x => x.1 == nm)
  rwa [hf] at this
theorem tab_laid {W : World} (h : laidMetH Tryz.prog laidList W) : TabIs Tryz.prog W tabName .u64 pow10Tab :=
  tabIs_of_head (rest := []) (t := 245) (e := 139) (n := 20) Cd.gTab (by kernel_rfl) Tryz.underlying245 Tryz.underlying139 (by kernel_rfl) (by kernel_rfl)
    (var_of_laid (d := tabData .u64 pow10Tab) (by kernel_rfl) h)
theorem gDb : Tryz.prog.globalNamed (lname 1) = some 2 := by kernel_rfl
theorem db_laid {W : World} (h : laidMetH Tryz.prog laidList W) : TabIs Tryz.prog W (lname 1) .u8 (Lib.deBruijn64tab.map (fun n : Nat => (n : Int))) :=
  tabIs_of_head (rest := []) (t := 243) (e := 5) (n := 64) gDb (by kernel_rfl) Tryz.underlying243 Tryz.underlying5 (by kernel_rfl) (by kernel_rfl)
    (var_of_laid (d := tabData .u8 (Lib.deBruijn64tab.map (fun n : Nat => (n : Int)))) (by kernel_rfl) h)
theorem db_of {W : World} (h : laidMetH Tryz.prog laidList W) : DbT W := by
  have ht := db_laid h
  have hl : (Lib.deBruijn64tab.map (fun n : Nat => (n : Int))).length = 64 := by decide +kernel
  have hc : ∀ j, j < 64 → W.cell? ⟨2, j, none⟩ = some (.int .u8 (Lib.deBruijn64tab.getD j 0 : Nat)) := fun j hj => by
    rw [ht.cell gDb j (by omega)]
    have : (Lib.deBruijn64tab.map (fun n : Nat => (n : Int))).getD j 0 = ((Lib.deBruijn64tab.getD j 0 : Nat) : Int) := by
      rw [List.getD_eq_getElem?_getD, List.getD_eq_getElem?_getD, List.getElem?_map]
      cases Lib.deBruijn64tab[j]? <;> rfl
    rw [this]
  refine ⟨?_, hc⟩
  have h0 := hc 0 (by omega)
  by_cases hlt : 2 < W.heap.size
  · exact hlt
  · unfold World.cell? at h0
    rw [Array.getElem?_eq_none (by show W.heap.size ≤ 2; omega)] at h0
    simp at h0
theorem heap8 {W : World} (h : laidMetH Tryz.prog laidList W) : 8 ≤ W.heap.size := by
  obtain ⟨ps, ⟨g0, t0, cs0, f0, p0, q0, hg0, ht0, hv0, hd0, _, _⟩, _, _⟩ := var_of_laid (nm := lname 0) (d := YtpfjmfgnlpnflaaGreatDoor.Rows.laid_math_bits_deBruijn32tab) (by kernel_rfl) h
  have hg : Tryz.prog.globalNamed (lname 0) = some 7 := by kernel_rfl
  unfold World.var? at hv0
  rw [hg] at hv0
  simp only [Option.bind_some] at hv0
  split at hv0
  · rename_i cs t f hh
    have := (Array.getElem?_eq_some_iff.1 hh).1
    omega
  · cases hv0
theorem laid_of {W : World} (h : laidMetH Tryz.prog laidList W) : Cd.Laid W := ⟨tab_laid h, heap8 h⟩
theorem own : ownKnob Tryz.prog.godebug = none := by kernel_rfl
theorem laidOut : laidOutB Tryz.prog = true := by kernel_rfl
theorem door_met (os : Os) (args : Array Value) : laidMetH Tryz.prog laidList ((World.doorLaid Tryz.prog 400 os).forCall (fun _ _ => 0) ⟨#[], args, []⟩).memory :=
  laidMetH_of_parts3 (fuel := 8) (laidMet_of_run' 8 (by kernel_rfl) (by kernel_rfl)) (by kernel_rfl) (by kernel_rfl)
theorem intR {n : Int} (h : (Lit.int .i64 n).wf = true) : I64 n := by
  simp only [Lit.wf, Bool.and_eq_true, decide_eq_true_eq] at h
  exact (InR_iff n).1 h
section
variable {H : Type} {enc : TypeId × Value → H} {w : World} {sp : Nat → Bool} {hd : Bool}
theorem ints_of_row {v : Value} {l : List Int} (h : ∃ ad c, v = .slice ad l.length c ∧ (l = [] ∨ ∃ b o, ad = some ⟨b, o, none⟩ ∧ b < w.heap.size ∧ ∀ (i : Nat) (h : i < l.length), w.cell? ⟨b, o + i, none⟩ = some (Value.int .i64 l[i]))) (h0 : ∀ c, v = .slice none l.length c → l.length = 0 ∧ c = 0) (hl : l.length ≤ maxLen) (hr : ∀ x ∈ l, I64 x) : Ints w v l := by
  obtain ⟨ad, c, rfl, h⟩ := h
  refine ⟨⟨ad, c, rfl, fun e => ?_, ?_⟩, hr, hl⟩
  · subst e
    exact h0 c rfl
  · rcases h with h | ⟨b, o, rfl, hlt, hc⟩
    · exact .inl h
    · refine .inr ⟨b, o, rfl, hlt, fun k x hk => ?_⟩
      rw [flat_int] at hk
      obtain ⟨hk1, hk2⟩ := List.getElem?_eq_some_iff.1 hk
      have hk1 : k < l.length := by rw [List.length_map] at hk1; exact hk1
      rw [hc k hk1, ← hk2, List.getElem_map]
theorem nil_len {t : TypeId} {n m : Nat} {c : Nat} {D : DataW H × List MemPlace} (ht : Tryz.prog.underlying t = some (.slice 3)) (h : DataW.trod enc Tryz.prog w 0 sp hd n t [.slice none m c] = some D) : m = 0 ∧ c = 0 := by
  rcases open_slice1 ht (by kernel_rfl) h with ⟨hcs, _⟩ | ⟨a', len, cap, m, n', V, D', Pl, hcs, _⟩
  · simp only [List.cons.injEq, and_true, Value.slice.injEq] at hcs
    exact hcs.2
  · simp only [List.cons.injEq, and_true, Value.slice.injEq] at hcs
    exact absurd hcs.1 (by simp)
theorem open_ints {v : Value} {n : Nat} {D : DataW H × List MemPlace} (h : DataW.trod enc Tryz.prog w 0 sp hd n 22 [v] = some D) : ∃ l, Ints w v l := by
  have h' := h
  obtain ⟨l, h1, h2, h3⟩ := rowOpen (Value.int .i64) I64 Tryz.underlying22 (by kernel_rfl) (fun V n D h => by
    obtain ⟨k, e, _, hw⟩ := DataW.trod_int Tryz.underlying3 h
    simp only [List.cons.injEq, and_true] at e
    exact ⟨k, e, intR hw⟩) h
  exact ⟨l, ints_of_row h1 (fun c e => by subst e; exact nil_len Tryz.underlying22 h') h2 h3⟩
theorem open_list {b0 : Nat} {v : Value} {d : DataW H} {ps : List MemPlace} (hval : Value.okWide Tryz.prog w .any b0 22 v) (h : DataW.Trod enc Tryz.prog w 0 sp hd 22 v d ps) : ∃ l, Ints w v l := by
  obtain ⟨a, n, c, rfl⟩ := okWide_slice Tryz.underlying22 hval
  obtain ⟨fu, hf⟩ := h
  exact open_ints hf
theorem cells_ints : Tryz.prog.cellsOf 22 = 1 := by kernel_rfl
theorem cells_int : Tryz.prog.cellsOf 3 = 1 := by kernel_rfl
theorem open_mir {n : Nat} {cs : List Value} {D : DataW H × List MemPlace} (h : DataW.trod enc Tryz.prog w 0 sp hd n 24 cs = some D) : ∃ m v, cs = [v, .int .i64 m.blind] ∧ MirR w m v := by
  obtain ⟨hcl, hf⟩ := open_fields Tryz.underlying24 (by kernel_rfl) (by kernel_rfl) h
  obtain ⟨v0, y0, m0, c0, f0⟩ := hf 0 _ rfl
  obtain ⟨v1, y1, m1, c1, f1⟩ := hf 1 _ rfl
  obtain ⟨l0, h0⟩ := open_ints f0
  obtain ⟨k1, e1, _, w1⟩ := DataW.trod_int Tryz.underlying3 f1
  simp only [List.cons.injEq, and_true] at e1
  have h6 : cs.length = 2 := hcl
  refine ⟨⟨l0, k1⟩, v0, ?_, ⟨h0, intR w1⟩⟩
  match cs, h6 with
  | [x0, x1], _ =>
    simp only [List.getElem?_cons_zero, List.getElem?_cons_succ, Option.some.injEq] at c0 c1
    rw [c0, c1, e1]
theorem open_bldC {n : Nat} {cs : List Value} {D : DataW H × List MemPlace} (h : DataW.trod enc Tryz.prog w 0 sp hd n 45 cs = some D) : ∃ b x, cs = [.int .i64 b.s, .int .i64 b.u, .int .i64 b.v, x] ∧ BldR w b x := by
  obtain ⟨hcl, hf⟩ := open_fields Tryz.underlying45 (by kernel_rfl) (by kernel_rfl) h
  obtain ⟨v0, y0, m0, c0, f0⟩ := hf 0 _ rfl
  obtain ⟨v1, y1, m1, c1, f1⟩ := hf 1 _ rfl
  obtain ⟨v2, y2, m2, c2, f2⟩ := hf 2 _ rfl
  obtain ⟨v3, y3, m3, c3, f3⟩ := hf 3 _ rfl
  obtain ⟨k0, e0, _, w0⟩ := DataW.trod_int Tryz.underlying3 f0
  obtain ⟨k1, e1, _, w1⟩ := DataW.trod_int Tryz.underlying3 f1
  obtain ⟨k2, e2, _, w2⟩ := DataW.trod_int Tryz.underlying3 f2
  obtain ⟨l3, h3⟩ := open_ints f3
  simp only [List.cons.injEq, and_true] at e0 e1 e2
  refine ⟨⟨k0, k1, k2, l3⟩, v3, ?_, ⟨intR w0, intR w1, intR w2, h3⟩⟩
  have h6 : cs.length = 4 := hcl
  match cs, h6 with
  | [x0, x1, x2, x3], _ =>
    simp only [List.getElem?_cons_zero, List.getElem?_cons_succ, Option.some.injEq] at c0 c1 c2 c3
    rw [c0, c1, c2, c3, e0, e1, e2]
theorem cells_mir : Tryz.prog.cellsOf 24 = 2 := by kernel_rfl
theorem cells_bld : Tryz.prog.cellsOf 45 = 4 := by kernel_rfl
theorem cells_cas : Tryz.prog.cellsOf 63 = 10 := by kernel_rfl
theorem open_cas {b0 : Nat} {v : Value} {d : DataW H} {ps : List MemPlace} (hval : Value.okWide Tryz.prog w .any b0 63 v) (h : DataW.Trod enc Tryz.prog w 0 sp hd 63 v d ps) : ∃ c mv av yv, v = casV c mv av yv ∧ CasR w c mv av yv := by
  obtain ⟨cs, rfl, hs⟩ := okWide_struct Tryz.underlying63 hval
  obtain ⟨fuel, hf⟩ := h
  have hf : DataW.trod enc Tryz.prog w 0 sp hd fuel 63 cs.toList = some (d, ps) := hf
  obtain ⟨xs, m, _, _, hcl, hxl, hf⟩ := DataW.trod_struct Tryz.underlying63 hf
  rw [cells_cas] at hcl
  have hcs : cs = cs.toList.toArray := by simp
  rw [hcs]
  clear hs hcs
  generalize cs.toList = l at *
  have hxl : xs.length = 6 := hxl
  match l, hcl, xs, hxl with
  | [x0, x1, x2, x3, x4, x5, x6, x7, x8, x9], _, [y0, y1, y2, y3, y4, y5], _ =>
    have f0 : DataW.trod enc Tryz.prog w 0 sp hd m 3 (([x0, x1, x2, x3, x4, x5, x6, x7, x8, x9].drop 0).take (Tryz.prog.cellsOf 3)) = some y0 := hf 0 _ rfl
    have f1 : DataW.trod enc Tryz.prog w 0 sp hd m 24 (([x0, x1, x2, x3, x4, x5, x6, x7, x8, x9].drop 1).take (Tryz.prog.cellsOf 24)) = some y1 := hf 1 _ rfl
    have f2 : DataW.trod enc Tryz.prog w 0 sp hd m 3 (([x0, x1, x2, x3, x4, x5, x6, x7, x8, x9].drop 3).take (Tryz.prog.cellsOf 3)) = some y2 := hf 2 _ rfl
    have f3 : DataW.trod enc Tryz.prog w 0 sp hd m 3 (([x0, x1, x2, x3, x4, x5, x6, x7, x8, x9].drop 4).take (Tryz.prog.cellsOf 3)) = some y3 := hf 3 _ rfl
    have f4 : DataW.trod enc Tryz.prog w 0 sp hd m 22 (([x0, x1, x2, x3, x4, x5, x6, x7, x8, x9].drop 5).take (Tryz.prog.cellsOf 22)) = some y4 := hf 4 _ rfl
    have f5 : DataW.trod enc Tryz.prog w 0 sp hd m 45 (([x0, x1, x2, x3, x4, x5, x6, x7, x8, x9].drop 6).take (Tryz.prog.cellsOf 45)) = some y5 := hf 5 _ rfl
    rw [cells_int] at f0 f2 f3
    rw [cells_mir] at f1
    rw [cells_ints] at f4
    rw [cells_bld] at f5
    obtain ⟨k0, e0, _, w0⟩ := DataW.trod_int Tryz.underlying3 f0
    obtain ⟨mi, mv, em, hm⟩ := open_mir f1
    obtain ⟨k2, e2, _, w2⟩ := DataW.trod_int Tryz.underlying3 f2
    obtain ⟨k3, e3, _, w3⟩ := DataW.trod_int Tryz.underlying3 f3
    obtain ⟨l4, h4⟩ := open_ints f4
    obtain ⟨bl, bv, eb, hb⟩ := open_bldC f5
    simp only [List.drop_zero, List.take_succ_cons, List.take_zero, List.drop_succ_cons, List.cons.injEq, and_true] at e0 em e2 e3 eb h4
    obtain ⟨em0, em1⟩ := em
    obtain ⟨eb0, eb1, eb2, eb3⟩ := eb
    exact ⟨⟨k0, mi, k2, k3, l4, bl⟩, mv, x5, bv, by rw [e0, em0, em1, e2, e3, eb0, eb1, eb2, eb3], ⟨intR w0, hm, intR w2, intR w3, h4, hb⟩⟩
end
end Go.Proofs
set_option linter.unusedVariables false
set_option maxRecDepth 100000
namespace Go.Proofs
open Go.Sh
def sh_6 (a0 : Value) (a1 : Value) (a2 : Value) (K : Value → World → Prop) (w : World) : Prop :=
 oM Tryz.prog (.box 63 (.tmp 0)) 0 [a0] (fun v3_1 w =>
 callM Tryz.prog 21 #[] (fun v22_2 w =>
 oM Tryz.prog (.load 63 (.tmp 0)) 63 [v3_1] (fun v24_3 w =>
 callM Tryz.prog 22 #[v24_3] (fun v25_4 w =>
 oM Tryz.prog (.extract (.tmp 0) 0) 32 [v25_4] (fun v26_5 w =>
 oM Tryz.prog (.extract (.tmp 0) 1) 4 [v25_4] (fun v27_6 w =>
 oM Tryz.prog (.alloc 32) 0 [] (fun v8_7 w =>
 oM Tryz.prog (.store 32 (.tmp 0) (.tmp 1)) 0 [v8_7, v26_5] (fun _ w =>
 oM Tryz.prog (.load 63 (.tmp 0)) 63 [v3_1] (fun v28_8 w =>
 callM Tryz.prog 23 #[v28_8] (fun v29_9 w =>
 oM Tryz.prog (.unOp .not 4 (.tmp 0)) 4 [v29_9] (fun v30_10 w =>
 gdM (gd v30_10 false) (pureM v27_6) (fun v32_11 w =>
 gdM (gd v30_10 false) (oM Tryz.prog (.unOp .not 4 (.tmp 0)) 4 [v32_11]) (fun v33_12 w =>
 oM Tryz.prog (.pick (.tmp 0) (.tmp 1) (.tmp 2)) 4 [v30_10, (.bool true), v33_12] (fun v34_13 w =>
 condM v34_13
 (K v22_2 w)
 (oM Tryz.prog (.load 32 (.tmp 0)) 32 [v8_7] (fun v36_14 w =>
 oM Tryz.prog (.fieldAddr 63 (.tmp 0) 2) 0 [v3_1] (fun v37_15 w =>
 oM Tryz.prog (.load 3 (.tmp 0)) 3 [v37_15] (fun v38_16 w =>
 callM Tryz.prog 13 #[v36_14, v38_16] (fun v39_17 w =>
 oM Tryz.prog (.load 32 (.tmp 0)) 32 [v8_7] (fun v41_18 w =>
 oM Tryz.prog (.fieldAddr 63 (.tmp 0) 2) 0 [v3_1] (fun v42_19 w =>
 oM Tryz.prog (.load 3 (.tmp 0)) 3 [v42_19] (fun v43_20 w =>
 oM Tryz.prog (.fieldAddr 63 (.tmp 0) 4) 0 [v3_1] (fun v44_21 w =>
 oM Tryz.prog (.load 22 (.tmp 0)) 22 [v44_21] (fun v45_22 w =>
 oM Tryz.prog (.fieldAddr 63 (.tmp 0) 3) 0 [v3_1] (fun v46_23 w =>
 oM Tryz.prog (.load 3 (.tmp 0)) 3 [v46_23] (fun v47_24 w =>
 callM Tryz.prog 34 #[v41_18, v43_20, v45_22, v47_24] (fun v48_25 w =>
 oM Tryz.prog (.extract (.tmp 0) 0) 37 [v48_25] (fun v49_26 w =>
 oM Tryz.prog (.extract (.tmp 0) 1) 54 [v48_25] (fun v50_27 w =>
 oM Tryz.prog (.alloc 37) 0 [] (fun v11_28 w =>
 oM Tryz.prog (.store 37 (.tmp 0) (.tmp 1)) 0 [v11_28, v49_26] (fun _ w =>
 oM Tryz.prog (.load 32 (.tmp 0)) 32 [v8_7] (fun v52_29 w =>
 oM Tryz.prog (.fieldAddr 63 (.tmp 0) 4) 0 [v3_1] (fun v54_30 w =>
 oM Tryz.prog (.load 22 (.tmp 0)) 22 [v54_30] (fun v55_31 w =>
 oM Tryz.prog (.load 37 (.tmp 0)) 37 [v11_28] (fun v56_32 w =>
 oM Tryz.prog (.fieldAddr 63 (.tmp 0) 5) 0 [v3_1] (fun v57_33 w =>
 oM Tryz.prog (.load 45 (.tmp 0)) 45 [v57_33] (fun v58_34 w =>
 callM Tryz.prog 17 #[v52_29, v39_17, v55_31, v56_32, v58_34] (fun v59_35 w =>
 oM Tryz.prog (.extract (.tmp 0) 0) 3 [v59_35] (fun v60_36 w =>
 oM Tryz.prog (.extract (.tmp 0) 1) 54 [v59_35] (fun v61_37 w =>
 oM Tryz.prog (.binOp .neq 54 (.tmp 0) (.const (.int .i64 0)) 54) 4 [v50_27] (fun v63_38 w =>
 gdM (gd v63_38 false) (pureM v61_37) (fun v65_39 w =>
 gdM (gd v63_38 false) (oM Tryz.prog (.binOp .neq 54 (.tmp 0) (.const (.int .i64 0)) 54) 4 [v65_39]) (fun v66_40 w =>
 oM Tryz.prog (.pick (.tmp 0) (.tmp 1) (.tmp 2)) 4 [v63_38, (.bool true), v66_40] (fun v67_41 w =>
 condM v67_41
 (gdM (gd v22_2 true) (pureM v61_37) (fun v70_42 w =>
 gdM (gd v22_2 true) (oM Tryz.prog (.binOp .eql 54 (.tmp 0) (.const (.int .i64 1)) 54) 4 [v70_42]) (fun v71_43 w =>
 gdM (gd v22_2 true) (pureM v71_43) (fun v72_44 w =>
 gdM (gd v72_44 false) (pureM v61_37) (fun v73_45 w =>
 gdM (gd v72_44 false) (oM Tryz.prog (.binOp .eql 54 (.tmp 0) (.const (.int .i64 7)) 54) 4 [v73_45]) (fun v74_46 w =>
 gdM (gd v22_2 true) (oM Tryz.prog (.pick (.tmp 0) (.tmp 1) (.tmp 2)) 4 [v72_44, (.bool true), v74_46]) (fun v75_47 w =>
 oM Tryz.prog (.pick (.tmp 0) (.tmp 1) (.tmp 2)) 4 [v22_2, v75_47, (.bool false)] (fun v76_48 w =>
 K v76_48 w) w) w) w) w) w) w) w)
 (oM Tryz.prog (.load 32 (.tmp 0)) 32 [v8_7] (fun v77_49 w =>
 oM Tryz.prog (.fieldAddr 63 (.tmp 0) 2) 0 [v3_1] (fun v78_50 w =>
 oM Tryz.prog (.load 3 (.tmp 0)) 3 [v78_50] (fun v79_51 w =>
 oM Tryz.prog (.fieldAddr 63 (.tmp 0) 3) 0 [v3_1] (fun v80_52 w =>
 oM Tryz.prog (.load 3 (.tmp 0)) 3 [v80_52] (fun v81_53 w =>
 callM Tryz.prog 35 #[v77_49, v79_51, v81_53, v60_36] (fun v83_54 w =>
 oM Tryz.prog (.load 32 (.tmp 0)) 32 [v8_7] (fun v85_55 w =>
 oM Tryz.prog (.fieldAddr 63 (.tmp 0) 4) 0 [v3_1] (fun v87_56 w =>
 oM Tryz.prog (.load 22 (.tmp 0)) 22 [v87_56] (fun v88_57 w =>
 oM Tryz.prog (.load 37 (.tmp 0)) 37 [v11_28] (fun v89_58 w =>
 oM Tryz.prog (.fieldAddr 63 (.tmp 0) 5) 0 [v3_1] (fun v90_59 w =>
 oM Tryz.prog (.load 45 (.tmp 0)) 45 [v90_59] (fun v91_60 w =>
 callM Tryz.prog 18 #[v85_55, v39_17, v88_57, v89_58, v91_60, v83_54] (fun v93_61 w =>
 oM Tryz.prog (.extract (.tmp 0) 0) 41 [v93_61] (fun v94_62 w =>
 oM Tryz.prog (.extract (.tmp 0) 1) 54 [v93_61] (fun v95_63 w =>
 oM Tryz.prog (.alloc 41) 0 [] (fun v16_64 w =>
 oM Tryz.prog (.store 41 (.tmp 0) (.tmp 1)) 0 [v16_64, v94_62] (fun _ w =>
 oM Tryz.prog (.load 32 (.tmp 0)) 32 [v8_7] (fun v97_65 w =>
 oM Tryz.prog (.fieldAddr 63 (.tmp 0) 4) 0 [v3_1] (fun v99_66 w =>
 oM Tryz.prog (.load 22 (.tmp 0)) 22 [v99_66] (fun v100_67 w =>
 oM Tryz.prog (.load 37 (.tmp 0)) 37 [v11_28] (fun v101_68 w =>
 oM Tryz.prog (.fieldAddr 63 (.tmp 0) 5) 0 [v3_1] (fun v102_69 w =>
 oM Tryz.prog (.load 45 (.tmp 0)) 45 [v102_69] (fun v103_70 w =>
 callM Tryz.prog 18 #[v97_65, v39_17, v100_67, v101_68, v103_70, a2] (fun v105_71 w =>
 oM Tryz.prog (.extract (.tmp 0) 0) 41 [v105_71] (fun v106_72 w =>
 oM Tryz.prog (.extract (.tmp 0) 1) 54 [v105_71] (fun v107_73 w =>
 oM Tryz.prog (.alloc 41) 0 [] (fun v18_74 w =>
 oM Tryz.prog (.store 41 (.tmp 0) (.tmp 1)) 0 [v18_74, v106_72] (fun _ w =>
 oM Tryz.prog (.binOp .neq 54 (.tmp 0) (.const (.int .i64 0)) 54) 4 [v95_63] (fun v109_75 w =>
 gdM (gd v109_75 false) (oM Tryz.prog (.load 32 (.tmp 0)) 32 [v8_7]) (fun v111_76 w =>
 gdM (gd v109_75 false) (pureM v39_17) (fun v112_77 w =>
 gdM (gd v109_75 false) (oM Tryz.prog (.load 41 (.tmp 0)) 41 [v16_64]) (fun v113_78 w =>
 gdM (gd v109_75 false) (callM Tryz.prog 29 #[v111_76, v112_77, v113_78]) (fun v114_79 w =>
 gdM (gd v109_75 false) (oM Tryz.prog (.unOp .not 4 (.tmp 0)) 4 [v114_79]) (fun v115_80 w =>
 oM Tryz.prog (.pick (.tmp 0) (.tmp 1) (.tmp 2)) 4 [v109_75, (.bool true), v115_80] (fun v116_81 w =>
 gdM (gd v116_81 false) (pureM v107_73) (fun v118_82 w =>
 gdM (gd v116_81 false) (oM Tryz.prog (.binOp .eql 54 (.tmp 0) (.const (.int .i64 0)) 54) 4 [v118_82]) (fun v119_83 w =>
 gdM (gd v116_81 false) (pureM a2) (fun v120_84 w =>
 gdM (gd v116_81 false) (pureM v83_54) (fun v121_85 w =>
 gdM (gd v116_81 false) (oM Tryz.prog (.binOp .eql 3 (.tmp 0) (.tmp 1) 3) 4 [v120_84, v121_85]) (fun v122_86 w =>
 gdM (gd v116_81 false) (oM Tryz.prog (.binOp .neq 4 (.tmp 0) (.tmp 1) 4) 4 [v119_83, v122_86]) (fun v123_87 w =>
 oM Tryz.prog (.pick (.tmp 0) (.tmp 1) (.tmp 2)) 4 [v116_81, (.bool true), v123_87] (fun v124_88 w =>
 gdM (gd v124_88 false) (pureM v107_73) (fun v126_89 w =>
 gdM (gd v124_88 false) (oM Tryz.prog (.binOp .eql 54 (.tmp 0) (.const (.int .i64 1)) 54) 4 [v126_89]) (fun v127_90 w =>
 gdM (gd v124_88 false) (pureM a2) (fun v128_91 w =>
 gdM (gd v124_88 false) (oM Tryz.prog (.binOp .lss 3 (.tmp 0) (.tmp 1) 3) 4 [v128_91, (.int .i64 0)]) (fun v129_92 w =>
 gdM (gd v124_88 false) (pureM v129_92) (fun v130_93 w =>
 gdM (gd v130_93 false) (pureM a2) (fun v131_94 w =>
 gdM (gd v130_93 false) (oM Tryz.prog (.fieldAddr 63 (.tmp 0) 0) 0 [v3_1]) (fun v132_95 w =>
 gdM (gd v130_93 false) (oM Tryz.prog (.load 3 (.tmp 0)) 3 [v132_95]) (fun v133_96 w =>
 gdM (gd v130_93 false) (oM Tryz.prog (.binOp .geq 3 (.tmp 0) (.tmp 1) 3) 4 [v131_94, v133_96]) (fun v134_97 w =>
 gdM (gd v124_88 false) (oM Tryz.prog (.pick (.tmp 0) (.tmp 1) (.tmp 2)) 4 [v130_93, (.bool true), v134_97]) (fun v135_98 w =>
 gdM (gd v124_88 false) (oM Tryz.prog (.binOp .neq 4 (.tmp 0) (.tmp 1) 4) 4 [v127_90, v135_98]) (fun v136_99 w =>
 oM Tryz.prog (.pick (.tmp 0) (.tmp 1) (.tmp 2)) 4 [v124_88, (.bool true), v136_99] (fun v137_100 w =>
 condM v137_100
 (K (.bool false) w)
 (oM Tryz.prog (.load 32 (.tmp 0)) 32 [v8_7] (fun v139_101 w =>
 oM Tryz.prog (.fieldAddr 63 (.tmp 0) 4) 0 [v3_1] (fun v140_102 w =>
 oM Tryz.prog (.load 22 (.tmp 0)) 22 [v140_102] (fun v141_103 w =>
 oM Tryz.prog (.fieldAddr 63 (.tmp 0) 5) 0 [v3_1] (fun v142_104 w =>
 oM Tryz.prog (.load 45 (.tmp 0)) 45 [v142_104] (fun v143_105 w =>
 callM Tryz.prog 15 #[v139_101, v141_103, v143_105, a1] (fun v145_106 w =>
 oM Tryz.prog (.extract (.tmp 0) 0) 49 [v145_106] (fun v146_107 w =>
 oM Tryz.prog (.extract (.tmp 0) 1) 4 [v145_106] (fun v147_108 w =>
 oM Tryz.prog (.alloc 49) 0 [] (fun v20_109 w =>
 oM Tryz.prog (.store 49 (.tmp 0) (.tmp 1)) 0 [v20_109, v146_107] (fun _ w =>
 oM Tryz.prog (.binOp .lss 3 (.tmp 0) (.tmp 1) 3) 4 [a1, (.int .i64 1)] (fun v149_110 w =>
 gdM (gd v149_110 false) (pureM a1) (fun v151_111 w =>
 gdM (gd v149_110 false) (oM Tryz.prog (.fieldAddr 63 (.tmp 0) 0) 0 [v3_1]) (fun v152_112 w =>
 gdM (gd v149_110 false) (oM Tryz.prog (.load 3 (.tmp 0)) 3 [v152_112]) (fun v153_113 w =>
 gdM (gd v149_110 false) (oM Tryz.prog (.binOp .geq 3 (.tmp 0) (.tmp 1) 3) 4 [v151_111, v153_113]) (fun v154_114 w =>
 oM Tryz.prog (.pick (.tmp 0) (.tmp 1) (.tmp 2)) 4 [v149_110, (.bool true), v154_114] (fun v155_115 w =>
 condM v155_115
 (gdM (gd v22_2 true) (pureM v147_108) (fun v158_116 w =>
 gdM (gd v22_2 true) (oM Tryz.prog (.unOp .not 4 (.tmp 0)) 4 [v158_116]) (fun v159_117 w =>
 oM Tryz.prog (.pick (.tmp 0) (.tmp 1) (.tmp 2)) 4 [v22_2, v159_117, (.bool false)] (fun v160_118 w =>
 K v160_118 w) w) w) w)
 (gdM (gd v22_2 true) (pureM v147_108) (fun v163_119 w =>
 oM Tryz.prog (.pick (.tmp 0) (.tmp 1) (.tmp 2)) 4 [v22_2, v163_119, (.bool false)] (fun v164_120 w =>
 gdM (gd v164_120 true) (oM Tryz.prog (.load 32 (.tmp 0)) 32 [v8_7]) (fun v166_121 w =>
 gdM (gd v164_120 true) (oM Tryz.prog (.load 41 (.tmp 0)) 41 [v16_64]) (fun v167_122 w =>
 gdM (gd v164_120 true) (oM Tryz.prog (.load 49 (.tmp 0)) 49 [v20_109]) (fun v168_123 w =>
 gdM (gd v164_120 true) (callM Tryz.prog 36 #[v166_121, v167_122, v168_123]) (fun v169_124 w =>
 oM Tryz.prog (.pick (.tmp 0) (.tmp 1) (.tmp 2)) 4 [v164_120, v169_124, (.bool false)] (fun v170_125 w =>
 K v170_125 w) w) w) w) w) w) w) w)) w) w) w) w) w) w) w) w) w) w) w) w) w) w) w) w)) w) w) w) w) w) w) w) w) w) w) w) w) w) w) w) w) w) w) w) w) w) w) w) w) w) w) w) w) w) w) w) w) w) w) w) w) w) w) w) w) w) w) w) w) w) w) w) w) w) w) w) w) w) w)) w) w) w) w) w) w) w) w) w) w) w) w) w) w) w) w) w) w) w) w) w) w) w) w) w) w) w) w) w)) w) w) w) w) w) w) w) w) w) w) w) w) w) w
theorem sh_6_eq (a0 : Value) (a1 : Value) (a2 : Value) (K : Value → World → Prop) (w : World) : sh_6 a0 a1 a2 K w = code Tryz.prog (fun _ => 0) 171 (Tryz.f6.body.getD .skip) (slotsAt [a0, a1, a2]) (retK Tryz.prog [.tmp 6] K) w := by kernel_rfl
theorem sh_6_ok {a0 a1 a2 : Value} {K : Value → World → Prop} {w : World} (h : sh_6 a0 a1 a2 K w) : callM Tryz.prog 6 #[a0, a1, a2] K w :=
  calls_of_code (fun _ => 0) (fn := Tryz.f6) (rs := [.tmp 6]) Tryz.func6 rfl rfl (by kernel_rfl) (Nat.le_of_ble_eq_true rfl) ((sh_6_eq a0 a1 a2 K w).mp h)
end Go.Proofs
namespace Go.Proofs
open Go Go.Sh Go.RowKit FdSpec TkSpec CodeSpec
set_option linter.unusedSimpArgs false
set_option linter.unusedVariables false
set_option maxRecDepth 10000
section
variable {K : Value → World → Prop} {w w0 : World} {L : List (Addr × Value)}
theorem honest_ok (c : Cas) (dare r : Int) {mv av yv : Value} (hd : I64 dare) (hr : I64 r) (hT : DbT w) (hL : Cd.Laid w) (hc : CasR w c mv av yv) (k : ∀ w', Below w.heap.size w w' → K (.bool true) w') :
    callM Tryz.prog 6 #[casV c mv av yv, .int .i64 dare, .int .i64 r] K w := by
  apply sh_6_ok
  unfold sh_6
  have hc' := hc
  have hat := hc.attrs
  obtain ⟨mad, mc, rfl⟩ := hc.m.ints.isSlice
  obtain ⟨aad, ac, rfl⟩ := hc.attrs.isSlice
  obtain ⟨yad, yc, rfl⟩ := hc.b.ys.isSlice
  refine box_kn (cs := casC c (.slice mad c.m.bases.length mc) (.slice aad c.attrs.length ac) (.slice yad c.b.ys.length yc)) rfl (.start w) fun b1 W hk hb1 hbb => ?_
  clear hb1
  refine sane_ok (hT.next hk.below) (hL.below hk.below hL.size) (fun w1 h => ?_)
  have hk := hk.next h
  clear h
  repeat (any_goals ((with_reducible refine idO ?_); (with_reducible refine oM_gen fun Kv hK=>?_); simp [go_sem, hk.cells]; refine hK _ _ ?_; clear hK; clear Kv))
  refine made_ok c (hT.next hk.below) (hc'.next hk.below) (fun w4 sv h4 hs _ => ?_)
  have hk := hk.next h4
  clear h4
  obtain ⟨sad, sc, rfl⟩ := hs.ints.isSlice
  iterate 2 (any_goals ((with_reducible refine idO ?_); (with_reducible refine oM_gen fun Kv hK=>?_); simp [go_sem]; refine hK _ _ ?_; clear hK; clear Kv))
  refine local_stpK _ _ _ _ hk (fun g1 w5 hk h5 hg1 => ?_)
  have hs := hs.next h5
  clear h5
  repeat (any_goals ((with_reducible refine idO ?_); (with_reducible refine oM_gen fun Kv hK=>?_); simp [go_sem, hk.cells]; refine hK _ _ ?_; clear hK; clear Kv))
  refine small_ok c (hc'.next hk.below) (fun w6 h6 => ?_)
  have hk := hk.next h6
  have hs := hs.next h6
  clear h6
  cases hsm : smallM c with
  | false =>
    repeat (any_goals (first
    | (with_reducible first|((refine idGd ?_); refine zD ?_)|((refine idPick ?_); refine yB ?_)|((refine idCond ?_); refine yL ?_))
    | ((with_reducible refine idO ?_); (with_reducible refine oM_gen fun Kv hK=>?_); simp [go_sem]; refine hK _ _ ?_; clear hK; clear Kv)))
    exact k _ hk.below
  | true =>
  cases hmd : (madeM c).2 with
  | false =>
    repeat (any_goals (first
    | (with_reducible first|refine pureM_in ?_|((refine idGd ?_); refine zC ?_)|((refine idPick ?_); refine yC ?_)|((refine idCond ?_); refine yL ?_))
    | ((with_reducible refine idO ?_); (with_reducible refine oM_gen fun Kv hK=>?_); simp [go_sem]; refine hK _ _ ?_; clear hK; clear Kv)))
    exact k _ hk.below
  | true =>
  obtain ⟨hmdd, hq⟩ := made_of hmd
  generalize (madeM c).1 = s at *
  repeat (any_goals (first
  | (with_reducible first|refine pureM_in ?_|((refine idGd ?_); refine zC ?_)|((refine idPick ?_); refine yC ?_)|((refine idCond ?_); refine yM ?_))
  | ((with_reducible refine idO ?_); (with_reducible refine oM_gen fun Kv hK=>?_); simp [go_sem, hk.cells]; refine hK _ _ ?_; clear hK; clear Kv)))
  refine Public_ok s c.x hc'.x hs (fun w7 h7 => ?_)
  have hk := hk.next h7
  have hs := hs.next h7
  clear h7
  repeat (any_goals ((with_reducible refine idO ?_); (with_reducible refine oM_gen fun Kv hK=>?_); simp [go_sem, hk.cells]; refine hK _ _ ?_; clear hK; clear Kv))
  refine Propose_ok s c.x c.w hc'.x hc'.wn hs (hat.next hk.below) (fun w8 h8 => ?_)
  have hk := hk.next h8
  have hs := hs.next h8
  clear h8
  iterate 2 (any_goals ((with_reducible refine idO ?_); (with_reducible refine oM_gen fun Kv hK=>?_); simp [go_sem]; refine hK _ _ ?_; clear hK; clear Kv))
  refine local_off _ hk (fun g2 w9 hk h9 hg2 => ?_)
  have hs := hs.next h9
  clear h9
  have hpo : OffR (proposeM s c.x c.attrs c.w).1 := propose_R _ _ _ _
  repeat (any_goals ((with_reducible refine idO ?_); (with_reducible refine oM_gen fun Kv hK=>?_); simp [go_sem, hk.cells]; refine hK _ _ ?_; clear hK; clear Kv))
  refine Ask_ok s (publicM s c.x) (proposeM s c.x c.attrs c.w).1 c.b (publicM_I64 _ _) hpo hs (hat.next hk.below) (hc'.b.next hk.below) (hL.below hk.below hL.size) (fun w10 h10 => ?_)
  have hk := hk.next h10
  have hs := hs.next h10
  clear h10
  have ea2 : (askM s (publicM s c.x) c.attrs (proposeM s c.x c.attrs c.w).1 c.b).2 = askErr s (publicM s c.x) c.attrs (proposeM s c.x c.attrs c.w).1 c.b := rfl
  rcases TpA.askErr_cases s (publicM s c.x) c.attrs (proposeM s c.x c.attrs c.w).1 c.b with ⟨hf, he⟩ | ⟨hf, hi, he⟩ | ⟨hf, hi, he⟩
  · rw [he] at ea2
    by_cases hp : (proposeM s c.x c.attrs c.w).2 = 0
    · repeat (any_goals (first
      | (with_reducible first|refine pureM_in ?_|((refine idGd ?_); first|refine zA ?_|refine zC ?_|refine zD ?_)|((refine idPick ?_); first|refine yB ?_|refine yC ?_)|((refine idCond ?_); refine yL ?_))
      | ((with_reducible refine idO ?_); (with_reducible refine oM_gen fun Kv hK=>?_); simp [go_sem, hk.cells, hp, ea2]; refine hK _ _ ?_; clear hK; clear Kv)))
      exact k _ hk.below
    · repeat (any_goals (first
      | (with_reducible first|refine pureM_in ?_|((refine idGd ?_); first|refine zA ?_|refine zD ?_)|((refine idPick ?_); refine yB ?_)|((refine idCond ?_); refine yL ?_))
      | ((with_reducible refine idO ?_); (with_reducible refine oM_gen fun Kv hK=>?_); simp [go_sem, hk.cells, hp, ea2]; refine hK _ _ ?_; clear hK; clear Kv)))
      exact k _ hk.below
  · rw [he] at ea2
    have hp := (TpA.fine_hon hmdd hf).2
    repeat (any_goals (first
    | (with_reducible first|refine pureM_in ?_|((refine idGd ?_); first|refine zA ?_|refine zC ?_)|((refine idPick ?_); first|refine yB ?_|refine yC ?_)|((refine idCond ?_); refine yL ?_))
    | ((with_reducible refine idO ?_); (with_reducible refine oM_gen fun Kv hK=>?_); simp [go_sem, hk.cells, hp, ea2]; refine hK _ _ ?_; clear hK; clear Kv)))
    exact k _ hk.below
  obtain ⟨hh, hp⟩ := TpA.fine_hon hmdd hf
  rw [he] at ea2
  have ea : (askM s (publicM s c.x) c.attrs (proposeM s c.x c.attrs c.w).1 c.b).1 = askC s c.attrs (proposeM s c.x c.attrs c.w).1 c.b := by unfold askM; dsimp only; rw [if_pos he]
  have hci : I64 (askC s c.attrs (proposeM s c.x c.attrs c.w).1 c.b) := by rw [← ea]; exact askM_I64 _ _ _ _ _
  repeat (any_goals (first
  | (with_reducible first|refine pureM_in ?_|((refine idGd ?_); refine zC ?_)|((refine idPick ?_); refine yC ?_)|((refine idCond ?_); refine yM ?_))
  | ((with_reducible refine idO ?_); (with_reducible refine oM_gen fun Kv hK=>?_); simp [go_sem, hk.cells, hp, ea2]; refine hK _ _ ?_; clear hK; clear Kv)))
  rw [ea]
  refine Grant_ok s c.x c.w _ hc'.x hc'.wn hci hs (fun w11 h11 => ?_)
  have hk := hk.next h11
  have hs := hs.next h11
  clear h11
  repeat (any_goals ((with_reducible refine idO ?_); (with_reducible refine oM_gen fun Kv hK=>?_); simp [go_sem, hk.cells]; refine hK _ _ ?_; clear hK; clear Kv))
  refine Finish_ok s (publicM s c.x) _ (proposeM s c.x c.attrs c.w).1 c.b (publicM_I64 _ _) (grantM_I64 _ _ _ _) hpo hs (hat.next hk.below) (hc'.b.next hk.below) (hL.below hk.below hL.size) (fun w12 h12 => ?_)
  have hk := hk.next h12
  have hs := hs.next h12
  clear h12
  have hown := (hh.grant hh.chal.2).2
  rw [hh.finish hi, if_pos hown, if_pos rfl]
  have hTR : TktR { askTkt s c.attrs (proposeM s c.x c.attrs c.w).1 c.b with r := plusQ s (mulQ s (grantM s c.x c.w (askC s c.attrs (proposeM s c.x c.attrs c.w).1 c.b)) [c.b.u]) c.b.v } :=
    have hA := askTkt_R s c.attrs (proposeM s c.x c.attrs c.w).1 c.b
    ⟨hA.mark, hA.first, hA.z, hA.a, hA.b, addM_I64 _ _ _⟩
  have hVT := hh.valid hi rfl
  have hAC : ∀ d, 1 ≤ d ∧ d < s.g.Q → acceptsM s ({ askTkt s c.attrs (proposeM s c.x c.attrs c.w).1 c.b with r := plusQ s (mulQ s (grantM s c.x c.w (askC s c.attrs (proposeM s c.x c.attrs c.w).1 c.b)) [c.b.u]) c.b.v } : Tkt) (useM s c.attrs c.b d).1 = true := fun d hd => hh.accept hd (hh.r_range _)
  generalize ({ askTkt s c.attrs (proposeM s c.x c.attrs c.w).1 c.b with r := plusQ s (mulQ s (grantM s c.x c.w (askC s c.attrs (proposeM s c.x c.attrs c.w).1 c.b)) [c.b.u]) c.b.v } : Tkt) = T at hVT hTR hAC ⊢
  iterate 2 (any_goals ((with_reducible refine idO ?_); (with_reducible refine oM_gen fun Kv hK=>?_); simp [go_sem]; refine hK _ _ ?_; clear hK; clear Kv))
  refine local_tkt _ hk (fun g3 w13 hk h13 hg3 => ?_)
  have hs := hs.next h13
  clear h13
  repeat (any_goals ((with_reducible refine idO ?_); (with_reducible refine oM_gen fun Kv hK=>?_); simp [go_sem, hk.cells]; refine hK _ _ ?_; clear hK; clear Kv))
  refine Finish_ok s (publicM s c.x) r (proposeM s c.x c.attrs c.w).1 c.b (publicM_I64 _ _) hr hpo hs (hat.next hk.below) (hc'.b.next hk.below) (hL.below hk.below hL.size) (fun w14 h14 => ?_)
  have hk := hk.next h14
  have hs := hs.next h14
  clear h14
  have hfin := hh.finish hi r
  generalize finishM s (publicM s c.x) c.attrs (proposeM s c.x c.attrs c.w).1 c.b r = fr at hfin ⊢
  obtain ⟨t2, e2⟩ := fr
  iterate 2 (any_goals ((with_reducible refine idO ?_); (with_reducible refine oM_gen fun Kv hK=>?_); simp [go_sem]; refine hK _ _ ?_; clear hK; clear Kv))
  refine local_tkt t2 hk (fun g4 w15 hk h15 hg4 => ?_)
  have hs := hs.next h15
  clear h15
  repeat (any_goals (first
  | (with_reducible first|refine pureM_in ?_|((refine idGd ?_); refine zC ?_))
  | ((with_reducible refine idO ?_); (with_reducible refine oM_gen fun Kv hK=>?_); simp [go_sem, hk.cells]; refine hK _ _ ?_; clear hK; clear Kv)))
  refine Valid_ok s _ T (publicM_I64 _ _) hTR hs (hL.below hk.below hL.size) (fun w16 h16 => ?_)
  have hk := hk.next h16
  have hs := hs.next h16
  clear h16
  rw [hVT]
  have hcs : (e2 = 0 ∧ r = grantM s c.x c.w (askC s c.attrs (proposeM s c.x c.attrs c.w).1 c.b) ∧ 0 ≤ r ∧ r < c.q) ∨ (e2 = 14 ∧ ¬ r = grantM s c.x c.w (askC s c.attrs (proposeM s c.x c.attrs c.w).1 c.b) ∧ 0 ≤ r ∧ r < c.q) ∨
      (e2 = 1 ∧ ¬ r = grantM s c.x c.w (askC s c.attrs (proposeM s c.x c.attrs c.w).1 c.b) ∧ r < 0) ∨ (e2 = 1 ∧ ¬ r = grantM s c.x c.w (askC s c.attrs (proposeM s c.x c.attrs c.w).1 c.b) ∧ 0 ≤ r ∧ c.q ≤ r) := by
    rw [← hq]
    by_cases h1 : 0 ≤ r ∧ r < s.g.Q
    · rw [if_pos h1] at hfin
      by_cases h2 : r = grantM s c.x c.w (askC s c.attrs (proposeM s c.x c.attrs c.w).1 c.b)
      · rw [if_pos h2] at hfin
        exact .inl ⟨congrArg Prod.snd hfin, h2, h1⟩
      · rw [if_neg h2] at hfin
        exact .inr (.inl ⟨congrArg Prod.snd hfin, h2, h1⟩)
    · rw [if_neg h1] at hfin
      have h2 : ¬ r = grantM s c.x c.w (askC s c.attrs (proposeM s c.x c.attrs c.w).1 c.b) := fun h => h1 (h ▸ hown)
      by_cases h3 : r < 0
      · exact .inr (.inr (.inl ⟨congrArg Prod.snd hfin, h2, h3⟩))
      · exact .inr (.inr (.inr ⟨congrArg Prod.snd hfin, h2, by omega, by omega⟩))
  generalize grantM s c.x c.w (askC s c.attrs (proposeM s c.x c.attrs c.w).1 c.b) = own at *
  clear hfin
  rcases hcs with ⟨rfl, h1, h2, h3⟩ | ⟨rfl, h1, h2, h3⟩ | ⟨rfl, h1, h2⟩ | ⟨rfl, h1, h2, h3⟩
  repeat (any_goals (first
  | (with_reducible first|refine pureM_in ?_|((refine idGd ?_); first|refine zC ?_|((refine idGdD ?_); refine zI ?_))|((refine idPick ?_); first|refine yC ?_|refine yE ?_)|((refine idCond ?_); first|refine yM ?_|refine yR ?_))
  | ((with_reducible refine idO ?_); (with_reducible refine oM_gen fun Kv hK=>?_); simp [go_sem, hk.cells, h1, h2, h3, Int.not_lt.mpr h2, Int.not_le.mpr h3]; refine hK _ _ ?_; clear hK; clear Kv)))
  rotate_left
  skip
  rotate_left
  repeat (any_goals (first
  | (with_reducible first|refine pureM_in ?_|((refine idGd ?_); first|refine zC ?_|refine zD ?_|((refine idGdD ?_); refine zI ?_))|((refine idPick ?_); first|refine yB ?_|refine yC ?_|refine yE ?_)|((refine idCond ?_); first|refine yM ?_|refine yR ?_))
  | ((with_reducible refine idO ?_); (with_reducible refine oM_gen fun Kv hK=>?_); simp [go_sem, hk.cells, h1, h2]; refine hK _ _ ?_; clear hK; clear Kv)))
  rotate_left
  skip
  rotate_left
  all_goals
    clear hf he hi ea2 ea hci hown
    refine Use_ok s c.b dare hd hs (hat.next hk.below) (hc'.b.next hk.below) (fun w17 uv h hu => ?_)
    have hk := hk.next h
    have hs := hs.next h
    clear h
    obtain ⟨uad, uc, rfl⟩ := hu.isSlice
    iterate 2 (any_goals ((with_reducible refine idO ?_); (with_reducible refine oM_gen fun Kv hK=>?_); simp [go_sem]; refine hK _ _ ?_; clear hK; clear Kv))
    refine local_spdK _ _ _ _ hk (fun g5 w18 hk h hg5 => ?_)
    have hs := hs.next h
    have hu := spd_R hd (hu.next h)
    clear h
    by_cases hd0 : dare < 1
    · have e := hh.use_no (d := dare) (by omega)
      repeat (any_goals (first
      | (with_reducible first|refine pureM_in ?_|((refine idGd ?_); first|refine zA ?_|refine zD ?_)|((refine idPick ?_); refine yB ?_)|((refine idCond ?_); refine yL ?_))
      | ((with_reducible refine idO ?_); (with_reducible refine oM_gen fun Kv hK=>?_); simp [go_sem, hk.cells, e, hd0]; refine hK _ _ ?_; clear hK; clear Kv)))
      exact k _ hk.below
    by_cases hd1 : c.q ≤ dare
    · have e := hh.use_no (d := dare) (by rw [hq]; omega)
      repeat (any_goals (first
      | (with_reducible first|refine pureM_in ?_|((refine idGd ?_); first|refine zA ?_|refine zC ?_)|((refine idPick ?_); first|refine yB ?_|refine yC ?_)|((refine idCond ?_); refine yL ?_))
      | ((with_reducible refine idO ?_); (with_reducible refine oM_gen fun Kv hK=>?_); simp [go_sem, hk.cells, e, hd0, hd1]; refine hK _ _ ?_; clear hK; clear Kv)))
      exact k _ hk.below
    have hdr : 1 ≤ dare ∧ dare < s.g.Q := by omega
    have e : (useM s c.attrs c.b dare).2 = true := by rw [hh.use_ok hdr]
    repeat (any_goals (first
    | (with_reducible first|refine pureM_in ?_|((refine idGd ?_); first|refine zA ?_|refine zC ?_|refine zV ?_)|((refine idPick ?_); first|refine yB ?_|refine yC ?_)|((refine idCond ?_); refine yM ?_))
    | ((with_reducible refine idO ?_); (with_reducible refine oM_gen fun Kv hK=>?_); simp [go_sem, hk.cells, e, hd0, hd1]; refine hK _ _ ?_; clear hK; clear Kv)))
    refine Accepts_ok s T _ hTR hs hu (fun w19 h => ?_)
    rw [hAC _ hdr]
    repeat (any_goals (with_reducible ((refine idPick ?_); refine yJ ?_)))
    exact k _ (hk.next h).below
end
end Go.Proofs
set_option linter.unusedVariables false
set_option maxRecDepth 100000
namespace Go.Proofs
open Go.Sh
def sh_5 (a0 : Value) (a1 : Value) (a2 : Value) (a3 : Value) (K : Value → World → Prop) (w : World) : Prop :=
 oM Tryz.prog (.box 63 (.tmp 0)) 0 [a0] (fun v4_1 w =>
 callM Tryz.prog 21 #[] (fun v22_2 w =>
 oM Tryz.prog (.load 63 (.tmp 0)) 63 [v4_1] (fun v24_3 w =>
 callM Tryz.prog 30 #[v24_3] (fun v25_4 w =>
 oM Tryz.prog (.extract (.tmp 0) 0) 32 [v25_4] (fun v26_5 w =>
 oM Tryz.prog (.extract (.tmp 0) 1) 39 [v25_4] (fun v27_6 w =>
 oM Tryz.prog (.extract (.tmp 0) 2) 41 [v25_4] (fun v28_7 w =>
 oM Tryz.prog (.extract (.tmp 0) 3) 4 [v25_4] (fun v29_8 w =>
 oM Tryz.prog (.alloc 32) 0 [] (fun v10_9 w =>
 oM Tryz.prog (.alloc 39) 0 [] (fun v11_10 w =>
 oM Tryz.prog (.alloc 41) 0 [] (fun v12_11 w =>
 oM Tryz.prog (.store 32 (.tmp 0) (.tmp 1)) 0 [v10_9, v26_5] (fun _ w =>
 oM Tryz.prog (.store 39 (.tmp 0) (.tmp 1)) 0 [v11_10, v27_6] (fun _ w =>
 oM Tryz.prog (.store 41 (.tmp 0) (.tmp 1)) 0 [v12_11, v28_7] (fun _ w =>
 oM Tryz.prog (.unOp .not 4 (.tmp 0)) 4 [v29_8] (fun v31_12 w =>
 gdM (gd v31_12 false) (pureM a3) (fun v33_13 w =>
 gdM (gd v31_12 false) (oM Tryz.prog (.call (Go.Call.mk (.builtin .len) #[(.tmp 0)] #[22])) 3 [v33_13]) (fun v34_14 w =>
 gdM (gd v31_12 false) (oM Tryz.prog (.binOp .gtr 3 (.tmp 0) (.tmp 1) 3) 4 [v34_14, (.int .i64 9)]) (fun v35_15 w =>
 oM Tryz.prog (.pick (.tmp 0) (.tmp 1) (.tmp 2)) 4 [v31_12, (.bool true), v35_15] (fun v36_16 w =>
 condM v36_16
 (K v22_2 w)
 (oM Tryz.prog (.load 32 (.tmp 0)) 32 [v10_9] (fun v39_17 w =>
 oM Tryz.prog (.fieldAddr 63 (.tmp 0) 4) 0 [v4_1] (fun v40_18 w =>
 oM Tryz.prog (.load 22 (.tmp 0)) 22 [v40_18] (fun v41_19 w =>
 oM Tryz.prog (.fieldAddr 63 (.tmp 0) 5) 0 [v4_1] (fun v42_20 w =>
 oM Tryz.prog (.load 45 (.tmp 0)) 45 [v42_20] (fun v43_21 w =>
 callM Tryz.prog 15 #[v39_17, v41_19, v43_21, a1] (fun v45_22 w =>
 oM Tryz.prog (.extract (.tmp 0) 0) 49 [v45_22] (fun v46_23 w =>
 oM Tryz.prog (.extract (.tmp 0) 1) 4 [v45_22] (fun v47_24 w =>
 oM Tryz.prog (.alloc 49) 0 [] (fun v14_25 w =>
 oM Tryz.prog (.store 49 (.tmp 0) (.tmp 1)) 0 [v14_25, v46_23] (fun _ w =>
 oM Tryz.prog (.load 32 (.tmp 0)) 32 [v10_9] (fun v49_26 w =>
 oM Tryz.prog (.fieldAddr 63 (.tmp 0) 4) 0 [v4_1] (fun v50_27 w =>
 oM Tryz.prog (.load 22 (.tmp 0)) 22 [v50_27] (fun v51_28 w =>
 oM Tryz.prog (.fieldAddr 63 (.tmp 0) 5) 0 [v4_1] (fun v52_29 w =>
 oM Tryz.prog (.load 45 (.tmp 0)) 45 [v52_29] (fun v53_30 w =>
 callM Tryz.prog 15 #[v49_26, v51_28, v53_30, a2] (fun v55_31 w =>
 oM Tryz.prog (.extract (.tmp 0) 0) 49 [v55_31] (fun v56_32 w =>
 oM Tryz.prog (.extract (.tmp 0) 1) 4 [v55_31] (fun v57_33 w =>
 oM Tryz.prog (.alloc 49) 0 [] (fun v16_34 w =>
 oM Tryz.prog (.store 49 (.tmp 0) (.tmp 1)) 0 [v16_34, v56_32] (fun _ w =>
 oM Tryz.prog (.unOp .not 4 (.tmp 0)) 4 [v47_24] (fun v59_35 w =>
 gdM (gd v59_35 false) (pureM v57_33) (fun v61_36 w =>
 gdM (gd v59_35 false) (oM Tryz.prog (.unOp .not 4 (.tmp 0)) 4 [v61_36]) (fun v62_37 w =>
 oM Tryz.prog (.pick (.tmp 0) (.tmp 1) (.tmp 2)) 4 [v59_35, (.bool true), v62_37] (fun v63_38 w =>
 condM v63_38
 (K v22_2 w)
 (oM Tryz.prog (.load 32 (.tmp 0)) 32 [v10_9] (fun v66_39 w =>
 oM Tryz.prog (.load 41 (.tmp 0)) 41 [v12_11] (fun v67_40 w =>
 oM Tryz.prog (.load 49 (.tmp 0)) 49 [v14_25] (fun v68_41 w =>
 oM Tryz.prog (.load 49 (.tmp 0)) 49 [v16_34] (fun v69_42 w =>
 callM Tryz.prog 31 #[v66_39, v67_40, v68_41, v69_42] (fun v70_43 w =>
 oM Tryz.prog (.extract (.tmp 0) 0) 22 [v70_43] (fun v71_44 w =>
 oM Tryz.prog (.extract (.tmp 0) 1) 4 [v70_43] (fun v72_45 w =>
 oM Tryz.prog (.load 32 (.tmp 0)) 32 [v10_9] (fun v74_46 w =>
 oM Tryz.prog (.load 41 (.tmp 0)) 41 [v12_11] (fun v75_47 w =>
 oM Tryz.prog (.load 49 (.tmp 0)) 49 [v16_34] (fun v76_48 w =>
 oM Tryz.prog (.load 49 (.tmp 0)) 49 [v14_25] (fun v77_49 w =>
 callM Tryz.prog 31 #[v74_46, v75_47, v76_48, v77_49] (fun v78_50 w =>
 oM Tryz.prog (.extract (.tmp 0) 0) 22 [v78_50] (fun v79_51 w =>
 oM Tryz.prog (.extract (.tmp 0) 1) 4 [v78_50] (fun v80_52 w =>
 oM Tryz.prog (.binOp .eql 3 (.tmp 0) (.tmp 1) 3) 4 [a1, a2] (fun v83_53 w =>
 condM v83_53
 (gdM (gd v22_2 true) (pureM v72_45) (fun v86_54 w =>
 gdM (gd v22_2 true) (oM Tryz.prog (.unOp .not 4 (.tmp 0)) 4 [v86_54]) (fun v87_55 w =>
 oM Tryz.prog (.pick (.tmp 0) (.tmp 1) (.tmp 2)) 4 [v22_2, v87_55, (.bool false)] (fun v88_56 w =>
 gdM (gd v88_56 true) (pureM v80_52) (fun v90_57 w =>
 gdM (gd v88_56 true) (oM Tryz.prog (.unOp .not 4 (.tmp 0)) 4 [v90_57]) (fun v91_58 w =>
 oM Tryz.prog (.pick (.tmp 0) (.tmp 1) (.tmp 2)) 4 [v88_56, v91_58, (.bool false)] (fun v92_59 w =>
 gdM (gd v92_59 true) (oM Tryz.prog (.load 49 (.tmp 0)) 49 [v14_25]) (fun v94_60 w =>
 gdM (gd v92_59 true) (oM Tryz.prog (.load 49 (.tmp 0)) 49 [v16_34]) (fun v95_61 w =>
 gdM (gd v92_59 true) (callM Tryz.prog 19 #[v94_60, v95_61]) (fun v96_62 w =>
 oM Tryz.prog (.pick (.tmp 0) (.tmp 1) (.tmp 2)) 4 [v92_59, v96_62, (.bool false)] (fun v97_63 w =>
 gdM (gd v97_63 true) (oM Tryz.prog (.load 32 (.tmp 0)) 32 [v10_9]) (fun v99_64 w =>
 gdM (gd v97_63 true) (oM Tryz.prog (.load 41 (.tmp 0)) 41 [v12_11]) (fun v100_65 w =>
 gdM (gd v97_63 true) (oM Tryz.prog (.load 49 (.tmp 0)) 49 [v14_25]) (fun v101_66 w =>
 gdM (gd v97_63 true) (oM Tryz.prog (.load 49 (.tmp 0)) 49 [v16_34]) (fun v102_67 w =>
 gdM (gd v97_63 true) (oM Tryz.prog (.fieldAddr 63 (.tmp 0) 4) 0 [v4_1]) (fun v103_68 w =>
 gdM (gd v97_63 true) (oM Tryz.prog (.load 22 (.tmp 0)) 22 [v103_68]) (fun v104_69 w =>
 gdM (gd v97_63 true) (callM Tryz.prog 32 #[v99_64, v100_65, v101_66, v102_67, v104_69]) (fun v105_70 w =>
 gdM (gd v97_63 true) (oM Tryz.prog (.unOp .not 4 (.tmp 0)) 4 [v105_70]) (fun v106_71 w =>
 oM Tryz.prog (.pick (.tmp 0) (.tmp 1) (.tmp 2)) 4 [v97_63, v106_71, (.bool false)] (fun v107_72 w =>
 K v107_72 w) w) w) w) w) w) w) w) w) w) w) w) w) w) w) w) w) w) w) w)
 (oM Tryz.prog (.unOp .not 4 (.tmp 0)) 4 [v72_45] (fun v109_73 w =>
 gdM (gd v109_73 false) (pureM v80_52) (fun v111_74 w =>
 gdM (gd v109_73 false) (oM Tryz.prog (.unOp .not 4 (.tmp 0)) 4 [v111_74]) (fun v112_75 w =>
 oM Tryz.prog (.pick (.tmp 0) (.tmp 1) (.tmp 2)) 4 [v109_73, (.bool true), v112_75] (fun v113_76 w =>
 gdM (gd v113_76 false) (pureM v71_44) (fun v115_77 w =>
 gdM (gd v113_76 false) (oM Tryz.prog (.fieldAddr 63 (.tmp 0) 4) 0 [v4_1]) (fun v116_78 w =>
 gdM (gd v113_76 false) (oM Tryz.prog (.load 22 (.tmp 0)) 22 [v116_78]) (fun v117_79 w =>
 gdM (gd v113_76 false) (callM Tryz.prog 33 #[v115_77, v117_79]) (fun v118_80 w =>
 gdM (gd v113_76 false) (oM Tryz.prog (.unOp .not 4 (.tmp 0)) 4 [v118_80]) (fun v119_81 w =>
 oM Tryz.prog (.pick (.tmp 0) (.tmp 1) (.tmp 2)) 4 [v113_76, (.bool true), v119_81] (fun v120_82 w =>
 gdM (gd v120_82 false) (pureM v79_51) (fun v122_83 w =>
 gdM (gd v120_82 false) (oM Tryz.prog (.fieldAddr 63 (.tmp 0) 4) 0 [v4_1]) (fun v123_84 w =>
 gdM (gd v120_82 false) (oM Tryz.prog (.load 22 (.tmp 0)) 22 [v123_84]) (fun v124_85 w =>
 gdM (gd v120_82 false) (callM Tryz.prog 33 #[v122_83, v124_85]) (fun v125_86 w =>
 gdM (gd v120_82 false) (oM Tryz.prog (.unOp .not 4 (.tmp 0)) 4 [v125_86]) (fun v126_87 w =>
 oM Tryz.prog (.pick (.tmp 0) (.tmp 1) (.tmp 2)) 4 [v120_82, (.bool true), v126_87] (fun v127_88 w =>
 gdM (gd v127_88 false) (oM Tryz.prog (.load 32 (.tmp 0)) 32 [v10_9]) (fun v129_89 w =>
 gdM (gd v127_88 false) (oM Tryz.prog (.load 41 (.tmp 0)) 41 [v12_11]) (fun v130_90 w =>
 gdM (gd v127_88 false) (oM Tryz.prog (.load 49 (.tmp 0)) 49 [v14_25]) (fun v131_91 w =>
 gdM (gd v127_88 false) (oM Tryz.prog (.load 49 (.tmp 0)) 49 [v16_34]) (fun v132_92 w =>
 gdM (gd v127_88 false) (oM Tryz.prog (.fieldAddr 63 (.tmp 0) 4) 0 [v4_1]) (fun v133_93 w =>
 gdM (gd v127_88 false) (oM Tryz.prog (.load 22 (.tmp 0)) 22 [v133_93]) (fun v134_94 w =>
 gdM (gd v127_88 false) (callM Tryz.prog 32 #[v129_89, v130_90, v131_91, v132_92, v134_94]) (fun v135_95 w =>
 gdM (gd v127_88 false) (oM Tryz.prog (.unOp .not 4 (.tmp 0)) 4 [v135_95]) (fun v136_96 w =>
 oM Tryz.prog (.pick (.tmp 0) (.tmp 1) (.tmp 2)) 4 [v127_88, (.bool true), v136_96] (fun v137_97 w =>
 condM v137_97
 (K (.bool false) w)
 (heldM w (fun C_98 w => (((true : Bool) = true) ∧ (pureH v22_2 C_98 (fun v138_99 =>
 pureH v138_99 C_98 (fun v139_100 =>
 gdH (gd v139_100 true) (oH Tryz.prog (.load 32 (.tmp 0)) 32 [v10_9]) C_98 (fun v140_101 =>
 gdH (gd v139_100 true) (oH Tryz.prog (.load 41 (.tmp 0)) 41 [v12_11]) C_98 (fun v141_102 =>
 gdH (gd v139_100 true) (oH Tryz.prog (.load 49 (.tmp 0)) 49 [v14_25]) C_98 (fun v142_103 =>
 gdH (gd v139_100 true) (oH Tryz.prog (.load 49 (.tmp 0)) 49 [v16_34]) C_98 (fun v143_104 =>
 gdH (gd v139_100 true) (pureH a3) C_98 (fun v144_105 =>
 gdH (gd v139_100 true) (pureH a3) C_98 (fun v146_106 =>
 gdH (gd v139_100 true) (oH Tryz.prog (.fieldAddr 63 (.tmp 0) 4) 0 [v4_1]) C_98 (fun v147_107 =>
 gdH (gd v139_100 true) (oH Tryz.prog (.load 22 (.tmp 0)) 22 [v147_107]) C_98 (fun v148_108 =>
 ∃ S_109 : World → World → Prop, ∃ R_110 : Value → World → Prop, (∀ v w w_1, S_109 w w_1 → R_110 v w → R_110 v w_1) ∧
 (∀ w, C_98 w → (gdM (gd v139_100 true) (callM Tryz.prog 32 #[v140_101, v141_102, v142_103, v143_104, v144_105]) (fun v w_1 => C_98 w_1 ∧ S_109 w w_1 ∧ R_110 v w_1) w)) ∧
 (∀ w, C_98 w → ∀ v145_111, R_110 v145_111 w → (
 gdM (gd v139_100 true) (callM Tryz.prog 33 #[v146_106, v148_108]) (fun v149_112 w =>
 gdM (gd v139_100 true) (oM Tryz.prog (.binOp .eql 4 (.tmp 0) (.tmp 1) 4) 4 [v145_111, v149_112]) (fun v150_113 w =>
 oM Tryz.prog (.pick (.tmp 0) (.tmp 1) (.tmp 2)) 4 [v139_100, v150_113, (.bool false)] (fun v151_114 w =>
 K v151_114 w) w) w) w))))))))))))))))) w) w) w) w) w) w) w) w) w) w) w) w) w) w) w) w) w) w) w) w) w) w) w) w) w)) w) w) w) w) w) w) w) w) w) w) w) w) w) w) w)) w) w) w) w) w) w) w) w) w) w) w) w) w) w) w) w) w) w) w) w) w) w) w) w)) w) w) w) w) w) w) w) w) w) w) w) w) w) w) w) w) w) w) w
theorem sh_5_eq (a0 : Value) (a1 : Value) (a2 : Value) (a3 : Value) (K : Value → World → Prop) (w : World) : sh_5 a0 a1 a2 a3 K w = code Tryz.prog (fun _ => .free [0, 1, 2, 3, 4, 5, 6, 8, 9, 10] [7] [11, 12, 13, 14]) 152 (Tryz.f5.body.getD .skip) (slotsAt [a0, a1, a2, a3]) (retK Tryz.prog [.tmp 8] K) w := by kernel_rfl
theorem sh_5_ok {a0 a1 a2 a3 : Value} {K : Value → World → Prop} {w : World} (h : sh_5 a0 a1 a2 a3 K w) : callM Tryz.prog 5 #[a0, a1, a2, a3] K w :=
  calls_of_code (fun _ => .free [0, 1, 2, 3, 4, 5, 6, 8, 9, 10] [7] [11, 12, 13, 14]) (fn := Tryz.f5) (rs := [.tmp 8]) Tryz.func5 rfl rfl (by kernel_rfl) (Nat.le_of_ble_eq_true rfl) ((sh_5_eq a0 a1 a2 a3 K w).mp h)
end Go.Proofs
namespace Go.Proofs
open Go Go.Sh Go.RowKit FdSpec TkSpec CodeSpec
set_option linter.unusedSimpArgs false
set_option linter.unusedVariables false
set_option maxRecDepth 10000
section
variable {K : Value → World → Prop} {w w0 : World} {L : List (Addr × Value)}
theorem exposes_ok (c : Cas) (one two : Int) {mv av yv lv : Value} {l : List Int} (h1 : I64 one) (h2 : I64 two) (hT : DbT w) (hL : Cd.Laid w) (hc : CasR w c mv av yv) (hl : Ints w lv l) (k : ∀ w', Below w.heap.size w w' → K (.bool true) w') :
    callM Tryz.prog 5 #[casV c mv av yv, .int .i64 one, .int .i64 two, lv] K w := by
  apply sh_5_ok
  unfold sh_5
  have hc' := hc
  have hl' := hl
  obtain ⟨mad, mc, rfl⟩ := hc.m.ints.isSlice
  obtain ⟨aad, ac, rfl⟩ := hc.attrs.isSlice
  obtain ⟨yad, yc, rfl⟩ := hc.b.ys.isSlice
  obtain ⟨lad, lc, rfl⟩ := hl.isSlice
  refine box_kn (cs := casC c (.slice mad c.m.bases.length mc) (.slice aad c.attrs.length ac) (.slice yad c.b.ys.length yc)) rfl (.start w) fun b1 W hk hb1 hbb => ?_
  clear hb1
  refine sane_ok (hT.next hk.below) (hL.below hk.below hL.size) (fun w1 h => ?_)
  have hk := hk.next h
  clear h
  repeat (any_goals ((with_reducible refine idO ?_); (with_reducible refine oM_gen fun Kv hK=>?_); simp [go_sem, hk.cells]; refine hK _ _ ?_; clear hK; clear Kv))
  refine issued_ok c (hT.next hk.below) (hL.below hk.below hL.size) (hc'.next hk.below) (fun w2 sv xv h hs hx ht => ?_)
  have hk := hk.next h
  clear h
  obtain ⟨sad, sc, rfl⟩ := hs.ints.isSlice
  obtain ⟨xad, xc, rfl⟩ := hx.attrs.isSlice
  iterate 4 (any_goals ((with_reducible refine idO ?_); (with_reducible refine oM_gen fun Kv hK=>?_); simp [go_sem]; refine hK _ _ ?_; clear hK; clear Kv))
  refine local3 _ _ _ _ _ _ _ _ _ hk (fun g1 g2 g3 w3 hk h => ?_)
  have hs := hs.next h
  clear h
  cases hok : (issuedM c).ok with
  | false =>
    repeat (any_goals (first
    | (with_reducible first|((refine idGd ?_); refine zD ?_)|((refine idPick ?_); refine yB ?_)|((refine idCond ?_); refine yL ?_))
    | ((with_reducible refine idO ?_); (with_reducible refine oM_gen fun Kv hK=>?_); simp [go_sem]; refine hK _ _ ?_; clear hK; clear Kv)))
    exact k _ hk.below
  | true =>
  obtain ⟨hsm, hmd, es, hh, hi, ex, et⟩ := issued_hon hok
  rw [es, et] at hk
  rw [es] at hs
  rw [et] at ht
  by_cases hln : l.length ≤ 9
  rotate_left
  · repeat (any_goals (first
    | (with_reducible first|refine pureM_in ?_|((refine idGd ?_); refine zC ?_)|((refine idPick ?_); refine yC ?_)|((refine idCond ?_); refine yN ?_))
    | ((with_reducible refine idO ?_); (with_reducible refine oM_gen fun Kv hK=>?_); simp [go_sem, Nat.not_le.mp hln, hln]; refine hK _ _ ?_; clear hK; clear Kv)))
    exact k _ hk.below
  repeat (any_goals (first
  | (with_reducible first|refine pureM_in ?_|((refine idGd ?_); refine zC ?_)|((refine idPick ?_); refine yC ?_)|((refine idCond ?_); refine yO ?_))
  | ((with_reducible refine idO ?_); (with_reducible refine oM_gen fun Kv hK=>?_); simp [go_sem, hk.cells, hln, Nat.not_lt.mpr hln]; refine hK _ _ ?_; clear hK; clear Kv)))
  refine Use_ok (madeM c).1 c.b one h1 hs (hc'.attrs.next hk.below) (hc'.b.next hk.below) (fun w4 uv h hu => ?_)
  have hk := hk.next h
  have hs := hs.next h
  clear h
  obtain ⟨uad, uc, rfl⟩ := hu.isSlice
  iterate 2 (any_goals ((with_reducible refine idO ?_); (with_reducible refine oM_gen fun Kv hK=>?_); simp [go_sem]; refine hK _ _ ?_; clear hK; clear Kv))
  refine local_spdK _ _ _ _ hk (fun g4 w5 hk h hg4 => ?_)
  have hs := hs.next h
  have hu := spd_R h1 (hu.next h)
  clear h
  repeat (any_goals ((with_reducible refine idO ?_); (with_reducible refine oM_gen fun Kv hK=>?_); simp [go_sem, hk.cells]; refine hK _ _ ?_; clear hK; clear Kv))
  refine Use_ok (madeM c).1 c.b two h2 hs (hc'.attrs.next hk.below) (hc'.b.next hk.below) (fun w6 vv h hv => ?_)
  have hk := hk.next h
  have hs := hs.next h
  have hu := hu.next h
  clear h
  obtain ⟨vad, vc, rfl⟩ := hv.isSlice
  iterate 2 (any_goals ((with_reducible refine idO ?_); (with_reducible refine oM_gen fun Kv hK=>?_); simp [go_sem]; refine hK _ _ ?_; clear hK; clear Kv))
  refine local_spdK _ _ _ _ hk (fun g5 w7 hk h hg5 => ?_)
  have hs := hs.next h
  have hu := hu.next h
  have hv := spd_R h2 (hv.next h)
  clear h
  by_cases hd : 1 ≤ one ∧ one < (madeM c).1.g.Q
  rotate_left
  · have e := hh.use_no hd
    repeat (any_goals (first
    | (with_reducible first|((refine idGd ?_); refine zD ?_)|((refine idPick ?_); refine yB ?_)|((refine idCond ?_); refine yL ?_))
    | ((with_reducible refine idO ?_); (with_reducible refine oM_gen fun Kv hK=>?_); simp [go_sem, hk.cells, e]; refine hK _ _ ?_; clear hK; clear Kv)))
    exact k _ hk.below
  have e1 : (useM (madeM c).1 c.attrs c.b one).2 = true := by rw [hh.use_ok hd]
  by_cases hd2 : 1 ≤ two ∧ two < (madeM c).1.g.Q
  rotate_left
  · have e := hh.use_no hd2
    repeat (any_goals (first
    | (with_reducible first|refine pureM_in ?_|((refine idGd ?_); refine zC ?_)|((refine idPick ?_); refine yC ?_)|((refine idCond ?_); refine yL ?_))
    | ((with_reducible refine idO ?_); (with_reducible refine oM_gen fun Kv hK=>?_); simp [go_sem, hk.cells, e1, e]; refine hK _ _ ?_; clear hK; clear Kv)))
    exact k _ hk.below
  have e2 : (useM (madeM c).1 c.attrs c.b two).2 = true := by rw [hh.use_ok hd2]
  repeat (any_goals (first
  | (with_reducible first|refine pureM_in ?_|((refine idGd ?_); refine zC ?_)|((refine idPick ?_); refine yC ?_)|((refine idCond ?_); refine yM ?_))
  | ((with_reducible refine idO ?_); (with_reducible refine oM_gen fun Kv hK=>?_); simp [go_sem, hk.cells, e1, e2]; refine hK _ _ ?_; clear hK; clear Kv)))
  refine Trace_ok (madeM c).1 _ _ _ ht hs hu hv (fun w8 o1 h ho1 => ?_)
  have hk := hk.next h
  have hs := hs.next h
  have hu := hu.next h
  have hv := hv.next h
  clear h
  repeat (any_goals ((with_reducible refine idO ?_); (with_reducible refine oM_gen fun Kv hK=>?_); simp [go_sem, hk.cells]; refine hK _ _ ?_; clear hK; clear Kv))
  refine Trace_ok (madeM c).1 _ _ _ ht hs hv hu (fun w9 o2 h ho2 => ?_)
  have hk := hk.next h
  have hs := hs.next h
  have hu := hu.next h
  have hv := hv.next h
  have ho1 := ho1.next h
  clear h
  have hTdef : TpA.hT (madeM c).1 c.attrs c.b c.x c.w = { askTkt (madeM c).1 c.attrs (proposeM (madeM c).1 c.x c.attrs c.w).1 c.b with r := plusQ (madeM c).1 (mulQ (madeM c).1 (grantM (madeM c).1 c.x c.w (askC (madeM c).1 c.attrs (proposeM (madeM c).1 c.x c.attrs c.w).1 c.b)) [c.b.u]) c.b.v } := rfl
  by_cases hne : one = two
  · subst hne
    have hn := TpA.same_no hh (T := TpA.hT (madeM c).1 c.attrs c.b c.x c.w) (u := (useM (madeM c).1 c.attrs c.b one).1) (v := (useM (madeM c).1 c.attrs c.b one).1) rfl c.attrs
    repeat (any_goals (first
    | (with_reducible first|refine pureM_in ?_|((refine idGd ?_); refine zA ?_)|((refine idPick ?_); refine yB ?_)|((refine idCond ?_); refine yL ?_))
    | ((with_reducible refine idO ?_); (with_reducible refine oM_gen fun Kv hK=>?_); simp [go_sem, hk.cells, hn.1]; refine hK _ _ ?_; clear hK; clear Kv)))
    refine SameSpend_ok _ _ hu hv (fun w10 h => ?_)
    have hk := hk.next h
    have hs := hs.next h
    have hu := hu.next h
    have hv := hv.next h
    clear h
    simp only [decide_true, Bool.and_self]
    repeat (any_goals (first
    | (with_reducible first|((refine idGd ?_); refine zA ?_)|((refine idPick ?_); refine yB ?_))
    | ((with_reducible refine idO ?_); (with_reducible refine oM_gen fun Kv hK=>?_); simp [go_sem, hk.cells]; refine hK _ _ ?_; clear hK; clear Kv)))
    refine Guilty_ok (madeM c).1 _ _ _ ht hs hu hv (hc'.attrs.next hk.below) (fun w11 h => ?_)
    have hk := hk.next h
    clear h
    repeat (any_goals (first
    | (with_reducible first|((refine idGd ?_); refine zA ?_)|((refine idPick ?_); refine yB ?_))
    | ((with_reducible refine idO ?_); (with_reducible refine oM_gen fun Kv hK=>?_); simp [go_sem, hn.2]; refine hK _ _ ?_; clear hK; clear Kv)))
    exact k _ hk.below
  have t1 := hh.trace hd hd2 hne (hh.r_range _) hTdef
  have t2 := hh.trace hd2 hd (fun e => hne e.symm) (hh.r_range _) hTdef
  have gy := hh.guilty hd hd2 hne (hh.r_range _) hTdef
  rw [t1] at ho1
  rw [t2] at ho2
  obtain ⟨o1d, o1c, rfl⟩ := ho1.isSlice
  obtain ⟨o2d, o2c, rfl⟩ := ho2.isSlice
  repeat (any_goals (first
  | (with_reducible first|refine pureM_in ?_|((refine idGd ?_); refine zC ?_)|((refine idPick ?_); refine yC ?_)|((refine idCond ?_); refine yM ?_))
  | ((with_reducible refine idO ?_); (with_reducible refine oM_gen fun Kv hK=>?_); simp [go_sem, hk.cells, t1, t2, hne]; refine hK _ _ ?_; clear hK; clear Kv)))
  refine Same_ok ho1 (hc'.attrs.next hk.below) (fun w10 h => ?_)
  have hk := hk.next h
  have hs := hs.next h
  have hu := hu.next h
  have hv := hv.next h
  have ho2 := ho2.next h
  clear h
  repeat (any_goals (first
  | (with_reducible first|refine pureM_in ?_|((refine idGd ?_); refine zC ?_)|((refine idPick ?_); refine yC ?_))
  | ((with_reducible refine idO ?_); (with_reducible refine oM_gen fun Kv hK=>?_); simp [go_sem, hk.cells]; refine hK _ _ ?_; clear hK; clear Kv)))
  refine Same_ok ho2 (hc'.attrs.next hk.below) (fun w11 h => ?_)
  have hk := hk.next h
  have hs := hs.next h
  have hu := hu.next h
  have hv := hv.next h
  clear h
  repeat (any_goals (first
  | (with_reducible first|((refine idGd ?_); refine zC ?_)|((refine idPick ?_); refine yC ?_))
  | ((with_reducible refine idO ?_); (with_reducible refine oM_gen fun Kv hK=>?_); simp [go_sem, hk.cells]; refine hK _ _ ?_; clear hK; clear Kv)))
  refine Guilty_ok (madeM c).1 _ _ _ ht hs hu hv (hc'.attrs.next hk.below) (fun w12 h => ?_)
  have hk := hk.next h
  have hs := hs.next h
  have hu := hu.next h
  have hv := hv.next h
  clear h
  rw [gy]
  repeat (any_goals (first
  | (with_reducible first|((refine idGd ?_); refine zC ?_)|((refine idPick ?_); refine yC ?_)|((refine idCond ?_); refine yM ?_))
  | ((with_reducible refine idO ?_); (with_reducible refine oM_gen fun Kv hK=>?_); simp [go_sem]; refine hK _ _ ?_; clear hK; clear Kv)))
  have hk := hk.drew
  have hs : SetR { w12 with drawn := w12.drawn + 1 } _ _ := hs.next (Below.refl _ w12).drew
  have hu : SpdR { w12 with drawn := w12.drawn + 1 } _ _ := hu.next (Below.refl _ w12).drew
  have hv : SpdR { w12 with drawn := w12.drawn + 1 } _ _ := hv.next (Below.refl _ w12).drew
  refine ⟨Nx { w12 with drawn := w12.drawn + 1 }, Below.refl _ _, rfl, ?_⟩
  generalize ({ w12 with drawn := w12.drawn + 1 } : World) = W at hk hs hu hv ⊢
  repeat (any_goals (first
  | (with_reducible first|refine pureH_in ?_|((refine idGdH ?_); refine gdH_conv fun _=>?_)|((refine idGd ?_); refine zA ?_))
  | ((with_reducible refine idOH ?_); (with_reducible refine oH_of ⟨_, rfl⟩ (fun W0 hW0 => by (refine oM_gen (fun Kv hK => ?_)); simp [go_sem, (hk.next hW0).cells]; (first | exact hK _ _ ⟨rfl, rfl⟩ | exact ⟨by omega, hK _ _ ⟨rfl, rfl⟩⟩)) ?_))))
  refine ⟨Nx, ?_⟩
  apply monoE
  · intro w1 h1
    repeat (any_goals (with_reducible ((refine idGd ?_); refine zA ?_)))
    exact Guilty_ok (madeM c).1 _ _ _ ht (hs.next h1) (hu.next h1) (hv.next h1) (hl'.next (hk.next h1).below) (fun w2 h2 => ⟨h1.on h2, h2, rfl⟩)
  rw [gy]
  (intro w9 h9; repeat (intro v9 e9; try (obtain rfl := e9)))
  have hk := hk.next h9
  clear h9
  repeat (any_goals (with_reducible ((refine idGd ?_); refine zA ?_)))
  refine Same_ok (hl'.next hk.below) (hc'.attrs.next hk.below) (fun w3 h => ?_)
  have hk := hk.next h
  clear h
  repeat (any_goals (first
  | (with_reducible first|((refine idGd ?_); refine zA ?_)|((refine idPick ?_); refine yB ?_))
  | ((with_reducible refine idO ?_); (with_reducible refine oM_gen fun Kv hK=>?_); simp [go_sem]; refine hK _ _ ?_; clear hK; clear Kv)))
  exact k _ hk.below
end
end Go.Proofs
set_option linter.unusedVariables false
set_option maxRecDepth 100000
namespace Go.Proofs
open Go.Sh
def sh_4 (a0 : Value) (a1 : Value) (a2 : Value) (a3 : Value) (a4 : Value) (a5 : Value) (a6 : Value) (a7 : Value) (K : Value → World → Prop) (w : World) : Prop :=
 oM Tryz.prog (.box 63 (.tmp 0)) 0 [a0] (fun v8_1 w =>
 callM Tryz.prog 21 #[] (fun v25_2 w =>
 oM Tryz.prog (.load 63 (.tmp 0)) 63 [v8_1] (fun v27_3 w =>
 callM Tryz.prog 22 #[v27_3] (fun v28_4 w =>
 oM Tryz.prog (.extract (.tmp 0) 0) 32 [v28_4] (fun v29_5 w =>
 oM Tryz.prog (.extract (.tmp 0) 1) 4 [v28_4] (fun v30_6 w =>
 oM Tryz.prog (.alloc 32) 0 [] (fun v18_7 w =>
 oM Tryz.prog (.store 32 (.tmp 0) (.tmp 1)) 0 [v18_7, v29_5] (fun _ w =>
 oM Tryz.prog (.load 63 (.tmp 0)) 63 [v8_1] (fun v31_8 w =>
 callM Tryz.prog 23 #[v31_8] (fun v32_9 w =>
 oM Tryz.prog (.unOp .not 4 (.tmp 0)) 4 [v32_9] (fun v33_10 w =>
 gdM (gd v33_10 false) (pureM v30_6) (fun v35_11 w =>
 gdM (gd v33_10 false) (oM Tryz.prog (.unOp .not 4 (.tmp 0)) 4 [v35_11]) (fun v36_12 w =>
 oM Tryz.prog (.pick (.tmp 0) (.tmp 1) (.tmp 2)) 4 [v33_10, (.bool true), v36_12] (fun v37_13 w =>
 gdM (gd v37_13 false) (pureM a1) (fun v39_14 w =>
 gdM (gd v37_13 false) (oM Tryz.prog (.binOp .lss 3 (.tmp 0) (.tmp 1) 3) 4 [v39_14, (.int .i64 1)]) (fun v40_15 w =>
 oM Tryz.prog (.pick (.tmp 0) (.tmp 1) (.tmp 2)) 4 [v37_13, (.bool true), v40_15] (fun v41_16 w =>
 gdM (gd v41_16 false) (pureM a1) (fun v43_17 w =>
 gdM (gd v41_16 false) (oM Tryz.prog (.fieldAddr 63 (.tmp 0) 0) 0 [v8_1]) (fun v44_18 w =>
 gdM (gd v41_16 false) (oM Tryz.prog (.load 3 (.tmp 0)) 3 [v44_18]) (fun v45_19 w =>
 gdM (gd v41_16 false) (oM Tryz.prog (.binOp .geq 3 (.tmp 0) (.tmp 1) 3) 4 [v43_17, v45_19]) (fun v46_20 w =>
 oM Tryz.prog (.pick (.tmp 0) (.tmp 1) (.tmp 2)) 4 [v41_16, (.bool true), v46_20] (fun v47_21 w =>
 gdM (gd v47_21 false) (pureM a7) (fun v49_22 w =>
 gdM (gd v47_21 false) (oM Tryz.prog (.binOp .lss 3 (.tmp 0) (.tmp 1) 3) 4 [v49_22, (.int .i64 0)]) (fun v50_23 w =>
 oM Tryz.prog (.pick (.tmp 0) (.tmp 1) (.tmp 2)) 4 [v47_21, (.bool true), v50_23] (fun v51_24 w =>
 gdM (gd v51_24 false) (pureM a7) (fun v53_25 w =>
 gdM (gd v51_24 false) (oM Tryz.prog (.fieldAddr 63 (.tmp 0) 0) 0 [v8_1]) (fun v54_26 w =>
 gdM (gd v51_24 false) (oM Tryz.prog (.load 3 (.tmp 0)) 3 [v54_26]) (fun v55_27 w =>
 gdM (gd v51_24 false) (oM Tryz.prog (.binOp .geq 3 (.tmp 0) (.tmp 1) 3) 4 [v53_25, v55_27]) (fun v56_28 w =>
 oM Tryz.prog (.pick (.tmp 0) (.tmp 1) (.tmp 2)) 4 [v51_24, (.bool true), v56_28] (fun v57_29 w =>
 condM v57_29
 (K v25_2 w)
 (oM Tryz.prog (.fieldAddr 32 (.tmp 0) 0) 0 [v18_7] (fun v59_30 w =>
 oM Tryz.prog (.load 30 (.tmp 0)) 30 [v59_30] (fun v60_31 w =>
 oM Tryz.prog (.alloc 30) 0 [] (fun v20_32 w =>
 oM Tryz.prog (.store 30 (.tmp 0) (.tmp 1)) 0 [v20_32, v60_31] (fun _ w =>
 heldM w (fun C_33 w => (((true : Bool) = true) ∧ (oH Tryz.prog (.load 30 (.tmp 0)) 30 [v20_32] C_33 (fun v61_34 =>
 oH Tryz.prog (.fieldAddr 30 (.tmp 0) 2) 0 [v20_32] C_33 (fun v62_35 =>
 oH Tryz.prog (.load 3 (.tmp 0)) 3 [v62_35] C_33 (fun v63_36 =>
 pureH a3 C_33 (fun v64_37 =>
 oH Tryz.prog (.load 30 (.tmp 0)) 30 [v20_32] C_33 (fun v66_38 =>
 oH Tryz.prog (.fieldAddr 30 (.tmp 0) 2) 0 [v20_32] C_33 (fun v67_39 =>
 oH Tryz.prog (.load 3 (.tmp 0)) 3 [v67_39] C_33 (fun v68_40 =>
 pureH a2 C_33 (fun v69_41 =>
 oH Tryz.prog (.load 30 (.tmp 0)) 30 [v20_32] C_33 (fun v71_42 =>
 oH Tryz.prog (.fieldAddr 30 (.tmp 0) 2) 0 [v20_32] C_33 (fun v72_43 =>
 oH Tryz.prog (.load 3 (.tmp 0)) 3 [v72_43] C_33 (fun v73_44 =>
 pureH a5 C_33 (fun v74_45 =>
 pureH a7 C_33 (fun v76_46 =>
 ∃ S_47 : World → World → Prop, ∃ R_48 : Value → World → Prop, (∀ v w w_1, S_47 w w_1 → R_48 v w → R_48 v w_1) ∧
 (∀ w, C_33 w → (callM Tryz.prog 24 #[v61_34, v63_36, v64_37] (fun v w_1 => C_33 w_1 ∧ S_47 w w_1 ∧ R_48 v w_1) w)) ∧
 (∃ R_49 : Value → World → Prop, (∀ v w w_1, S_47 w w_1 → R_49 v w → R_49 v w_1) ∧
 (∀ w, C_33 w → (callM Tryz.prog 24 #[v66_38, v68_40, v69_41] (fun v w_1 => C_33 w_1 ∧ S_47 w w_1 ∧ R_49 v w_1) w)) ∧
 (∃ R_50 : Value → World → Prop, (∀ v w w_1, S_47 w w_1 → R_50 v w → R_50 v w_1) ∧
 (∀ w, C_33 w → (callM Tryz.prog 24 #[v71_42, v73_44, v74_45] (fun v w_1 => C_33 w_1 ∧ S_47 w w_1 ∧ R_50 v w_1) w)) ∧
 (∃ R_51 : Value → World → Prop, (∀ v w w_1, S_47 w w_1 → R_51 v w → R_51 v w_1) ∧
 (∀ w, C_33 w → ∀ v65_52, R_48 v65_52 w → ∀ v70_53, R_49 v70_53 w → ∀ v75_54, R_50 v75_54 w → (oM Tryz.prog (.build 41 #[(0, (.tmp 0)), (1, (.tmp 1)), (3, (.tmp 2)), (5, (.tmp 3))]) 41 [v65_52, v70_53, v75_54, v76_46] (fun v w_1 => C_33 w_1 ∧ S_47 w w_1 ∧ R_51 v w_1) w)) ∧
 (∃ R_55 : Value → World → Prop, (∀ v w w_1, S_47 w w_1 → R_55 v w → R_55 v w_1) ∧
 (∀ w, C_33 w → (oM Tryz.prog (.alloc 41) 0 [] (fun v w_1 => C_33 w_1 ∧ S_47 w w_1 ∧ R_55 v w_1) w)) ∧
 (∀ w, C_33 w → ∀ v65_56, R_48 v65_56 w → ∀ v70_57, R_49 v70_57 w → ∀ v75_58, R_50 v75_58 w → ∀ v77_59, R_51 v77_59 w → ∀ v21_60, R_55 v21_60 w → (
 oM Tryz.prog (.store 41 (.tmp 0) (.tmp 1)) 0 [v21_60, v77_59] (fun _ w =>
 oM Tryz.prog (.load 30 (.tmp 0)) 30 [v20_32] (fun v78_61 w =>
 oM Tryz.prog (.fieldAddr 41 (.tmp 0) 0) 0 [v21_60] (fun v79_62 w =>
 oM Tryz.prog (.load 3 (.tmp 0)) 3 [v79_62] (fun v80_63 w =>
 callM Tryz.prog 24 #[v78_61, v80_63, a4] (fun v82_64 w =>
 oM Tryz.prog (.fieldAddr 41 (.tmp 0) 2) 0 [v21_60] (fun v83_65 w =>
 oM Tryz.prog (.store 3 (.tmp 0) (.tmp 1)) 0 [v83_65, v82_64] (fun _ w =>
 oM Tryz.prog (.load 30 (.tmp 0)) 30 [v20_32] (fun v84_66 w =>
 oM Tryz.prog (.fieldAddr 41 (.tmp 0) 0) 0 [v21_60] (fun v85_67 w =>
 oM Tryz.prog (.load 3 (.tmp 0)) 3 [v85_67] (fun v86_68 w =>
 callM Tryz.prog 24 #[v84_66, v86_68, a6] (fun v88_69 w =>
 oM Tryz.prog (.fieldAddr 41 (.tmp 0) 4) 0 [v21_60] (fun v89_70 w =>
 oM Tryz.prog (.store 3 (.tmp 0) (.tmp 1)) 0 [v89_70, v88_69] (fun _ w =>
 oM Tryz.prog (.load 32 (.tmp 0)) 32 [v18_7] (fun v90_71 w =>
 oM Tryz.prog (.load 41 (.tmp 0)) 41 [v21_60] (fun v91_72 w =>
 callM Tryz.prog 25 #[v90_71, v91_72] (fun v92_73 w =>
 heldM w (fun C_74 w => (((true : Bool) = true) ∧ (oH Tryz.prog (.fieldAddr 63 (.tmp 0) 0) 0 [v8_1] C_74 (fun v93_75 =>
 oH Tryz.prog (.load 3 (.tmp 0)) 3 [v93_75] C_74 (fun v94_76 =>
 oH Tryz.prog (.fieldAddr 63 (.tmp 0) 0) 0 [v8_1] C_74 (fun v95_77 =>
 oH Tryz.prog (.load 3 (.tmp 0)) 3 [v95_77] C_74 (fun v96_78 =>
 pureH v92_73 C_74 (fun v97_79 =>
 pureH a1 C_74 (fun v98_80 =>
 pureH a5 C_74 (fun v100_81 =>
 pureH a7 C_74 (fun v102_82 =>
 ∃ S_83 : World → World → Prop, ∃ R_84 : Value → World → Prop, (∀ v w w_1, S_83 w w_1 → R_84 v w → R_84 v w_1) ∧
 (∀ w, C_74 w → (callM Tryz.prog 27 #[v96_78, v97_79, v98_80] (fun v w_1 => C_74 w_1 ∧ S_83 w w_1 ∧ R_84 v w_1) w)) ∧
 (∃ R_85 : Value → World → Prop, (∀ v w w_1, S_83 w w_1 → R_85 v w → R_85 v w_1) ∧
 (∀ w, C_74 w → ∀ v99_86, R_84 v99_86 w → (callM Tryz.prog 26 #[v94_76, v99_86, v100_81] (fun v w_1 => C_74 w_1 ∧ S_83 w w_1 ∧ R_85 v w_1) w)) ∧
 (∀ w, C_74 w → ∀ v99_87, R_84 v99_87 w → ∀ v101_88, R_85 v101_88 w → (
 oM Tryz.prog (.binOp .eql 3 (.tmp 0) (.tmp 1) 3) 4 [v101_88, v102_82] (fun v103_89 w =>
 heldM w (fun C_90 w => (((true : Bool) = true) ∧ (oH Tryz.prog (.fieldAddr 63 (.tmp 0) 0) 0 [v8_1] C_90 (fun v104_91 =>
 oH Tryz.prog (.load 3 (.tmp 0)) 3 [v104_91] C_90 (fun v105_92 =>
 pureH v92_73 C_90 (fun v106_93 =>
 oH Tryz.prog (.fieldAddr 63 (.tmp 0) 0) 0 [v8_1] C_90 (fun v107_94 =>
 oH Tryz.prog (.load 3 (.tmp 0)) 3 [v107_94] C_90 (fun v108_95 =>
 pureH a1 C_90 (fun v109_96 =>
 pureH a4 C_90 (fun v110_97 =>
 oH Tryz.prog (.fieldAddr 63 (.tmp 0) 0) 0 [v8_1] C_90 (fun v113_98 =>
 oH Tryz.prog (.load 3 (.tmp 0)) 3 [v113_98] C_90 (fun v114_99 =>
 pureH a6 C_90 (fun v115_100 =>
 pureH a5 C_90 (fun v116_101 =>
 ∃ S_102 : World → World → Prop, ∃ R_103 : Value → World → Prop, (∀ v w w_1, S_102 w w_1 → R_103 v w → R_103 v w_1) ∧
 (∀ w, C_90 w → (callM Tryz.prog 28 #[v108_95, v109_96, v110_97] (fun v w_1 => C_90 w_1 ∧ S_102 w w_1 ∧ R_103 v w_1) w)) ∧
 (∃ R_104 : Value → World → Prop, (∀ v w w_1, S_102 w w_1 → R_104 v w → R_104 v w_1) ∧
 (∀ w, C_90 w → ∀ v111_105, R_103 v111_105 w → (callM Tryz.prog 27 #[v105_92, v106_93, v111_105] (fun v w_1 => C_90 w_1 ∧ S_102 w w_1 ∧ R_104 v w_1) w)) ∧
 (∀ w, C_90 w → ∀ v111_106, R_103 v111_106 w → ∀ v112_107, R_104 v112_107 w → (
 callM Tryz.prog 28 #[v114_99, v115_100, v116_101] (fun v117_108 w =>
 oM Tryz.prog (.binOp .eql 3 (.tmp 0) (.tmp 1) 3) 4 [v112_107, v117_108] (fun v118_109 w =>
 heldM w (fun C_110 w => (((true : Bool) = true) ∧ (pureH v25_2 C_110 (fun v119_111 =>
 pureH v119_111 C_110 (fun v120_112 =>
 gdH (gd v120_112 true) (oH Tryz.prog (.load 32 (.tmp 0)) 32 [v18_7]) C_110 (fun v121_113 =>
 gdH (gd v120_112 true) (oH Tryz.prog (.load 32 (.tmp 0)) 32 [v18_7]) C_110 (fun v122_114 =>
 gdH (gd v120_112 true) (pureH a1) C_110 (fun v123_115 =>
 gdH (gd v120_112 true) (oH Tryz.prog (.load 41 (.tmp 0)) 41 [v21_60]) C_110 (fun v125_116 =>
 gdH (gd v120_112 true) (pureH v92_73) C_110 (fun v127_117 =>
 gdH (gd v120_112 true) (oH Tryz.prog (.binOp .neq 3 (.tmp 0) (.const (.int .i64 0)) 3) 4 [v127_117]) C_110 (fun v128_118 =>
 ∃ S_119 : World → World → Prop, ∃ R_120 : Value → World → Prop, (∀ v w w_1, S_119 w w_1 → R_120 v w → R_120 v w_1) ∧
 (∀ w, C_110 w → (gdM (gd v120_112 true) (callM Tryz.prog 13 #[v122_114, v123_115]) (fun v w_1 => C_110 w_1 ∧ S_119 w w_1 ∧ R_120 v w_1) w)) ∧
 (∃ R_121 : Value → World → Prop, (∀ v w w_1, S_119 w w_1 → R_121 v w → R_121 v w_1) ∧
 (∀ w, C_110 w → ∀ v124_122, R_120 v124_122 w → (gdM (gd v120_112 true) (callM Tryz.prog 29 #[v121_113, v124_122, v125_116]) (fun v w_1 => C_110 w_1 ∧ S_119 w w_1 ∧ R_121 v w_1) w)) ∧
 (∀ w, C_110 w → ∀ v124_123, R_120 v124_123 w → ∀ v126_124, R_121 v126_124 w → (
 gdM (gd v120_112 true) (pureM v128_118) (fun v129_125 w =>
 gdM (gd v129_125 true) (pureM v103_89) (fun v130_126 w =>
 gdM (gd v120_112 true) (oM Tryz.prog (.pick (.tmp 0) (.tmp 1) (.tmp 2)) 4 [v129_125, v130_126, (.bool false)]) (fun v131_127 w =>
 gdM (gd v120_112 true) (pureM v131_127) (fun v132_128 w =>
 gdM (gd v132_128 true) (pureM v118_109) (fun v133_129 w =>
 gdM (gd v120_112 true) (oM Tryz.prog (.pick (.tmp 0) (.tmp 1) (.tmp 2)) 4 [v132_128, v133_129, (.bool false)]) (fun v134_130 w =>
 gdM (gd v120_112 true) (oM Tryz.prog (.binOp .eql 4 (.tmp 0) (.tmp 1) 4) 4 [v126_124, v134_130]) (fun v135_131 w =>
 oM Tryz.prog (.pick (.tmp 0) (.tmp 1) (.tmp 2)) 4 [v120_112, v135_131, (.bool false)] (fun v136_132 w =>
 K v136_132 w) w) w) w) w) w) w) w) w))))))))))))))) w) w)))))))))))))))))) w))))))))))))))) w) w) w) w) w) w) w) w) w) w) w) w) w) w) w) w))))))))))))))))))))))) w) w) w) w)) w) w) w) w) w) w) w) w) w) w) w) w) w) w) w) w) w) w) w) w) w) w) w) w) w) w) w) w) w) w
theorem sh_4_eq (a0 : Value) (a1 : Value) (a2 : Value) (a3 : Value) (a4 : Value) (a5 : Value) (a6 : Value) (a7 : Value) (K : Value → World → Prop) (w : World) : sh_4 a0 a1 a2 a3 a4 a5 a6 a7 K w = code Tryz.prog (fun i => bif Nat.beq i 6 then .free [0, 1, 2, 3, 5, 6, 7, 8, 10, 11, 12, 13, 15] [4, 9, 14, 16, 17] [18] else bif Nat.beq i 10 then .free [0, 1, 2, 3, 4, 5, 7, 9] [6, 8] [10, 11] else bif Nat.beq i 11 then .free [0, 1, 2, 3, 4, 5, 6, 9, 10, 11, 12] [7, 8] [13, 14, 15] else bif Nat.beq i 12 then .free [0, 1, 2, 3, 4, 6, 8, 9] [5, 7] [10, 11, 12, 13, 14, 15, 16, 17, 18] else 0) 137 (Tryz.f4.body.getD .skip) (slotsAt [a0, a1, a2, a3, a4, a5, a6, a7]) (retK Tryz.prog [.tmp 16] K) w := by kernel_rfl
theorem sh_4_ok {a0 a1 a2 a3 a4 a5 a6 a7 : Value} {K : Value → World → Prop} {w : World} (h : sh_4 a0 a1 a2 a3 a4 a5 a6 a7 K w) : callM Tryz.prog 4 #[a0, a1, a2, a3, a4, a5, a6, a7] K w :=
  calls_of_code (fun i => bif Nat.beq i 6 then .free [0, 1, 2, 3, 5, 6, 7, 8, 10, 11, 12, 13, 15] [4, 9, 14, 16, 17] [18] else bif Nat.beq i 10 then .free [0, 1, 2, 3, 4, 5, 7, 9] [6, 8] [10, 11] else bif Nat.beq i 11 then .free [0, 1, 2, 3, 4, 5, 6, 9, 10, 11, 12] [7, 8] [13, 14, 15] else bif Nat.beq i 12 then .free [0, 1, 2, 3, 4, 6, 8, 9] [5, 7] [10, 11, 12, 13, 14, 15, 16, 17, 18] else 0) (fn := Tryz.f4) (rs := [.tmp 16]) Tryz.func4 rfl rfl (by kernel_rfl) (Nat.le_of_ble_eq_true rfl) ((sh_4_eq a0 a1 a2 a3 a4 a5 a6 a7 K w).mp h)
end Go.Proofs
namespace Go.Proofs
open Go Go.Sh Go.RowKit FdSpec TkSpec CodeSpec
set_option linter.unusedSimpArgs false
set_option linter.unusedVariables false
set_option maxRecDepth 10000
section
variable {K : Value → World → Prop} {w w0 : World} {L : List (Addr × Value)}
theorem build_tkt4 (T : TypeId) (m f a r : Int) : oM Tryz.prog (Go.Op.build 41 #[(0, (.tmp 0)), (1, (.tmp 1)), (3, (.tmp 2)), (5, (.tmp 3))]) T [.int .i64 m, .int .i64 f, .int .i64 a, .int .i64 r] = pureM (tktV ⟨m, f, 0, a, 0, r⟩) := by
  funext K w
  kernel_rfl
theorem local_grpK {K : Value → World → Prop} {T' T2 : TypeId} (t : Grp) (hk : Kn w0 L w)
    (k : ∀ b W, Kn w0 (cellsOf L b 0 (grpC t)) W → Below w.heap.size w W → w.heap.size ≤ b → K (.pointer (some ⟨b, 0, none⟩)) W) :
    oM Tryz.prog (.alloc 30) T' [] (fun v w => oM Tryz.prog (.store 30 (.tmp 0) (.tmp 1)) T2 [v, grpV t] (fun _ w => K v w) w) w :=
  local_kn al_grp rfl sz_grp rfl rfl (grp_one t) hk k
theorem sound_ok (c : Cas) (x first mark z a b r : Int) {mv av yv : Value} (hx : I64 x) (hr : I64 r) (hT : DbT w) (hL : Cd.Laid w) (hc : CasR w c mv av yv) (k : ∀ w', Below w.heap.size w w' → K (.bool true) w') :
    callM Tryz.prog 4 #[casV c mv av yv, .int .i64 x, .int .i64 first, .int .i64 mark, .int .i64 z, .int .i64 a, .int .i64 b, .int .i64 r] K w := by
  apply sh_4_ok
  unfold sh_4
  have hc' := hc
  obtain ⟨mad, mc, rfl⟩ := hc.m.ints.isSlice
  obtain ⟨aad, ac, rfl⟩ := hc.attrs.isSlice
  obtain ⟨yad, yc, rfl⟩ := hc.b.ys.isSlice
  refine box_kn (cs := casC c (.slice mad c.m.bases.length mc) (.slice aad c.attrs.length ac) (.slice yad c.b.ys.length yc)) rfl (.start w) fun b1 W hk hb1 hbb => ?_
  clear hb1
  refine sane_ok (hT.next hk.below) (hL.below hk.below hL.size) (fun w1 h => ?_)
  have hk := hk.next h
  clear h
  repeat (any_goals ((with_reducible refine idO ?_); (with_reducible refine oM_gen fun Kv hK=>?_); simp [go_sem, hk.cells]; refine hK _ _ ?_; clear hK; clear Kv))
  refine made_ok c (hT.next hk.below) (hc'.next hk.below) (fun w4 sv h4 hs _ => ?_)
  have hk := hk.next h4
  clear h4
  obtain ⟨sad, sc, rfl⟩ := hs.ints.isSlice
  iterate 2 (any_goals ((with_reducible refine idO ?_); (with_reducible refine oM_gen fun Kv hK=>?_); simp [go_sem]; refine hK _ _ ?_; clear hK; clear Kv))
  refine local_stpK _ _ _ _ hk (fun g1 w5 hk h5 hg1 => ?_)
  have hs := hs.next h5
  clear h5
  repeat (any_goals ((with_reducible refine idO ?_); (with_reducible refine oM_gen fun Kv hK=>?_); simp [go_sem, hk.cells]; refine hK _ _ ?_; clear hK; clear Kv))
  refine small_ok c (hc'.next hk.below) (fun w6 h6 => ?_)
  have hk := hk.next h6
  have hs := hs.next h6
  clear h6
  cases hsm : smallM c with
  | false =>
    repeat (any_goals (first
    | (with_reducible first|((refine idGd ?_); refine zD ?_)|((refine idPick ?_); refine yB ?_)|((refine idCond ?_); refine yL ?_))
    | ((with_reducible refine idO ?_); (with_reducible refine oM_gen fun Kv hK=>?_); simp [go_sem]; refine hK _ _ ?_; clear hK; clear Kv)))
    exact k _ hk.below
  | true =>
  cases hmd : (madeM c).2 with
  | false =>
    repeat (any_goals (first
    | (with_reducible first|refine pureM_in ?_|((refine idGd ?_); first|refine zC ?_|refine zD ?_)|((refine idPick ?_); first|refine yB ?_|refine yC ?_)|((refine idCond ?_); refine yL ?_))
    | ((with_reducible refine idO ?_); (with_reducible refine oM_gen fun Kv hK=>?_); simp [go_sem]; refine hK _ _ ?_; clear hK; clear Kv)))
    exact k _ hk.below
  | true =>
  obtain ⟨hmdd, hq⟩ := made_of hmd
  generalize (madeM c).1 = s at *
  by_cases hx1 : x < 1
  · repeat (any_goals (first
    | (with_reducible first|refine pureM_in ?_|((refine idGd ?_); first|refine zC ?_|refine zD ?_)|((refine idPick ?_); first|refine yB ?_|refine yC ?_)|((refine idCond ?_); refine yL ?_))
    | ((with_reducible refine idO ?_); (with_reducible refine oM_gen fun Kv hK=>?_); simp [go_sem, hk.cells, hx1]; refine hK _ _ ?_; clear hK; clear Kv)))
    exact k _ hk.below
  by_cases hx2 : c.q ≤ x
  · repeat (any_goals (first
    | (with_reducible first|refine pureM_in ?_|((refine idGd ?_); first|refine zC ?_|refine zD ?_)|((refine idPick ?_); first|refine yB ?_|refine yC ?_)|((refine idCond ?_); refine yL ?_))
    | ((with_reducible refine idO ?_); (with_reducible refine oM_gen fun Kv hK=>?_); simp [go_sem, hk.cells, hx1, hx2]; refine hK _ _ ?_; clear hK; clear Kv)))
    exact k _ hk.below
  by_cases hr1 : r < 0
  · repeat (any_goals (first
    | (with_reducible first|refine pureM_in ?_|((refine idGd ?_); first|refine zC ?_|refine zD ?_)|((refine idPick ?_); first|refine yB ?_|refine yC ?_)|((refine idCond ?_); refine yL ?_))
    | ((with_reducible refine idO ?_); (with_reducible refine oM_gen fun Kv hK=>?_); simp [go_sem, hk.cells, hx1, hx2, hr1]; refine hK _ _ ?_; clear hK; clear Kv)))
    exact k _ hk.below
  by_cases hr2 : c.q ≤ r
  · repeat (any_goals (first
    | (with_reducible first|refine pureM_in ?_|((refine idGd ?_); refine zC ?_)|((refine idPick ?_); refine yC ?_)|((refine idCond ?_); refine yL ?_))
    | ((with_reducible refine idO ?_); (with_reducible refine oM_gen fun Kv hK=>?_); simp [go_sem, hk.cells, hx1, hx2, hr1, hr2]; refine hK _ _ ?_; clear hK; clear Kv)))
    exact k _ hk.below
  repeat (any_goals (first
  | ((with_reducible refine local_grpK s.g hk ?_); intro g2 w7 hk h hg2)
  | (with_reducible first|refine pureM_in ?_|((refine idGd ?_); refine zC ?_)|((refine idPick ?_); refine yC ?_)|((refine idCond ?_); refine yM ?_))
  | ((with_reducible refine idO ?_); (with_reducible refine oM_gen fun Kv hK=>?_); simp [go_sem, hk.cells, hx1, hx2, hr1, hr2]; refine hK _ _ ?_; clear hK; clear Kv)))
  have hk := hk.drew
  have hs : SetR { w7 with drawn := w7.drawn + 1 } _ _ := (hs.next h).next (Below.refl _ w7).drew
  clear h
  refine ⟨Nx { w7 with drawn := w7.drawn + 1 }, Below.refl _ _, rfl, ?_⟩
  generalize ({ w7 with drawn := w7.drawn + 1 } : World) = W at hk hs ⊢
  repeat (any_goals (first
  | (with_reducible refine pureH_in ?_)
  | ((with_reducible refine idOH ?_); (with_reducible refine oH_of ⟨_, rfl⟩ (fun W0 hW0 => by (refine oM_gen (fun Kv hK => ?_)); simp [go_sem, (hk.next hW0).cells]; (first | exact hK _ _ ⟨rfl, rfl⟩ | exact ⟨by omega, hK _ _ ⟨rfl, rfl⟩⟩)) ?_))))
  refine ⟨Nx, ?_⟩
  apply monoE
  · intro w1 h1
    exact Power_ok s.g _ _ (fun w2 h2 => ⟨h1.on h2, h2, rfl⟩)
  apply monoE
  · intro w1 h1
    exact Power_ok s.g _ _ (fun w2 h2 => ⟨h1.on h2, h2, rfl⟩)
  apply monoE
  · intro w1 h1
    exact Power_ok s.g _ _ (fun w2 h2 => ⟨h1.on h2, h2, rfl⟩)
  apply monoE
  · rintro w1 h1 _ rfl _ rfl _ rfl
    rw [build_tkt4]
    exact ⟨h1, Below.refl _ _, rfl⟩
  refine monoR (fun v w' => ∃ g2, v = ptr g2 0 ∧ W.heap.size ≤ g2 ∧ Holds w' g2 41 (tktC zT)) (fun v w w1 hS h => h.imp fun g2 h => ⟨h.1, h.2.1, h.2.2.next hS⟩) ?_ ?_
  · intro w1 h1
    exact arr_alloc al_tkt (fun g2 w2 h2 hg2 hh => ⟨h1.on h2, h2, g2, rfl, Nat.le_trans h1.size hg2, hh⟩)
  rintro w9 h9 _ rfl _ rfl _ rfl _ rfl v9 ⟨g9, rfl, hg9, hh⟩
  refine arr_store sz_tkt rfl rfl (tkt_one _) hh rfl (fun w10 hg10 hh => ?_)
  have h10 := grown_below h9 hg10 hg9
  clear hg10 h9
  repeat (any_goals ((with_reducible refine idO ?_); (with_reducible refine oM_gen fun Kv hK=>?_); simp [go_sem, (hk.next h10).cells, hh.are]; refine hK _ _ ?_; clear hK; clear Kv))
  refine Power_ok s.g _ _ (fun w11 h => ?_)
  have hh := hh.next h
  have h10 := h10.on h
  clear h
  repeat (any_goals ((with_reducible refine idO ?_); (with_reducible refine oM_gen fun Kv hK=>?_); simp [go_sem]; refine hK _ _ ?_; clear hK; clear Kv))
  refine arr_set (i := 2) sz_int rfl rfl hh (show 2 < 6 by decide) (fun w12 hg12 hh => ?_)
  have h10 := grown_below h10 hg12 hg9
  clear hg12
  have hh : Holds w12 g9 41 (tktC ⟨powerG s.g s.g.G mark, powerG s.g s.g.G first, powerG s.g (powerG s.g s.g.G mark) z, powerG s.g s.g.G a, 0, r⟩) := hh
  repeat (any_goals ((with_reducible refine idO ?_); (with_reducible refine oM_gen fun Kv hK=>?_); simp [go_sem, (hk.next h10).cells, hh.are]; refine hK _ _ ?_; clear hK; clear Kv))
  refine Power_ok s.g _ _ (fun w13 h => ?_)
  have hh := hh.next h
  have h10 := h10.on h
  clear h
  repeat (any_goals ((with_reducible refine idO ?_); (with_reducible refine oM_gen fun Kv hK=>?_); simp [go_sem]; refine hK _ _ ?_; clear hK; clear Kv))
  refine arr_set (i := 4) sz_int rfl rfl hh (show 4 < 6 by decide) (fun w14 hg14 hh => ?_)
  have h10 := grown_below h10 hg14 hg9
  clear hg14
  have hh : Holds w14 g9 41 (tktC (TpA.sndT s.g first mark z a b r)) := hh
  have hk := hk.next h10
  have hs := hs.next h10
  have hk : Kn w (cellsOf (cellsOf (cellsOf (cellsOf [] b1 0 (casC c (.slice mad c.m.bases.length mc) (.slice aad c.attrs.length ac) (.slice yad c.b.ys.length yc))) g1 0 (stpC s (.slice sad s.bases.length sc))) g2 0 (grpC s.g)) g9 0 (tktC (TpA.sndT s.g first mark z a b r))) w14 :=
    ⟨hk.below, cellsOf_are (xs := tktC (TpA.sndT s.g first mark z a b r)) hk.cells (fun i v hi => by
      obtain ⟨hl, rfl⟩ := List.getElem?_eq_some_iff.1 hi
      exact hh.cell i hl) _ 0 rfl⟩
  clear hh h10
  have ht : TktR (TpA.sndT s.g first mark z a b r) := ⟨powerG_I64 _ _ _, powerG_I64 _ _ _, powerG_I64 _ _ _, powerG_I64 _ _ _, powerG_I64 _ _ _, hr⟩
  have hv := TpA.sound_plain hmdd (x := x) (r := r) (first := first) (mark := mark) (z := z) (a := a) (b := b) ⟨by omega, by omega⟩ ⟨by omega, by omega⟩
  rw [hq] at hv
  generalize TpA.sndT s.g first mark z a b r = T at hv ht hk ⊢
  repeat (any_goals ((with_reducible refine idO ?_); (with_reducible refine oM_gen fun Kv hK=>?_); simp [go_sem, hk.cells]; refine hK _ _ ?_; clear hK; clear Kv))
  refine Inner_ok s T ht hs (hL.below hk.below hL.size) (fun w15 h => ?_)
  generalize innM s T = n at hv ⊢
  have hk := (hk.next h).drew
  have hs : SetR { w15 with drawn := w15.drawn + 1 } _ _ := (hs.next h).next (Below.refl _ w15).drew
  clear h
  refine ⟨Nx { w15 with drawn := w15.drawn + 1 }, Below.refl _ _, rfl, ?_⟩
  generalize ({ w15 with drawn := w15.drawn + 1 } : World) = W at hk hs ⊢
  repeat (any_goals (first
  | (with_reducible refine pureH_in ?_)
  | ((with_reducible refine idOH ?_); (with_reducible refine oH_of ⟨_, rfl⟩ (fun W0 hW0 => by (refine oM_gen (fun Kv hK => ?_)); simp [go_sem, (hk.next hW0).cells]; (first | exact hK _ _ ⟨rfl, rfl⟩ | exact ⟨by omega, hK _ _ ⟨rfl, rfl⟩⟩)) ?_))))
  refine ⟨Nx, ?_⟩
  apply monoE
  · intro w1 h1
    exact Mul_ok _ _ _ (fun w2 h2 => ⟨h1.on h2, h2, rfl⟩)
  apply monoE
  · rintro w1 h1 _ rfl
    exact Add_ok _ _ _ ⟨h1, Below.refl _ _, rfl⟩
  (intro w9 h9; repeat (intro v9 e9; try (obtain rfl := e9)))
  have hk := (hk.next h9).drew
  have hs : SetR { w9 with drawn := w9.drawn + 1 } _ _ := (hs.next h9).next (Below.refl _ w9).drew
  clear h9
  repeat (any_goals ((with_reducible refine idO ?_); (with_reducible refine oM_gen fun Kv hK=>?_); simp [go_sem]; refine hK _ _ ?_; clear hK; clear Kv))
  refine ⟨Nx { w9 with drawn := w9.drawn + 1 }, Below.refl _ _, rfl, ?_⟩
  generalize ({ w9 with drawn := w9.drawn + 1 } : World) = W at hk hs ⊢
  repeat (any_goals (first
  | (with_reducible refine pureH_in ?_)
  | ((with_reducible refine idOH ?_); (with_reducible refine oH_of ⟨_, rfl⟩ (fun W0 hW0 => by (refine oM_gen (fun Kv hK => ?_)); simp [go_sem, (hk.next hW0).cells]; (first | exact hK _ _ ⟨rfl, rfl⟩ | exact ⟨by omega, hK _ _ ⟨rfl, rfl⟩⟩)) ?_))))
  refine ⟨Nx, ?_⟩
  apply monoE
  · intro w1 h1
    exact Sub_ok _ _ _ ⟨h1, Below.refl _ _, rfl⟩
  apply monoE
  · rintro w1 h1 _ rfl
    exact Mul_ok _ _ _ (fun w2 h2 => ⟨h1.on h2, h2, rfl⟩)
  (intro w9 h9; repeat (intro v9 e9; try (obtain rfl := e9)))
  have hk := hk.next h9
  have hs := hs.next h9
  clear h9
  refine Sub_ok _ _ _ ?_
  repeat (any_goals ((with_reducible refine idO ?_); (with_reducible refine oM_gen fun Kv hK=>?_); simp [go_sem]; refine hK _ _ ?_; clear hK; clear Kv))
  have hk := hk.drew
  have hs : SetR { w9 with drawn := w9.drawn + 1 } _ _ := hs.next (Below.refl _ w9).drew
  refine ⟨Nx { w9 with drawn := w9.drawn + 1 }, Below.refl _ _, rfl, ?_⟩
  generalize ({ w9 with drawn := w9.drawn + 1 } : World) = W at hk hs ⊢
  repeat (any_goals (first
  | (with_reducible first|refine pureH_in ?_|((refine idGdH ?_); refine gdH_conv fun _=>?_)|((refine idGd ?_); refine zA ?_))
  | ((with_reducible refine idOH ?_); (with_reducible refine oH_of ⟨_, rfl⟩ (fun W0 hW0 => by (refine oM_gen (fun Kv hK => ?_)); simp [go_sem, (hk.next hW0).cells]; (first | exact hK _ _ ⟨rfl, rfl⟩ | exact ⟨by omega, hK _ _ ⟨rfl, rfl⟩⟩)) ?_))))
  refine ⟨Nx, ?_⟩
  apply monoE
  · intro w1 h1
    repeat (any_goals (with_reducible ((refine idGd ?_); refine zA ?_)))
    exact Public_ok s x hx (hs.next h1) (fun w2 h2 => ⟨h1.on h2, h2, rfl⟩)
  apply monoE
  · rintro w1 h1 _ rfl
    repeat (any_goals (with_reducible ((refine idGd ?_); refine zA ?_)))
    exact Valid_ok s _ T (publicM_I64 _ _) ht (hs.next h1) (hL.below (hk.next h1).below hL.size) (fun w2 h2 => ⟨h1.on h2, h2, rfl⟩)
  rw [hv]
  (intro w9 h9; repeat (intro v9 e9; try (obtain rfl := e9)))
  have hk := hk.next h9
  clear h9
  generalize decide (n = 0) = q0
  generalize decide (addM c.q (mulM c.q n x) a = r) = q1
  generalize decide (mulM c.q n (subM c.q x z) = subM c.q b a) = q2
  cases q0 <;> cases q1 <;> cases q2
  all_goals
    repeat (any_goals (with_reducible first|refine pureM_in ?_|((refine idGd ?_); refine zA ?_)))
    exact k _ hk.below
end
end Go.Proofs
