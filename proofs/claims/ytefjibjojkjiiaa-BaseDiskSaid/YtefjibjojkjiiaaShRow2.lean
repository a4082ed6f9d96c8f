/- ShRow2: a part of the proof of the seat's statements: lemmas about the given translation and plain laws. No condition of its own. -/
import Derived.Test.YtefjibjojkjiiaaShRow
import Derived.Laws.OwnMore
import Derived.Great.BuildSlice
set_option linter.all false
namespace Go.Sh
open Go Go.RowKit
section
variable {P : Program} {w : World} {K : Value → World → Prop}
theorem owns_base {B C : Nat} {e : TypeId} {sz : Nat} {v : Value} {n : Nat} {xs : List Value} (h : w.ownsRow B e sz v n xs) (hc : C ≤ B) : w.ownsRow C e sz v n xs :=
  ⟨h.1, h.2.imp id (fun ⟨g, cap, cur, a, b, r⟩ => ⟨g, cap, cur, a, Nat.le_trans hc b, r⟩)⟩
theorem run_append_more (t ty e : TypeId) (i : TypeInfo) (z : Value) (size bytes : Nat) (ht : P.underlying t = some (.slice e)) (hi : P.info? e = some i) (hz : i.zero = some z)
    (hsize : i.size = size) (hby : i.bytes = bytes) (hzs : z.cells.size = size) (hsz : 0 < size)
    (v : Value) (n : Nat) (xs : List Value) (hown : w.ownsRow 0 e size v n xs)
    (a : Addr) (m c : Nat) (news : List Value) (hl : news.length = m * size) (hnews : ∀ j u, news[j]? = some u → w.cell? (a.add j) = some u) (h1 : ∀ u ∈ news, u.oneCell' = true)
    (h63 : n + m ≤ maxLen) (hbytes : (n + m) * bytes ≤ 140737488355328) :
    ∃ v' w', (Builtin.append_ #[t, t] ty #[v, .slice (some a) m c]).run P w = .ok v' w' ∧ w'.ownsRow 0 e size v' (n + m) (xs ++ news) ∧ w.grownBy w' v.ownBlock ∧
      (∀ i, v'.ownBlock = some i → v.ownBlock = some i ∨ w.heap.size ≤ i) := by
  rcases hown.2 with ⟨hv, hn⟩ | ⟨g, cap, cur, hv, hb, hg, hnc, hm, hcs, htk⟩
  · have h' : w.ownsRow w.heap.size e size v n xs := ⟨hown.1, .inl ⟨hv, hn⟩⟩
    obtain ⟨v', w', hr, ho, hgr, _⟩ := run_append_own (P := P) (w := w) w.heap.size t ty e i z size bytes ht hi hz hsize hby hzs hsz v n xs h' a m c news hl hnews h1 h63 hbytes (Nat.le_refl _)
    exact ⟨v', w', hr, owns_base ho (Nat.zero_le _), hgr, fun j hj => .inr (owns_own ho hj).2.1⟩
  · by_cases hroom : n + m ≤ cap
    · subst hv
      obtain ⟨w', hr, ho, hgr⟩ := run_append_fits (P := P) (w := w) 0 t ty e i size ht hi hsize g n cap xs hown a m c news hl hnews h1 hroom
      exact ⟨_, w', hr, ho, hgr, fun j hj => .inl hj⟩
    · obtain ⟨v', w', hr, ho, hgr, _⟩ := run_append_own (P := P) (w := w) 0 t ty e i z size bytes ht hi hz hsize hby hzs hsz v n xs hown a m c news hl hnews h1 h63 hbytes (Nat.zero_le _)
      subst hsize
      subst hv
      have holds : ∀ j u, xs[j]? = some u → w.cell? ((⟨g, 0, none⟩ : Addr).add j) = some u := hown.cells (g := g) rfl
      have hr2 := run_append_grow (P := P) (w := w) t ty e i z ht hi hz ⟨g, 0, none⟩ n cap xs hown.1 holds a m c news hl hnews (by omega) (by simp only [maxLen] at h63; omega) (growslice_fits (by omega) (by rw [hby]; exact hbytes))
      rw [hr] at hr2
      cases hr2
      exact ⟨_, _, hr, ho, hgr, fun j hj => by cases hj; exact .inr (Nat.le_refl _)⟩
/-- append, as an operation -/
theorem append_at (t T e : TypeId) (i : TypeInfo) (z : Value) (size bytes : Nat) (ht : P.underlying t = some (.slice e)) (hi : P.info? e = some i) (hz : i.zero = some z)
    (hsize : i.size = size) (hby : i.bytes = bytes) (hzs : z.cells.size = size) (hsz : 0 < size)
    {v : Value} {n : Nat} {xs : List Value} (hown : w.ownsRow 0 e size v n xs)
    {ad : Option Addr} {m c : Nat} (news : List Value) (hl : news.length = m * size) (had : ad = none → m = 0 ∧ c = 0) (hnews : ∀ a, ad = some a → ∀ j u, news[j]? = some u → w.cell? (a.add j) = some u) (h1 : ∀ u ∈ news, u.oneCell' = true)
    (h63 : n + m ≤ maxLen) (hbytes : (n + m) * bytes ≤ 140737488355328)
    (k : ∀ v' w', w'.ownsRow 0 e size v' (n + m) (xs ++ news) → w.grownBy w' v.ownBlock → (∀ i, v'.ownBlock = some i → v.ownBlock = some i ∨ w.heap.size ≤ i) → K v' w') :
    oM P (.call { callee := .builtin .append, args := #[.tmp 0, .tmp 1], argTypes := #[t, t] }) T [v, .slice ad m c] K w := by
  rw [oM_append]
  cases ad with
  | some a =>
    obtain ⟨v', w', hr, h2, h3, h4⟩ := run_append_more (P := P) (w := w) t T e i z size bytes ht hi hz hsize hby hzs hsz v n xs hown a m c news hl (hnews a rfl) h1 h63 hbytes
    rw [hr]
    exact k v' w' h2 h3 h4
  | none =>
    obtain ⟨rfl, rfl⟩ := had rfl
    have hn : news = [] := List.eq_nil_of_length_eq_zero (by simpa using hl)
    subst hn
    rw [run_append_owned_none (P := P) (w := w) 0 t T e i size ht hi v n xs hown]
    refine k v w ?_ ⟨rfl, rfl, rfl, Nat.le_refl _, fun _ _ _ => rfl⟩ (fun i h => .inl h)
    simpa using hown
end
/-- a slice that is only read -/
def RowR {α : Type} (mk : α → List Value) (sz : Nat) (w : World) (v : Value) (l : List α) : Prop :=
  ∃ ad c, v = .slice ad l.length c ∧ (ad = none → l.length = 0 ∧ c = 0) ∧ (l = [] ∨ ∃ b o, ad = some ⟨b, o, none⟩ ∧ b < w.heap.size ∧ ∀ (k : Nat) (x : Value), (flat mk l)[k]? = some x → w.cell? ⟨b, o + k, none⟩ = some x)
section
variable {α : Type} {mk : α → List Value} {sz : Nat} {w w' : World} {v : Value} {l : List α}
theorem RowR.of_owns {B : Nat} {e : TypeId} (h : w.ownsRow B e sz v l.length (flat mk l)) : RowR mk sz w v l := by
  rcases h.2 with ⟨rfl, h0⟩ | ⟨g, cap, cur, rfl, hb, hg, hn, hm, hcs, ht⟩
  · exact ⟨none, 0, by rw [h0], fun _ => ⟨h0, rfl⟩, .inl (List.eq_nil_of_length_eq_zero h0)⟩
  · refine ⟨_, cap, rfl, by simp, ?_⟩
    by_cases h0 : l = []
    · exact .inl h0
    · obtain ⟨g', cap', cur', hv, hlt, _, _, _, _, hc⟩ := owns_cells h (List.length_pos_iff.2 h0)
      cases hv
      exact .inr ⟨g, 0, rfl, hlt, fun k x hk => by rw [Nat.zero_add]; exact hc k x hk⟩
def Value.inBlock : Value → Option Nat
  | .slice (some a) _ _ => some a.block
  | _ => none
theorem RowR.keep (h : RowR mk sz w v l) (hs : w.heap.size ≤ w'.heap.size) (hk : ∀ i, Value.inBlock v = some i → i < w.heap.size → w'.heap[i]? = w.heap[i]?) : RowR mk sz w' v l := by
  obtain ⟨ad, c, rfl, h0, h⟩ := h
  refine ⟨ad, c, rfl, h0, h.imp id ?_⟩
  rintro ⟨b, o, rfl, hlt, hc⟩
  refine ⟨b, o, rfl, Nat.lt_of_lt_of_le hlt hs, fun k x hx => ?_⟩
  have := hc k x hx
  unfold World.cell? at this ⊢
  rw [hk b rfl hlt]
  exact this
end
theorem add_none (b o k : Nat) : (⟨b, o, none⟩ : Addr).add k = ⟨b, o + k, none⟩ := by
  unfold Addr.add
  split
  · rename_i h0; rw [h0]; simp
  · rfl
/-- a slice that has been copied with append -/
theorem clone_at {P : Program} {α : Type} {mk : α → List Value} {w : World} {K : Value → World → Prop} (t T e : TypeId) (i : TypeInfo) (z : Value) (size bytes : Nat) (ht : P.underlying t = some (.slice e)) (hi : P.info? e = some i) (hz : i.zero = some z)
    (hsize : i.size = size) (hby : i.bytes = bytes) (hzs : z.cells.size = size) (hsz : 0 < size) (hm : ∀ x, (mk x).length = size) (h1 : ∀ x, ∀ u ∈ mk x, u.oneCell' = true)
    {v u : Value} {l : List α} (hr : RowR mk size w v l) (hu : w.ownsRow 0 e size u 0 []) {B : Nat} (hB : B ≤ w.heap.size) (hf : ∀ i, u.ownBlock = some i → B ≤ i) (hll : l.length ≤ 4611686018427387904) (hb : l.length * bytes ≤ 140737488355328)
    (k : ∀ v' w', w'.ownsRow 0 e size v' l.length (flat mk l) → w.grownBy w' u.ownBlock → (∀ i, v'.ownBlock = some i → B ≤ i) → K v' w') :
    oM P (.call { callee := .builtin .append, args := #[.tmp 0, .tmp 1], argTypes := #[t, t] }) T [u, v] K w := by
  obtain ⟨ad, c, rfl, h0, hc⟩ := hr
  refine append_at t T e i z size bytes ht hi hz hsize hby hzs hsz hu (flat mk l) (flat_length hm l) h0 ?_ ?_ (by simp only [maxLen]; omega) (by rw [Nat.zero_add]; exact hb) ?_
  · rintro a rfl j x hj
    rcases hc with rfl | ⟨b, o, hbo, hlt, hc⟩
    · simp [flat] at hj
    · cases hbo
      rw [add_none]; exact hc j x hj
  · intro x hx
    unfold flat at hx
    obtain ⟨y, _, hy⟩ := List.mem_flatMap.1 hx
    exact h1 y x hy
  · intro v' w' ho hg hv
    rw [Nat.zero_add] at ho
    exact k v' w' ho hg (fun i hi => (hv i hi).elim (hf i) (Nat.le_trans hB))
end Go.Sh
