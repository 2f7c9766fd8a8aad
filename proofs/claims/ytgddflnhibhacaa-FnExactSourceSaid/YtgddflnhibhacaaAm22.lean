/- The abstract machine, part 22: a law's arguments, as they are read, are what the machine speaks of. No conditions. -/
import Derived.Test.YtgddflnhibhacaaAm21
import Derived.ProofKit
import Derived.OpenShut
set_option linter.unusedVariables false
set_option linter.unusedSimpArgs false
namespace Go.Proofs.Ytgddflnhibhacaa.AM
open Go

/-- Whatever is read as a value of the type t stands for some a. -/
structure Opens (P : Program) (t : TypeId) {α : Type} (enc : α → List AV) (ok : α → Prop) : Prop where
  run : ∀ {H : Type} {encH : TypeId × Value → H} {w : World} {held : Bool} {fuel : Nat} {cs : List Value} {x : DataW H × List MemPlace}, DataW.trod encH P w 0 (fun _ => true) held fuel t cs = some x →
    ∃ a, ok a ∧ VRL (fun c => c < w.heap.size) (fun _ => none) w (enc a) cs ∧ ∀ u ∈ cs, u.oneCell' = true
/-- The same of a struct's fields from a cell on. -/
structure OpensF (P : Program) (fs : List Field) (o total : Nat) {α : Type} (enc : α → List AV) (ok : α → Prop) : Prop where
  run : ∀ {H : Type} {encH : TypeId × Value → H} {w : World} {held : Bool} {n : Nat} {cs : List Value}, (∀ (i : Nat) f, fs[i]? = some f → ∃ y, DataW.trod encH P w 0 (fun _ => true) held n f.type ((cs.drop f.offset).take (P.cellsOf f.type)) = some y) → cs.length = total →
    ∃ a, ok a ∧ VRL (fun c => c < w.heap.size) (fun _ => none) w (enc a) (cs.drop o) ∧ ∀ u ∈ cs.drop o, u.oneCell' = true

section
variable {P : Program} {t : TypeId}
theorem opens_int {k : IntKind} (ht : P.underlying t = some (.int k)) : Opens P t (fun n => [.int k n]) (fun n => (Lit.int k n).wf = true) := by
  constructor
  intro H encH w held fuel cs x h
  obtain ⟨n, rfl, rfl, hw⟩ := DataW.trod_int ht h
  exact ⟨n, hw, by simp [VRL, VR], by simp [Value.oneCell']⟩
theorem opens_bool (ht : P.underlying t = some .bool) : Opens P t (fun b => [.bool b]) (fun _ => True) := by
  constructor
  intro H encH w held fuel cs x h
  obtain ⟨b, rfl, rfl⟩ := DataW.trod_bool ht h
  exact ⟨b, trivial, by simp [VRL, VR], by simp [Value.oneCell']⟩
theorem opens_str (ht : P.underlying t = some .string) : Opens P t (fun s => [.str s]) (fun s => s.size ≤ maxLen) := by
  constructor
  intro H encH w held fuel cs x h
  obtain ⟨s, rfl, rfl, hw⟩ := DataW.trod_string ht h
  exact ⟨s, hw, by simp [VRL, VR], by simp [Value.oneCell']⟩
theorem Opens.map {α β : Type} {enc : α → List AV} {ok : α → Prop} {enc' : β → List AV} {ok' : β → Prop} (g : α → β) (h : Opens P t enc ok) (he : ∀ a, enc a = enc' (g a)) (hk : ∀ a, ok a → ok' (g a)) : Opens P t enc' ok' := by
  constructor
  intro H encH w held fuel cs x hx
  obtain ⟨a, h1, h2, h3⟩ := h.run hx
  exact ⟨g a, hk a h1, by rw [← he]; exact h2, h3⟩
theorem opensF_nil {o : Nat} : OpensF P [] o o (fun _ : Unit => []) (fun _ => True) := by
  constructor
  intro H encH w held n cs _ hl
  have : cs.drop o = [] := List.drop_of_length_le (by omega)
  rw [this]
  exact ⟨(), trivial, by simp [VRL], by simp⟩
theorem opensF_cons {α β : Type} {f : Field} {fs : List Field} {o s total : Nat} {e1 : α → List AV} {ok1 : α → Prop} {e2 : β → List AV} {ok2 : β → Prop} (hs : P.cellsOf f.type = s) (h1 : Opens P f.type e1 ok1) (h2 : OpensF P fs (o + s) total e2 ok2)
    (ho : f.offset = o) (hle : o + s ≤ total) : OpensF P (f :: fs) o total (fun p : α × β => e1 p.1 ++ e2 p.2) (fun p => ok1 p.1 ∧ ok2 p.2) := by
  constructor
  intro H encH w held n cs hf hl
  obtain ⟨y, hy⟩ := hf 0 f rfl
  rw [ho, hs] at hy
  obtain ⟨a, a1, a2, a3⟩ := h1.run hy
  obtain ⟨b, b1, b2, b3⟩ := h2.run (fun i g hg => hf (i + 1) g hg) hl
  have hcs : cs.drop o = (cs.drop o).take s ++ cs.drop (o + s) := by
    rw [← List.drop_drop, List.take_append_drop]
  refine ⟨(a, b), ⟨a1, b1⟩, ?_, ?_⟩
  · rw [hcs]
    exact a2.append b2
  · rw [hcs]
    intro u hu
    rcases List.mem_append.1 hu with h | h
    · exact a3 u h
    · exact b3 u h
theorem opens_struct {fs : Array Field} {total : Nat} {α : Type} {enc : α → List AV} {ok : α → Prop} (ht : P.underlying t = some (.struct fs)) (hc : P.cellsOf t = total) (h : OpensF P fs.toList 0 total enc ok) : Opens P t enc ok := by
  constructor
  intro H encH w held fuel cs x hx
  obtain ⟨xs, n, _, _, hl, hxl, hf⟩ := DataW.trod_struct ht hx
  have := h.run (encH := encH) (w := w) (held := held) (n := n) (cs := cs) (fun i f hi => by
    have hi' : fs[i]? = some f := by simpa using hi
    have hlt : i < fs.size := (Array.getElem?_eq_some_iff.1 hi').1
    refine ⟨xs[i]'(by omega), ?_⟩
    rw [hf i f hi', List.getElem?_eq_getElem]) (by rw [hl, hc])
  simpa using this

theorem addr_add_add (a : Addr) (x y : Nat) : (a.add x).add y = a.add (x + y) := by
  obtain ⟨b, o, sp⟩ := a
  by_cases hx : x = 0
  · subst hx
    simp [Addr.add]
  · by_cases hy : y = 0
    · subst hy
      simp [Addr.add]
    · simp [Addr.add, hx, hy, Nat.add_assoc]
theorem addr_add_none (b o i : Nat) : (⟨b, o, none⟩ : Addr).add i = ⟨b, o + i, none⟩ := by
  by_cases hi : i = 0
  · subst hi
    rfl
  · simp [Addr.add, hi]
theorem addr_add_zero (a : Addr) : a.add 0 = a := rfl
theorem cells_at {w : World} {a : Addr} : ∀ {n : Nat} {vs : List Value}, w.cells? 0 a n = some vs → vs.length = n ∧ ∀ i, i < n → w.cell? (a.add i) = vs[i]? := by
  intro n vs h
  unfold World.cells? at h
  rw [if_pos (Nat.zero_le _)] at h
  have h1 := mapM_some_length h
  refine ⟨by simpa using h1, fun i hi => mapM_some_get h i i (by simp [hi])⟩

theorem opens_slice {e : TypeId} {s : Nat} {α : Type} {enc : α → List AV} {ok : α → Prop} (ht : P.underlying t = some (.slice e)) (hs : P.cellsOf e = s) (hpos : 0 < s) (hlen : ∀ a, (enc a).length = s) (h : Opens P e enc ok) :
    Opens P t (fun xs : List α => [.sl xs.length xs.length (xs.map enc).flatten]) (fun xs => (∀ a, a ∈ xs → ok a) ∧ xs.length ≤ maxLen) := by
  constructor
  intro H encH w held fuel cs x hx
  rcases DataW.trod_slice ht hx with ⟨rfl, _⟩ | ⟨a, len, cap, elems, rest, n, _, rfl, _, _, hlc, hcm, hel, hget, _, _⟩
  · exact ⟨[], ⟨by simp, by simp⟩, VRL_cons.2 ⟨_, [], rfl, by simp only [VR]; exact ⟨none, 0, rfl, Nat.le_refl _, Nat.le_refl _, fun _ => rfl, Or.inl ⟨rfl, rfl⟩⟩, by simp [VRL]⟩, by simp [Value.oneCell']⟩
  · rw [hs] at hget
    -- element by element
    have key : ∀ m, m ≤ len → ∃ (xs : List α) (vs : List Value), xs.length = m ∧ (∀ a, a ∈ xs → ok a) ∧ VRL (fun c => c < w.heap.size) (fun _ => none) w (xs.map enc).flatten vs ∧ (∀ u ∈ vs, u.oneCell' = true) ∧ vs.length = m * s ∧ ∀ i, i < m * s → w.cell? (a.add i) = vs[i]? := by
      intro m
      induction m with
      | zero => exact fun _ => ⟨[], [], rfl, by simp, by simp [VRL], by simp, by simp, fun i hi => by omega⟩
      | succ m ih =>
        intro hm
        obtain ⟨xs, vs, h1, h2, h3, h4, h5, h6⟩ := ih (by omega)
        have hg := hget m (by omega)
        rw [List.getElem?_eq_getElem (by omega)] at hg
        obtain ⟨us, g1, g2⟩ := Option.bind_eq_some_iff.1 hg
        obtain ⟨b, b1, b2, b3⟩ := h.run g2
        obtain ⟨c1, c2⟩ := cells_at g1
        refine ⟨xs ++ [b], vs ++ us, by simp [h1], ?_, ?_, ?_, ?_, ?_⟩
        · intro a ha
          rcases List.mem_append.1 ha with h | h
          · exact h2 a h
          · rw [List.mem_singleton.1 h]; exact b1
        · rw [List.map_append, List.flatten_append]
          exact h3.append (by simpa using b2)
        · intro u hu
          rcases List.mem_append.1 hu with h | h
          · exact h4 u h
          · exact b3 u h
        · rw [List.length_append, h5, c1, Nat.add_mul, Nat.one_mul]
        · intro i hi
          by_cases hlt : i < m * s
          · rw [List.getElem?_append_left (by omega)]
            exact h6 i hlt
          · rw [List.getElem?_append_right (by omega), h5]
            have := c2 (i - m * s) (by rw [Nat.add_mul] at hi; omega)
            rw [← this, addr_add_add, show m * s + (i - m * s) = i by omega]
    obtain ⟨xs, vs, h1, h2, h3, h4, h5, h6⟩ := key len (Nat.le_refl _)
    refine ⟨xs, ⟨h2, by omega⟩, ?_, by simp [Value.oneCell']⟩
    refine VRL_cons.2 ⟨_, [], rfl, ?_, by simp [VRL]⟩
    simp only [VR]
    refine ⟨some a, cap, by rw [h1], by omega, by omega, fun h => by simp at h, ?_⟩
    by_cases h0 : len = 0
    · left
      have : xs = [] := List.eq_nil_of_length_eq_zero (by omega)
      subst this
      exact ⟨rfl, rfl⟩
    · right
      have hfirst := h6 0 (Nat.mul_pos (by omega) hpos)
      have h0s : 0 < vs.length := by rw [h5]; exact Nat.mul_pos (by omega) hpos
      rw [List.getElem?_eq_getElem h0s] at hfirst
      unfold World.cell? at hfirst
      split at hfirst
      · rename_i arr ty fz hb
        have hb' : w.heap[a.block]? = some (.cells arr ty fz) := hb
        split at hfirst
        · cases hfirst
        · rename_i hspot
          have hsp : a.spot = none := by
            rw [addr_add_zero] at hspot
            simpa using hspot
          obtain ⟨blk, off, spot⟩ := a
          simp only at hsp hb'
          subst hsp
          refine ⟨blk, off, vs, rfl, (Array.getElem?_eq_some_iff.1 hb').1, ⟨arr, ty, fz, hb', fun i v hv => ⟨?_, h4 v (List.mem_of_getElem? hv)⟩⟩, h3⟩
          have := h6 i (by rw [← h5]; exact (List.getElem?_eq_some_iff.1 hv).1)
          rw [hv] at this
          rw [addr_add_none] at this
          unfold World.cell? at this
          simp only [hb'] at this
          simpa using this
      · cases hfirst

/-- An argument that is a slice. -/
theorem arg_slice {e : TypeId} {α : Type} {enc : α → AV} {ok : α → Prop} {H : Type} {encH : TypeId × Value → H} {W : World} {r : Reach} {base : Nat} {v : Value} {d : DataW H} {p : List MemPlace} (ht : P.underlying t = some (.slice e)) (hv : Value.okWide P W r base t v)
    (h : DataW.Trod encH P W 0 (fun _ => true) true t v d p) (op : Opens P t (fun a => [enc a]) ok) : ∃ a, ok a ∧ VR (fun c => c < W.heap.size) (fun _ => none) W (enc a) v := by
  obtain ⟨b, l, c, rfl⟩ := Go.WideShapes.okWide_slice ht hv
  obtain ⟨fuel, hf⟩ := h
  obtain ⟨a, h1, h2, _⟩ := op.run hf
  obtain ⟨u, rest, h3, h4, _⟩ := VRL_cons.1 h2
  simp [Value.cells] at h3
  rw [← h3.1] at h4
  exact ⟨a, h1, h4⟩
/-- An argument that is a struct. -/
theorem arg_struct {fs : Array Field} {α : Type} {enc : α → List AV} {ok : α → Prop} {H : Type} {encH : TypeId × Value → H} {W : World} {r : Reach} {base : Nat} {v : Value} {d : DataW H} {p : List MemPlace} (ht : P.underlying t = some (.struct fs)) (hv : Value.okWide P W r base t v)
    (h : DataW.Trod encH P W 0 (fun _ => true) true t v d p) (op : Opens P t enc ok) : ∃ a, ok a ∧ VR (fun c => c < W.heap.size) (fun _ => none) W (.agg (enc a)) v := by
  obtain ⟨cs, rfl, _⟩ := Go.WideShapes.okWide_struct ht hv
  obtain ⟨fuel, hf⟩ := h
  obtain ⟨a, h1, h2, h3⟩ := op.run hf
  refine ⟨a, h1, ?_⟩
  simp only [VR]
  exact ⟨cs, rfl, by simpa [Value.cells] using h2, by simpa [Value.cells] using h3⟩

/-! ### the arguments behind the call -/
theorem trodAll_stays {H : Type} {enc : TypeId × Value → H} {W W' : World} (hl : laidOutB P = true) (hb : Go.RowKit.Below W.heap.size W W') : ∀ {ts : List TypeId} {vs : List Value} {ds : List (DataW H)} {ps : List MemPlace}, (ts.all fun t => P.readableRec t && decide (t < P.types.size)) = true →
    DataW.TrodAll enc P W 0 (fun _ => true) true ts vs ds ps → DataW.TrodAll enc P W' 0 (fun b => decide (b < W.heap.size)) true ts vs ds ps
  | [], vs, ds, ps, _, h => by
    obtain ⟨rfl, rfl, rfl⟩ := Go.ChangeShapes.trodAll_nil h
    exact Go.ChangeShapes.trodAll_mk0
  | t :: ts, vs, ds, ps, ht, h => by
    obtain ⟨v, vs', d, ds', p, q, rfl, rfl, rfl, h0, hr⟩ := Go.ChangeShapes.trodAll_cons h
    simp only [List.all_cons, Bool.and_eq_true, decide_eq_true_eq] at ht
    have hlt : ∀ x ∈ p, x.block < W.heap.size := by
      obtain ⟨fuel, hf⟩ := h0
      exact DataW.trod_lt fuel t _ _ hf
    exact Go.trodAll_cons_mk (Go.RowKit.Below.trod hl ht.1.1 ht.1.2 h0 hb hlt) (trodAll_stays hl hb ht.2 hr)
end
end Go.Proofs.Ytgddflnhibhacaa.AM
