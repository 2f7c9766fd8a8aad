/- The abstract machine, part 1: its values, and how they stand for the model's values. No conditions. -/
import Derived.Orders
import Derived.Laws.Sem
import Derived.Laws.Cells
import Derived.Laws.StructEq
import Derived.Laws.AppendOwn
import Derived.Laws.MakeOwn
import Derived.Laws.Slices
import Derived.Laws.Rows
import Derived.Below
set_option linter.unusedVariables false
set_option linter.unusedSimpArgs false
namespace Go.Proofs.Ytgddflnhibhacaa.AM
open Go

/-- A value of the abstract machine. `ptr`, `slice`: into a block of the call's own, by its number; `sptr`, `sl`, `nnsl`: into memory that is only read, with what lies there. -/
inductive AV where
  | any
  | bool (b : Bool)
  | int (k : IntKind) (n : Int)
  | str (s : ByteArray)
  | nilp
  | ptr (id off : Nat)
  | sptr (cs : List AV)
  | esl
  | nilsl
  | slice (id off len cap : Nat)
  | sl (len cap : Nat) (cs : List AV)
  | nnsl (len cap : Nat) (cs : List AV)
  | func (f : Nat) (first captured : List AV)
  | nilfn
  | someif
  | nilif
  | agg (cs : List AV)
  | tuple (vs : List AV)
  deriving Inhabited

/-- A block: the cells of one element, what lies in it, whether it is still in use. -/
structure Blk where
  sz : Nat
  cells : List AV
  live : Bool := true
  ro : Bool := false
  deriving Inhabited

abbrev Heap := List Blk
abbrev Env := Nat → AV

/-- Where a block lies in the model's memory: its number there, how many elements it has room for. -/
structure Emb where
  blk : Nat
  room : Nat

abbrev Inj := Nat → Option (Option Emb)

def CellsAt (w : World) (c off : Nat) (vs : List Value) : Prop :=
  ∃ arr e fz, w.heap[c]? = some (.cells arr e fz) ∧ ∀ i v, vs[i]? = some v → arr[off + i]? = some v ∧ v.oneCell' = true

mutual
/-- An abstract value stands for a model's value: F: the blocks that are only read; ι: where the own blocks lie; w: the world in which the read ones are looked at. -/
def VR (F : Nat → Prop) (ι : Inj) (w : World) : AV → Value → Prop
  | .any, _ => True
  | .bool b, v => v = .bool b
  | .int k n, v => v = .int k n
  | .str s, v => v = .string s
  | .nilp, v => v = .pointer none
  | .ptr id off, v => ∃ c, ι id = some (some c) ∧ v = .pointer (some ⟨c.blk, off, none⟩)
  | .sptr cs, v => ∃ c off vs, v = .pointer (some ⟨c, off, none⟩) ∧ F c ∧ CellsAt w c off vs ∧ VRL F ι w cs vs
  | .esl, v => ∃ a, v = .slice a 0 0
  | .nilsl, v => v = .slice none 0 0
  | .slice id off len cap, v =>
      (∃ c ccap off', ι id = some (some c) ∧ v = .slice (some ⟨c.blk, off', none⟩) len ccap ∧ cap ≤ ccap ∧ len ≤ ccap ∧ (ccap = 0 ∨ off' = off) ∧ (off' = 0 → ccap ≤ c.room)) ∨
      (ι id = some none ∧ len = 0 ∧ cap = 0 ∧ ∃ a, v = .slice a 0 0)
  | .sl len cap cs, v => ∃ a ccap, v = .slice a len ccap ∧ cap ≤ ccap ∧ len ≤ ccap ∧ (a = none → ccap = 0) ∧
      ((cs = [] ∧ len = 0) ∨ ∃ c off vs, a = some ⟨c, off, none⟩ ∧ F c ∧ CellsAt w c off vs ∧ VRL F ι w cs vs)
  | .nnsl len cap cs, v => ∃ a ccap, v = .slice (some a) len ccap ∧ cap ≤ ccap ∧ len ≤ ccap ∧
      ((cs = [] ∧ len = 0) ∨ ∃ c off vs, a = ⟨c, off, none⟩ ∧ F c ∧ CellsAt w c off vs ∧ VRL F ι w cs vs)
  | .func f first cap, v => ∃ fs cs, v = .func (.func f) fs cs ∧ VRL F ι w first fs.toList ∧ VRL F ι w cap cs.toList
  | .nilfn, v => v = .nilFunc
  | .someif, v => ∃ t x, v = .iface t x
  | .nilif, v => v = .nilIface
  | .agg cs, v => ∃ vs, v = .agg vs ∧ VRL F ι w cs vs.toList ∧ ∀ u ∈ vs.toList, u.oneCell' = true
  | .tuple xs, v => ∃ vs, v = .tuple vs ∧ VRL F ι w xs vs.toList
def VRL (F : Nat → Prop) (ι : Inj) (w : World) : List AV → List Value → Prop
  | [], vs => vs = []
  | x :: xs, vs => ∃ v rest, vs = v :: rest ∧ VR F ι w x v ∧ VRL F ι w xs rest
end

section
variable {F : Nat → Prop} {ι ι' : Inj} {w : World}
theorem VRL_nil {vs : List Value} : VRL F ι w [] vs ↔ vs = [] := by simp [VRL]
theorem VRL_cons {x : AV} {xs : List AV} {vs : List Value} : VRL F ι w (x :: xs) vs ↔ ∃ v rest, vs = v :: rest ∧ VR F ι w x v ∧ VRL F ι w xs rest := by simp [VRL]
theorem VRL.length : ∀ {xs : List AV} {vs : List Value}, VRL F ι w xs vs → xs.length = vs.length
  | [], vs, h => by rw [VRL_nil] at h; subst h; rfl
  | x :: xs, vs, h => by
    obtain ⟨v, rest, rfl, _, h2⟩ := VRL_cons.1 h
    simp [VRL.length h2]
theorem VRL.get : ∀ {xs : List AV} {vs : List Value}, VRL F ι w xs vs → ∀ (i : Nat) x, xs[i]? = some x → ∃ v, vs[i]? = some v ∧ VR F ι w x v
  | [], _, _, i, x, hx => by simp at hx
  | y :: xs, vs, h, i, x, hx => by
    obtain ⟨v, rest, rfl, h1, h2⟩ := VRL_cons.1 h
    cases i with
    | zero => simp at hx; subst hx; exact ⟨v, rfl, h1⟩
    | succ i => simp at hx; simpa using VRL.get h2 i x hx
theorem VRL.of_get : ∀ {xs : List AV} {vs : List Value}, xs.length = vs.length → (∀ (i : Nat) x v, xs[i]? = some x → vs[i]? = some v → VR F ι w x v) → VRL F ι w xs vs
  | [], vs, hl, _ => by rw [VRL_nil]; exact List.eq_nil_of_length_eq_zero hl.symm
  | x :: xs, [], hl, _ => by simp at hl
  | x :: xs, v :: vs, hl, h => VRL_cons.2 ⟨v, vs, rfl, h 0 x v rfl rfl, VRL.of_get (by simpa using hl) fun i a b ha hb => h (i + 1) a b (by simpa using ha) (by simpa using hb)⟩
theorem VRL.append : ∀ {xs ys : List AV} {vs us : List Value}, VRL F ι w xs vs → VRL F ι w ys us → VRL F ι w (xs ++ ys) (vs ++ us)
  | [], _, vs, _, h, h' => by rw [VRL_nil] at h; subst h; exact h'
  | x :: xs, ys, vs, us, h, h' => by
    obtain ⟨v, rest, rfl, h1, h2⟩ := VRL_cons.1 h
    exact VRL_cons.2 ⟨v, rest ++ us, rfl, h1, VRL.append h2 h'⟩
theorem VRL.drop : ∀ {xs : List AV} {vs : List Value} (n : Nat), VRL F ι w xs vs → VRL F ι w (xs.drop n) (vs.drop n)
  | xs, vs, 0, h => by simpa using h
  | [], vs, n + 1, h => by rw [VRL_nil] at h; subst h; simp [VRL_nil]
  | x :: xs, vs, n + 1, h => by
    obtain ⟨v, rest, rfl, h1, h2⟩ := VRL_cons.1 h
    simpa using VRL.drop n h2
theorem VRL.take : ∀ {xs : List AV} {vs : List Value} (n : Nat), VRL F ι w xs vs → VRL F ι w (xs.take n) (vs.take n)
  | xs, vs, 0, h => by simp [VRL_nil]
  | [], vs, n + 1, h => by rw [VRL_nil] at h; subst h; simp [VRL_nil]
  | x :: xs, vs, n + 1, h => by
    obtain ⟨v, rest, rfl, h1, h2⟩ := VRL_cons.1 h
    simp only [List.take_succ_cons]
    exact VRL_cons.2 ⟨v, _, rfl, h1, VRL.take n h2⟩

theorem CellsAt.drop {c off : Nat} {vs : List Value} (n : Nat) (h : CellsAt w c off vs) : CellsAt w c (off + n) (vs.drop n) := by
  obtain ⟨arr, e, fz, h1, h2⟩ := h
  refine ⟨arr, e, fz, h1, fun i v hv => ?_⟩
  rw [List.getElem?_drop] at hv
  rw [Nat.add_assoc]
  exact h2 _ v hv
theorem CellsAt.take {c off : Nat} {vs : List Value} (n : Nat) (h : CellsAt w c off vs) : CellsAt w c off (vs.take n) := by
  obtain ⟨arr, e, fz, h1, h2⟩ := h
  refine ⟨arr, e, fz, h1, fun i v hv => h2 i v ?_⟩
  rw [List.getElem?_take] at hv
  split at hv
  · exact hv
  · cases hv

/-- What ι knows, ι' knows. -/
def Inj.le (ι ι' : Inj) : Prop := ∀ id e, ι id = some e → ι' id = some e
theorem Inj.le_refl (ι : Inj) : Inj.le ι ι := fun _ _ h => h
theorem Inj.le_trans {a b c : Inj} (h : Inj.le a b) (h' : Inj.le b c) : Inj.le a c := fun _ _ h1 => h' _ _ (h _ _ h1)

mutual
theorem VR.mono {F' : Nat → Prop} {w' : World} (hF : ∀ c, F c → F' c) (hι : Inj.le ι ι') (hw : ∀ c, F c → w'.heap[c]? = w.heap[c]?) : ∀ (x : AV) {v : Value}, VR F ι w x v → VR F' ι' w' x v
  | .any, _, _ => by simp [VR]
  | .bool _, _, h => by simpa [VR] using h
  | .int _ _, _, h => by simpa [VR] using h
  | .str _, _, h => by simpa [VR] using h
  | .nilp, _, h => by simpa [VR] using h
  | .ptr id off, v, h => by
    simp only [VR] at h ⊢
    obtain ⟨c, h1, h2⟩ := h
    exact ⟨c, hι _ _ h1, h2⟩
  | .sptr cs, v, h => by
    simp only [VR] at h ⊢
    obtain ⟨c, off, vs, h1, h2, h3, h4⟩ := h
    exact ⟨c, off, vs, h1, hF _ h2, by unfold CellsAt at h3 ⊢; rw [hw c h2]; exact h3, VRL.mono hF hι hw cs h4⟩
  | .esl, _, h => by simpa [VR] using h
  | .nilsl, _, h => by simpa [VR] using h
  | .slice id off len cap, v, h => by
    simp only [VR] at h ⊢
    rcases h with ⟨c, ccap, off', h1, h2⟩ | ⟨h1, h2⟩
    · exact Or.inl ⟨c, ccap, off', hι _ _ h1, h2⟩
    · exact Or.inr ⟨hι _ _ h1, h2⟩
  | .sl len cap cs, v, h => by
    simp only [VR] at h ⊢
    obtain ⟨a, ccap, h1, h2, h3, hz, h4⟩ := h
    refine ⟨a, ccap, h1, h2, h3, hz, ?_⟩
    rcases h4 with h4 | ⟨c, off, vs, h5, h6, h7, h8⟩
    · exact Or.inl h4
    · exact Or.inr ⟨c, off, vs, h5, hF _ h6, by unfold CellsAt at h7 ⊢; rw [hw c h6]; exact h7, VRL.mono hF hι hw cs h8⟩
  | .nnsl len cap cs, v, h => by
    simp only [VR] at h ⊢
    obtain ⟨a, ccap, h1, h2, h3, h4⟩ := h
    refine ⟨a, ccap, h1, h2, h3, ?_⟩
    rcases h4 with h4 | ⟨c, off, vs, h5, h6, h7, h8⟩
    · exact Or.inl h4
    · exact Or.inr ⟨c, off, vs, h5, hF _ h6, by unfold CellsAt at h7 ⊢; rw [hw c h6]; exact h7, VRL.mono hF hι hw cs h8⟩
  | .func f first cap, v, h => by
    simp only [VR] at h ⊢
    obtain ⟨fs, cs, h1, h2, h3⟩ := h
    exact ⟨fs, cs, h1, VRL.mono hF hι hw first h2, VRL.mono hF hι hw cap h3⟩
  | .nilfn, _, h => by simpa [VR] using h
  | .someif, _, h => by simpa [VR] using h
  | .nilif, _, h => by simpa [VR] using h
  | .agg cs, v, h => by
    simp only [VR] at h ⊢
    obtain ⟨vs, h1, h2, h3⟩ := h
    exact ⟨vs, h1, VRL.mono hF hι hw cs h2, h3⟩
  | .tuple cs, v, h => by
    simp only [VR] at h ⊢
    obtain ⟨vs, h1, h2⟩ := h
    exact ⟨vs, h1, VRL.mono hF hι hw cs h2⟩
theorem VRL.mono {F' : Nat → Prop} {w' : World} (hF : ∀ c, F c → F' c) (hι : Inj.le ι ι') (hw : ∀ c, F c → w'.heap[c]? = w.heap[c]?) : ∀ (xs : List AV) {vs : List Value}, VRL F ι w xs vs → VRL F' ι' w' xs vs
  | [], _, h => by rw [VRL_nil] at h ⊢; exact h
  | x :: xs, vs, h => by
    obtain ⟨v, rest, rfl, h1, h2⟩ := VRL_cons.1 h
    exact VRL_cons.2 ⟨v, rest, rfl, VR.mono hF hι hw x h1, VRL.mono hF hι hw xs h2⟩
end
end

/-- The cells of a value. -/
def AV.cells? : AV → Option (List AV)
  | .agg cs => some cs
  | .any | .tuple _ => none
  | v => some [v]

theorem VR.cells {F : Nat → Prop} {ι : Inj} {w : World} {x : AV} {v : Value} {cs : List AV} (h : VR F ι w x v) (hc : x.cells? = some cs) :
    VRL F ι w cs v.cells.toList ∧ ∀ u ∈ v.cells.toList, u.oneCell' = true := by
  cases x <;> simp only [AV.cells?, Option.some.injEq, reduceCtorEq] at hc <;> subst hc
  case agg cs =>
    simp only [VR] at h
    obtain ⟨vs, rfl, h2, h3⟩ := h
    exact ⟨h2, h3⟩
  case slice id off len cap =>
    simp only [VRL_cons, VRL_nil]
    have h' := h
    simp only [VR] at h
    rcases h with ⟨c, ccap, off', h1, rfl, h2⟩ | ⟨h1, _, _, a, rfl⟩
    · exact ⟨⟨_, _, rfl, h', rfl⟩, by simp [Value.cells, Value.oneCell']⟩
    · exact ⟨⟨_, _, rfl, h', rfl⟩, by simp [Value.cells, Value.oneCell']⟩
  all_goals
    simp only [VRL_cons, VRL_nil]
    have h' := h
    simp only [VR] at h
    first
      | (subst h; exact ⟨⟨_, _, rfl, h', rfl⟩, by simp [Value.cells, Value.oneCell']⟩)
      | (obtain ⟨c, h1, rfl⟩ := h; exact ⟨⟨_, _, rfl, h', rfl⟩, by simp [Value.cells, Value.oneCell']⟩)
      | (obtain ⟨a, rfl⟩ := h; exact ⟨⟨_, _, rfl, h', rfl⟩, by simp [Value.cells, Value.oneCell']⟩)
      | (obtain ⟨a, b, rfl⟩ := h; exact ⟨⟨_, _, rfl, h', rfl⟩, by simp [Value.cells, Value.oneCell']⟩)
      | (obtain ⟨a, b, rfl, _⟩ := h; exact ⟨⟨_, _, rfl, h', rfl⟩, by simp [Value.cells, Value.oneCell']⟩)
      | (obtain ⟨a, b, c, rfl, _⟩ := h; exact ⟨⟨_, _, rfl, h', rfl⟩, by simp [Value.cells, Value.oneCell']⟩)

end Go.Proofs.Ytgddflnhibhacaa.AM
