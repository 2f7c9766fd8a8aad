/- The abstract machine, first part: its values, blocks and operations, and that they are sound. No conditions. -/
import Derived.Orders
import Derived.Laws.Sem
import Derived.Laws.Cells
import Derived.Laws.StructEq
import Derived.Laws.AppendOwn
import Derived.Laws.MakeOwn
import Derived.Laws.Slices
import Derived.Laws.Rows
import Derived.Below
import Derived.IntWalk
import Derived.Great.FillDense
set_option linter.unusedVariables false
set_option linter.unusedSimpArgs false
namespace Go.Proofs.YtgpjgljgplngpaaGreatDoor.AM
open Go
inductive AV where
 | any
 | bool (b : Bool)
 | int (k : IntKind) (n : Int)
 | str (s : ByteArray)
 | nilp
 | ptr (id off : Nat)
 | sptr (cs : List AV)
 | esl
 | nilsl
 | slice (id off len cap : Nat)
 | sl (len cap : Nat) (cs : List AV)
 | nnsl (len cap : Nat) (cs : List AV)
 | func (f : Nat) (first captured : List AV)
 | nilfn
 | someif
 | nilif
 | agg (cs : List AV)
 | tuple (vs : List AV)
 deriving Inhabited
structure Blk where
 sz : Nat
 cells : List AV
 live : Bool := true
 ro : Bool := false
 deriving Inhabited
abbrev Heap := List Blk
abbrev Env := Nat → AV
structure Emb where
 blk : Nat
 room : Nat
abbrev Inj := Nat → Option (Option Emb)
def CellsAt (w : World) (c off : Nat) (vs : List Value) : Prop :=
 ∃ arr e fz, w.heap[c]? = some (.cells arr e fz) ∧ ∀ i v, vs[i]? = some v → arr[off + i]? = some v ∧ v.oneCell' = true
mutual
def VR (F : Nat → Prop) (ι : Inj) (w : World) : AV → Value → Prop
 | .any, _ => True
 | .bool b, v => v = .bool b
 | .int k n, v => v = .int k n
 | .str s, v => v = .string s
 | .nilp, v => v = .pointer none
 | .ptr id off, v => ∃ c, ι id = some (some c) ∧ v = .pointer (some ⟨c.blk, off, none⟩)
 | .sptr cs, v => ∃ c off vs, v = .pointer (some ⟨c, off, none⟩) ∧ F c ∧ CellsAt w c off vs ∧ VRL F ι w cs vs
 | .esl, v => ∃ a, v = .slice a 0 0
 | .nilsl, v => v = .slice none 0 0
 | .slice id off len cap, v =>
  (∃ c ccap off', ι id = some (some c) ∧ v = .slice (some ⟨c.blk, off', none⟩) len ccap ∧ cap ≤ ccap ∧ len ≤ ccap ∧ (ccap = 0 ∨ off' = off) ∧ (off' = 0 → ccap ≤ c.room)) ∨
  (ι id = some none ∧ len = 0 ∧ cap = 0 ∧ ∃ a, v = .slice a 0 0)
 | .sl len cap cs, v => ∃ a ccap, v = .slice a len ccap ∧ cap ≤ ccap ∧ len ≤ ccap ∧ (a = none → ccap = 0) ∧
  ((cs = [] ∧ len = 0) ∨ ∃ c off vs, a = some ⟨c, off, none⟩ ∧ F c ∧ CellsAt w c off vs ∧ VRL F ι w cs vs)
 | .nnsl len cap cs, v => ∃ a ccap, v = .slice (some a) len ccap ∧ cap ≤ ccap ∧ len ≤ ccap ∧
  ((cs = [] ∧ len = 0) ∨ ∃ c off vs, a = ⟨c, off, none⟩ ∧ F c ∧ CellsAt w c off vs ∧ VRL F ι w cs vs)
 | .func f first cap, v => ∃ fs cs, v = .func (.func f) fs cs ∧ VRL F ι w first fs.toList ∧ VRL F ι w cap cs.toList
 | .nilfn, v => v = .nilFunc
 | .someif, v => ∃ t x, v = .iface t x
 | .nilif, v => v = .nilIface
 | .agg cs, v => ∃ vs, v = .agg vs ∧ VRL F ι w cs vs.toList ∧ ∀ u ∈ vs.toList, u.oneCell' = true
 | .tuple xs, v => ∃ vs, v = .tuple vs ∧ VRL F ι w xs vs.toList
def VRL (F : Nat → Prop) (ι : Inj) (w : World) : List AV → List Value → Prop
 | [], vs => vs = []
 | x :: xs, vs => ∃ v rest, vs = v :: rest ∧ VR F ι w x v ∧ VRL F ι w xs rest
end
section
variable {F : Nat → Prop} {ι ι' : Inj} {w : World}
theorem VRL_nil {vs : List Value} : VRL F ι w [] vs ↔ vs = [] := by simp [VRL]
theorem VRL_cons {x : AV} {xs : List AV} {vs : List Value} : VRL F ι w (x :: xs) vs ↔ ∃ v rest, vs = v :: rest ∧ VR F ι w x v ∧ VRL F ι w xs rest := by simp [VRL]
theorem VRL.length : ∀ {xs : List AV} {vs : List Value}, VRL F ι w xs vs → xs.length = vs.length
 | [], vs, h => by rw [VRL_nil] at h; subst h; rfl
 | x :: xs, vs, h => by
  obtain ⟨v, rest, rfl, _, h2⟩ := VRL_cons.1 h
  simp [VRL.length h2]
theorem VRL.get : ∀ {xs : List AV} {vs : List Value}, VRL F ι w xs vs → ∀ (i : Nat) x, xs[i]? = some x → ∃ v, vs[i]? = some v ∧ VR F ι w x v
 | [], _, _, i, x, hx => by simp at hx
 | y :: xs, vs, h, i, x, hx => by
  obtain ⟨v, rest, rfl, h1, h2⟩ := VRL_cons.1 h
  cases i with
  | zero => simp at hx; subst hx; exact ⟨v, rfl, h1⟩
  | succ i => simp at hx; simpa using VRL.get h2 i x hx
theorem VRL.of_get : ∀ {xs : List AV} {vs : List Value}, xs.length = vs.length → (∀ (i : Nat) x v, xs[i]? = some x → vs[i]? = some v → VR F ι w x v) → VRL F ι w xs vs
 | [], vs, hl, _ => by rw [VRL_nil]; exact List.eq_nil_of_length_eq_zero hl.symm
 | x :: xs, [], hl, _ => by simp at hl
 | x :: xs, v :: vs, hl, h => VRL_cons.2 ⟨v, vs, rfl, h 0 x v rfl rfl, VRL.of_get (by simpa using hl) fun i a b ha hb => h (i + 1) a b (by simpa using ha) (by simpa using hb)⟩
theorem VRL.append : ∀ {xs ys : List AV} {vs us : List Value}, VRL F ι w xs vs → VRL F ι w ys us → VRL F ι w (xs ++ ys) (vs ++ us)
 | [], _, vs, _, h, h' => by rw [VRL_nil] at h; subst h; exact h'
 | x :: xs, ys, vs, us, h, h' => by
  obtain ⟨v, rest, rfl, h1, h2⟩ := VRL_cons.1 h
  exact VRL_cons.2 ⟨v, rest ++ us, rfl, h1, VRL.append h2 h'⟩
theorem VRL.drop : ∀ {xs : List AV} {vs : List Value} (n : Nat), VRL F ι w xs vs → VRL F ι w (xs.drop n) (vs.drop n)
 | xs, vs, 0, h => by simpa using h
 | [], vs, n + 1, h => by rw [VRL_nil] at h; subst h; simp [VRL_nil]
 | x :: xs, vs, n + 1, h => by
  obtain ⟨v, rest, rfl, h1, h2⟩ := VRL_cons.1 h
  simpa using VRL.drop n h2
theorem VRL.take : ∀ {xs : List AV} {vs : List Value} (n : Nat), VRL F ι w xs vs → VRL F ι w (xs.take n) (vs.take n)
 | xs, vs, 0, h => by simp [VRL_nil]
 | [], vs, n + 1, h => by rw [VRL_nil] at h; subst h; simp [VRL_nil]
 | x :: xs, vs, n + 1, h => by
  obtain ⟨v, rest, rfl, h1, h2⟩ := VRL_cons.1 h
  simp only [List.take_succ_cons]
  exact VRL_cons.2 ⟨v, _, rfl, h1, VRL.take n h2⟩
theorem CellsAt.drop {c off : Nat} {vs : List Value} (n : Nat) (h : CellsAt w c off vs) : CellsAt w c (off + n) (vs.drop n) := by
 obtain ⟨arr, e, fz, h1, h2⟩ := h
 refine ⟨arr, e, fz, h1, fun i v hv => ?_⟩
 rw [List.getElem?_drop] at hv
 rw [Nat.add_assoc]
 exact h2 _ v hv
theorem CellsAt.take {c off : Nat} {vs : List Value} (n : Nat) (h : CellsAt w c off vs) : CellsAt w c off (vs.take n) := by
 obtain ⟨arr, e, fz, h1, h2⟩ := h
 refine ⟨arr, e, fz, h1, fun i v hv => h2 i v ?_⟩
 rw [List.getElem?_take] at hv
 split at hv
 ·exact hv
 ·cases hv
def Inj.le (ι ι' : Inj) : Prop := ∀ id e, ι id = some e → ι' id = some e
theorem Inj.le_refl (ι : Inj) : Inj.le ι ι := fun _ _ h => h
theorem Inj.le_trans {a b c : Inj} (h : Inj.le a b) (h' : Inj.le b c) : Inj.le a c := fun _ _ h1 => h' _ _ (h _ _ h1)
mutual
theorem VR.mono {F' : Nat → Prop} {w' : World} (hF : ∀ c, F c → F' c) (hι : Inj.le ι ι') (hw : ∀ c, F c → w'.heap[c]? = w.heap[c]?) : ∀ (x : AV) {v : Value}, VR F ι w x v → VR F' ι' w' x v
 | .any, _, _ => by simp [VR]
 | .bool _, _, h => by simpa [VR] using h
 | .int _ _, _, h => by simpa [VR] using h
 | .str _, _, h => by simpa [VR] using h
 | .nilp, _, h => by simpa [VR] using h
 | .ptr id off, v, h => by
  simp only [VR] at h ⊢
  obtain ⟨c, h1, h2⟩ := h
  exact ⟨c, hι _ _ h1, h2⟩
 | .sptr cs, v, h => by
  simp only [VR] at h ⊢
  obtain ⟨c, off, vs, h1, h2, h3, h4⟩ := h
  exact ⟨c, off, vs, h1, hF _ h2, by unfold CellsAt at h3 ⊢; rw [hw c h2]; exact h3, VRL.mono hF hι hw cs h4⟩
 | .esl, _, h => by simpa [VR] using h
 | .nilsl, _, h => by simpa [VR] using h
 | .slice id off len cap, v, h => by
  simp only [VR] at h ⊢
  rcases h with ⟨c, ccap, off', h1, h2⟩ | ⟨h1, h2⟩
  ·exact Or.inl ⟨c, ccap, off', hι _ _ h1, h2⟩
  ·exact Or.inr ⟨hι _ _ h1, h2⟩
 | .sl len cap cs, v, h => by
  simp only [VR] at h ⊢
  obtain ⟨a, ccap, h1, h2, h3, hz, h4⟩ := h
  refine ⟨a, ccap, h1, h2, h3, hz, ?_⟩
  rcases h4 with h4 | ⟨c, off, vs, h5, h6, h7, h8⟩
  ·exact Or.inl h4
  ·exact Or.inr ⟨c, off, vs, h5, hF _ h6, by unfold CellsAt at h7 ⊢; rw [hw c h6]; exact h7, VRL.mono hF hι hw cs h8⟩
 | .nnsl len cap cs, v, h => by
  simp only [VR] at h ⊢
  obtain ⟨a, ccap, h1, h2, h3, h4⟩ := h
  refine ⟨a, ccap, h1, h2, h3, ?_⟩
  rcases h4 with h4 | ⟨c, off, vs, h5, h6, h7, h8⟩
  ·exact Or.inl h4
  ·exact Or.inr ⟨c, off, vs, h5, hF _ h6, by unfold CellsAt at h7 ⊢; rw [hw c h6]; exact h7, VRL.mono hF hι hw cs h8⟩
 | .func f first cap, v, h => by
  simp only [VR] at h ⊢
  obtain ⟨fs, cs, h1, h2, h3⟩ := h
  exact ⟨fs, cs, h1, VRL.mono hF hι hw first h2, VRL.mono hF hι hw cap h3⟩
 | .nilfn, _, h => by simpa [VR] using h
 | .someif, _, h => by simpa [VR] using h
 | .nilif, _, h => by simpa [VR] using h
 | .agg cs, v, h => by
  simp only [VR] at h ⊢
  obtain ⟨vs, h1, h2, h3⟩ := h
  exact ⟨vs, h1, VRL.mono hF hι hw cs h2, h3⟩
 | .tuple cs, v, h => by
  simp only [VR] at h ⊢
  obtain ⟨vs, h1, h2⟩ := h
  exact ⟨vs, h1, VRL.mono hF hι hw cs h2⟩
theorem VRL.mono {F' : Nat → Prop} {w' : World} (hF : ∀ c, F c → F' c) (hι : Inj.le ι ι') (hw : ∀ c, F c → w'.heap[c]? = w.heap[c]?) : ∀ (xs : List AV) {vs : List Value}, VRL F ι w xs vs → VRL F' ι' w' xs vs
 | [], _, h => by rw [VRL_nil] at h ⊢; exact h
 | x :: xs, vs, h => by
  obtain ⟨v, rest, rfl, h1, h2⟩ := VRL_cons.1 h
  exact VRL_cons.2 ⟨v, rest, rfl, VR.mono hF hι hw x h1, VRL.mono hF hι hw xs h2⟩
end
end
def AV.cells? : AV → Option (List AV)
 | .agg cs => some cs
 | .any | .tuple _ => none
 | v => some [v]
theorem VR.cells {F : Nat → Prop} {ι : Inj} {w : World} {x : AV} {v : Value} {cs : List AV} (h : VR F ι w x v) (hc : x.cells? = some cs) :
 VRL F ι w cs v.cells.toList ∧ ∀ u ∈ v.cells.toList, u.oneCell' = true := by
 cases x <;> simp only [AV.cells?, Option.some.injEq, reduceCtorEq] at hc <;> subst hc
 case agg cs =>
  simp only [VR] at h
  obtain ⟨vs, rfl, h2, h3⟩ := h
  exact ⟨h2, h3⟩
 case slice id off len cap =>
  simp only [VRL_cons, VRL_nil]
  have h' := h
  simp only [VR] at h
  rcases h with ⟨c, ccap, off', h1, rfl, h2⟩ | ⟨h1, _, _, a, rfl⟩
  ·exact ⟨⟨_, _, rfl, h', rfl⟩, by simp [Value.cells, Value.oneCell']⟩
  ·exact ⟨⟨_, _, rfl, h', rfl⟩, by simp [Value.cells, Value.oneCell']⟩
 all_goals
  simp only [VRL_cons, VRL_nil]
  have h' := h
  simp only [VR] at h
  first
   | (subst h; exact ⟨⟨_, _, rfl, h', rfl⟩, by simp [Value.cells, Value.oneCell']⟩)
   | (obtain ⟨c, h1, rfl⟩ := h; exact ⟨⟨_, _, rfl, h', rfl⟩, by simp [Value.cells, Value.oneCell']⟩)
   | (obtain ⟨a, rfl⟩ := h; exact ⟨⟨_, _, rfl, h', rfl⟩, by simp [Value.cells, Value.oneCell']⟩)
   | (obtain ⟨a, b, rfl⟩ := h; exact ⟨⟨_, _, rfl, h', rfl⟩, by simp [Value.cells, Value.oneCell']⟩)
   | (obtain ⟨a, b, rfl, _⟩ := h; exact ⟨⟨_, _, rfl, h', rfl⟩, by simp [Value.cells, Value.oneCell']⟩)
   | (obtain ⟨a, b, c, rfl, _⟩ := h; exact ⟨⟨_, _, rfl, h', rfl⟩, by simp [Value.cells, Value.oneCell']⟩)
def tSize (P : Program) (t : TypeId) : Option Nat := (P.info? t).map (·.size)
def tBytes (P : Program) (t : TypeId) : Option Nat := (P.info? t).map (·.bytes)
def tAgg (P : Program) (t : TypeId) : Option Bool := (P.underlying t).map fun d => match d with | .struct _ | .array _ _ => true | _ => false
def tField (P : Program) (s f : Nat) : Option (Nat × TypeId) := match P.underlying s with
 | some (.struct fs) => (fs[f]?).map fun x => (x.offset, x.type)
 | _ => none
def tElem (P : Program) (t : TypeId) : Option TypeId := match P.underlying t with
 | some (.slice e) => some e
 | _ => none
def tInt (P : Program) (t : TypeId) : Option IntKind := match P.underlying t with
 | some (.int k) => some k
 | _ => none
def tStr (P : Program) (t : TypeId) : Bool := match P.underlying t with | some .string => true | _ => false
def tBoo (P : Program) (t : TypeId) : Bool := match P.underlying t with | some .bool => true | _ => false
def tSli (P : Program) (t : TypeId) : Bool := match P.underlying t with | some (.slice _) => true | _ => false
def tIfc (P : Program) (t : TypeId) : Bool := match P.underlying t with | some (.interface _) => true | _ => false
def tSct (P : Program) (t : TypeId) : Bool := match P.underlying t with | some (.struct fs) => fs.toList.all fun f => (P.info? f.type).isSome | _ => false
def tIs (P : Program) (t : TypeId) : Bool := (P.underlying t).isSome
def ofV : Value → AV
 | .bool b => .bool b
 | .int k n => .int k n
 | .string s => .str s
 | .pointer a => match a with
  | none => .nilp
  | some _ => .any
 | .slice a n c => match a, n, c with
  | none, 0, 0 => .nilsl
  | _, _, _ => .any
 | .nilFunc => .nilfn
 | .nilIface => .nilif
 | _ => .any
def AV.isAny : AV → Bool
 | .any => true
 | _ => false
def tZero (P : Program) (t : TypeId) : Option (List AV) := match (P.info? t).bind (·.zero) with
 | some v => if (v.cells.toList.map ofV).all (fun x => !x.isAny) = true then some (v.cells.toList.map ofV) else none
 | none => none
def gtab : List (Nat × (Array Value → Prop)) := [(5, fun cs => cs = #[.int .u64 1, .int .u64 10, .int .u64 100, .int .u64 1000, .int .u64 10000, .int .u64 100000, .int .u64 1000000, .int .u64 10000000, .int .u64 100000000, .int .u64 1000000000, .int .u64 10000000000, .int .u64 100000000000, .int .u64 1000000000000, .int .u64 10000000000000, .int .u64 100000000000000, .int .u64 1000000000000000, .int .u64 10000000000000000, .int .u64 100000000000000000, .int .u64 1000000000000000000, .int .u64 10000000000000000000]), (1, fun cs => ∃ t x, cs[0]? = some (.iface t x)), (2, fun cs => ∃ t x, cs[0]? = some (.iface t x))]
def aeval (ρ : Env) : Operand → AV
 | .tmp t => ρ t
 | .const v => ofV v
 | .global g => .any
 | .func f => .func f [] []
inductive AEff where
 | nil
 | new (b : Blk)
 | set (id : Nat) (b : Blk)
 | move (id : Nat) (b : Blk)
def deadBlk : Blk := ⟨0, [], false, false⟩
def AEff.app (H : Heap) : AEff → Heap
 | .nil => H
 | .new b => H ++ [b]
 | .set id b => H.set id b
 | .move id b => H.set id deadBlk ++ [b]
def AEff.wr : AEff → List Nat
 | .set id _ | .move id _ => [id]
 | _ => []
def aload (P : Program) (t : TypeId) (cs : List AV) : Option AV :=
 match tAgg P t, tSize P t with
 | some true, some n => if n ≤ cs.length then some (.agg (cs.take n)) else none
 | some false, some _ => cs.head?
 | _, _ => none
def aLoad (P : Program) (H : Heap) (t : TypeId) : AV → Option AV
 | .ptr id off => match H[id]? with
  | some b => if b.live = true then aload P t (b.cells.drop off) else none
  | none => none
 | .sptr cs => aload P t cs
 | _ => none
def putAt (l : List AV) (off : Nat) (cs : List AV) : List AV := l.take off ++ cs ++ l.drop (off + cs.length)
def aStore (P : Program) (H : Heap) (t : TypeId) : AV → AV → Option AEff
 | .ptr id off, v => match H[id]?, v.cells?, tSize P t with
  | some b, some cs, some n => if b.live = true ∧ b.ro = false ∧ cs.length = n ∧ off + n ≤ b.cells.length then some (.set id { b with cells := putAt b.cells off cs }) else none
  | _, _, _ => none
 | _, _ => none
def aFieldAddr (P : Program) (s f : Nat) : AV → Option AV
 | .ptr id off => match tField P s f with
  | some (o, t) => match tSize P t with
   | some (_ + 1) => some (.ptr id (off + o))
   | _ => none
  | none => none
 | .sptr cs => match tField P s f with
  | some (o, t) => match tSize P t with
   | some (_ + 1) => some (.sptr (cs.drop o))
   | _ => none
  | none => none
 | _ => none
def aField (P : Program) (s f : Nat) : AV → Option AV
 | .agg cs => match tField P s f with
  | some (o, t) => aload P t (cs.drop o)
  | none => none
 | _ => none
def aIndexAddr (P : Program) (t : TypeId) : AV → AV → Option AV
 | .slice id off len cap, .int _ i => match (tElem P t).bind (tSize P) with
  | some n => if 0 ≤ i ∧ i < len then some (.ptr id (off + i.toNat * n)) else none
  | none => none
 | .sl len cap cs, .int _ i => match (tElem P t).bind (tSize P) with
  | some n => if 0 ≤ i ∧ i < len then some (.sptr (cs.drop (i.toNat * n))) else none
  | none => none
 | .nnsl len cap cs, .int _ i => match (tElem P t).bind (tSize P) with
  | some n => if 0 ≤ i ∧ i < len then some (.sptr (cs.drop (i.toNat * n))) else none
  | none => none
 | _, _ => none
def bat (s : ByteArray) (i : Nat) : Int := ((s.data.toList.getD i 0).toNat : Int)
def aIndex (P : Program) (t : TypeId) : AV → AV → Option AV
 | .str s, .int _ i => if tStr P t = true then (if 0 ≤ i ∧ i < (s.size : Int) then some (.int .u8 (bat s i.toNat)) else none) else none
 | _, _ => none
def aBound (y : Nat) : Option AV → Nat → Option Nat
 | none, d => some d
 | some (.int _ i), _ => if 0 ≤ i ∧ i ≤ (y : Int) then some i.toNat else none
 | some _, _ => none
def aSlice (P : Program) (t : TypeId) (x : AV) (lo hi mx : Option AV) : Option AV :=
 match x with
 | .str s => if tStr P t = true ∧ mx.isNone then
  match aBound s.size hi s.size with
  | some h => match aBound h lo 0 with
   | some l => some (.str (s.extract l h))
   | none => none
  | none => none
  else none
 | .slice id off len cap => match (tElem P t).bind (tSize P) with
  | some n => if n = 0 then none else match aBound (max len cap) mx (max len cap) with
   | some m => if mx.isSome ∧ hi.isNone then none else match aBound m hi len with
    | some h => match aBound h lo 0 with
     | some l => some (.slice id (off + l * n) (h - l) (m - l))
     | none => none
    | none => none
   | none => none
  | none => none
 | .sl len cap cs => match (tElem P t).bind (tSize P) with
  | some n => if mx.isSome then none else match aBound len hi len with
   | some h => match aBound h lo 0 with
    | some l => some (.sl (h - l) (h - l) ((cs.drop (l * n)).take ((h - l) * n)))
    | none => none
   | none => none
  | none => none
 | .esl | .nilsl => match (tElem P t).bind (tSize P) with
  | some _ => if mx.isSome then none else match aBound 0 hi 0 with
   | some h => match aBound h lo 0 with
    | some _ => some .esl
    | none => none
   | none => none
  | none => none
 | _ => none
def bitop (op : BinOp) (k : IntKind) (a b : Int) : Int :=
 match op with
 | .and => k.wrap (BitVec.ofInt k.bits a &&& BitVec.ofInt k.bits b).toNat
 | .or => k.wrap (BitVec.ofInt k.bits a ||| BitVec.ofInt k.bits b).toNat
 | .xor => k.wrap (BitVec.ofInt k.bits a ^^^ BitVec.ofInt k.bits b).toNat
 | _ => k.wrap (BitVec.ofInt k.bits a &&& ~~~ BitVec.ofInt k.bits b).toNat
def aInt (op : BinOp) (k : IntKind) (a b : Int) : Option AV :=
 match op with
 | .add => some (.int k (k.wrap (a + b)))
 | .sub => some (.int k (k.wrap (a - b)))
 | .mul => some (.int k (k.wrap (a * b)))
 | .quo => if b = 0 then none else some (.int k (k.wrap (a.tdiv b)))
 | .rem => if b = 0 then none else some (.int k (a.tmod b))
 | .and | .or | .xor | .andNot => some (.int k (bitop op k a b))
 | .eql => some (.bool (decide (a = b)))
 | .neq => some (.bool (!decide (a = b)))
 | .lss => some (.bool (decide (a < b)))
 | .leq => some (.bool (decide (a ≤ b)))
 | .gtr => some (.bool (decide (a > b)))
 | .geq => some (.bool (decide (a ≥ b)))
 | _ => none
def eqFs (P : Program) (eqv : TypeId → AV → AV → Option Bool) (xs ys : List AV) : List Field → Option Bool
 | [] => some true
 | f :: fs =>
  if f.name ≠ "_" then
   match aload P f.type (xs.drop f.offset), aload P f.type (ys.drop f.offset) with
   | some a, some b => match eqv f.type a b with
    | some true => eqFs P eqv xs ys fs
    | some false => some false
    | none => none
   | _, _ => none
  else eqFs P eqv xs ys fs
def eqV (P : Program) : Nat → TypeId → AV → AV → Option Bool
 | 0, _, _, _ => none
 | d + 1, t, x, y => match x with
  | .int k a => match y with
   | .int k' b => if (tInt P t).isSome = true ∧ k = k' then some (decide (a = b)) else none
   | _ => none
  | .bool a => match y with
   | .bool b => if tBoo P t = true then some (a == b) else none
   | _ => none
  | .str a => match y with
   | .str b => if tStr P t = true then some (decide (a = b)) else none
   | _ => none
  | .agg xs => match y with
   | .agg ys => match P.underlying t with
    | some (.struct fs) => if P.stoodInHeld t = false then eqFs P (eqV P d) xs ys fs.toList else none
    | _ => none
   | _ => none
  | _ => none
def aEq (P : Program) (t : TypeId) : AV → AV → Option Bool
 | .bool a, .bool b => if tBoo P t = true then some (a == b) else none
 | .agg xs, .agg ys => if P.eqGuardType P.depth t = false then eqV P Op.maxDepth t (.agg xs) (.agg ys) else none
 | .nilsl, .nilsl => if tSli P t = true then some true else none
 | .nnsl _ _ _, .nilsl => if tSli P t = true then some false else none
 | .nilif, .nilif => if tIfc P t = true then some true else none
 | .someif, .nilif => if tIfc P t = true then some false else none
 | _, _ => none
def aBin (P : Program) (op : BinOp) (t : TypeId) (x y : AV) : Option AV :=
 match x, y with
 | .int k a, .int k' b => match op with
  | .shl => if b < 0 then none else some (.int k (k.wrap (a * 2 ^ (min b.toNat k.bits))))
  | .shr => if b < 0 then none else some (.int k (a.fdiv (2 ^ (min b.toNat k.bits))))
  | _ => if k = k' then aInt op k a b else none
 | .str a, .str b => match op with
  | .add => if ((a.size + b.size : Nat) : Int) ≤ 9223372036854775807 then some (.str (a ++ b)) else none
  | .eql => some (.bool (decide (a = b)))
  | .neq => some (.bool (!decide (a = b)))
  | _ => none
 | x, y => match op with
  | .eql => (aEq P t x y).map .bool
  | .neq => (aEq P t x y).map fun b => .bool (!b)
  | _ => none
def aUn (op : UnOp) : AV → Option AV
 | .bool b => match op with | .not => some (.bool (!b)) | _ => none
 | .int k n => match op with | .neg => some (.int k (k.wrap (0 - n))) | _ => none
 | _ => none
def byteCells (s : ByteArray) : List AV := s.data.toList.map fun b => .int .u8 b.toNat
def cellByte? : AV → Option UInt8
 | .int .u8 n => some (UInt8.ofNat n.toNat)
 | _ => none
def bytesOf? (cs : List AV) : Option (List UInt8) := cs.mapM cellByte?
def aCells (H : Heap) (sz : Nat) : AV → Option (Nat × List AV)
 | .esl | .nilsl => some (0, [])
 | .sl n _ cs | .nnsl n _ cs => if n * sz ≤ cs.length then some (n, cs.take (n * sz)) else none
 | .slice id off n _ => match H[id]? with
  | some b => if b.live = true ∧ off + n * sz ≤ b.cells.length then some (n, (b.cells.drop off).take (n * sz)) else none
  | none => none
 | _ => none
def aAppend (P : Program) (H : Heap) (t t' : TypeId) (s x : AV) : Option (AV × AEff) :=
 match tElem P t with
 | none => none
 | some e => match tSize P e, tBytes P e, tZero P e with
  | some sz, some by_, some z => if t ≠ t' ∨ sz = 0 ∨ z.length ≠ sz then none else match aCells H sz x with
   | none => none
   | some (n, cs) => match s with
    | .esl | .nilsl => if n * by_ ≤ 140737488355328 ∧ n ≤ 9223372036854775807 then some (.slice H.length 0 n 0, .new ⟨sz, cs, true, false⟩) else none
    | .slice id off len cap => match H[id]? with
     | none => none
     | some b => if b.live = true ∧ b.ro = false ∧ b.sz = sz ∧ off = 0 ∧ len * sz ≤ b.cells.length ∧ (len + n) * by_ ≤ 140737488355328 ∧ len + n ≤ 9223372036854775807 then
      if 0 < cap ∧ len + n ≤ cap ∧ (len + n) * sz ≤ b.cells.length then some (.slice id 0 (len + n) cap, .set id { b with cells := putAt b.cells (len * sz) cs })
      else some (.slice H.length 0 (len + n) 0, .move id ⟨sz, b.cells.take (len * sz) ++ cs, true, false⟩)
      else none
    | _ => none
  | _, _, _ => none
def aAppMake (P : Program) (H : Heap) (t t' : TypeId) (s x : AV) : Option (AV × AEff) :=
 match tElem P t, tInt P t' with
 | some e, some _ => match tSize P e, tBytes P e, tZero P e with
  | some sz, some by_, some z => match s, x with
   | .esl, .int .i64 n => if z.length = sz ∧ 0 < sz ∧ 0 < n ∧ n ≤ 9223372036854775807 ∧ n * by_ ≤ 140737488355328 then some (.slice H.length 0 n.toNat 0, .new ⟨sz, [], true, false⟩) else none
   | _, _ => none
  | _, _, _ => none
 | _, _ => none
def aCopy (P : Program) (H : Heap) (t t' : TypeId) (d x : AV) : Option (AV × AEff) :=
 match tElem P t with
 | none => none
 | some e => match tSize P e with
  | some sz => if t ≠ t' then none else match aCells H sz x with
   | none => none
   | some (n, cs) => match d with
    | .slice id off len cap => match H[id]? with
     | none => none
     | some b => if b.live = true ∧ b.ro = false ∧ off + len * sz ≤ b.cells.length then
      some (.int .i64 (Nat.min n len : Nat), .set id { b with cells := putAt b.cells off (cs.take (Nat.min n len * sz)) })
      else none
    | _ => none
  | none => none
def aClear (P : Program) (H : Heap) (t : TypeId) (d : AV) : Option AEff :=
 match tElem P t with
 | none => none
 | some e => match tSize P e, tZero P e with
  | some sz, some z => if z.length ≠ sz then none else match d with
   | .slice id off len _ => match H[id]? with
    | none => none
    | some b => if b.live = true ∧ b.ro = false ∧ off + len * sz ≤ b.cells.length then
     some (.set id { b with cells := putAt b.cells off (List.replicate len z).flatten })
     else none
   | _ => none
  | _, _ => none
def aLen (P : Program) (t : TypeId) : AV → Option AV
 | .str s => if tStr P t = true then some (.int .i64 s.size) else none
 | .esl | .nilsl => if tSli P t = true then some (.int .i64 0) else none
 | .slice _ _ n _ | .sl n _ _ | .nnsl n _ _ => if tSli P t = true then some (.int .i64 n) else none
 | _ => none
def aCap (P : Program) (t : TypeId) : AV → Option AV
 | .esl | .nilsl => if tSli P t = true then some (.int .i64 0) else none
 | _ => none
def aMake (P : Program) (H : Heap) (t : TypeId) (l c : AV) : Option (AV × AEff) :=
 match tElem P t with
 | none => none
 | some e => match tSize P e, tBytes P e, tZero P e with
  | some sz, some by_, some z => match l, c with
   | .int _ l, .int _ c => if z.length = sz ∧ 0 < sz ∧ 0 ≤ l ∧ l ≤ c ∧ c ≤ 9223372036854775807 ∧ by_ * c ≤ 281474976710656 then
    some (.slice H.length 0 l.toNat c.toNat, .new ⟨sz, (List.replicate c.toNat z).flatten, true, false⟩) else none
   | _, _ => none
  | _, _, _ => none
def aFill (P : Program) (t : TypeId) (cs : List AV) : List (Nat × AV) → Option (List AV)
 | [] => some cs
 | (i, v) :: rest => match tField P t i, v.cells? with
  | some (o, ft), some vs => if tSize P ft = some vs.length ∧ o + vs.length ≤ cs.length then aFill P t (putAt cs o vs) rest else none
  | _, _ => none
def aRow (sz : Nat) : Nat → List (Nat × AV) → Option (List AV)
 | _, [] => some []
 | k, (i, v) :: rest => match v.cells? with
  | some vs => if i = k ∧ vs.length = sz then (aRow sz (k + 1) rest).map (vs ++ ·) else none
  | none => none
def isC : Operand → Bool
 | .const _ => true
 | _ => false
def gOk (x y : Operand) : AV → AV → Bool
 | .nilif, .nilif => isC x || isC y
 | _, _ => true
def aBuiltin (P : Program) (H : Heap) (b : Builtin) (xs : List AV) (ts : List TypeId) : Option (AV × AEff) :=
 match b with
 | .len => match xs, ts with
  | [x], [t] => (aLen P t x).map fun v => (v, .nil)
  | _, _ => none
 | .cap => match xs, ts with
  | [x], [t] => (aCap P t x).map fun v => (v, .nil)
  | _, _ => none
 | .append => match xs, ts with
  | [s, x], [t, t'] => if t = t' then aAppend P H t t' s x else aAppMake P H t t' s x
  | _, _ => none
 | .copy => match xs, ts with
  | [s, x], [t, t'] => aCopy P H t t' s x
  | _, _ => none
 | .clear => match xs, ts with
  | [x], [t] => (aClear P H t x).map fun e => (.any, e)
  | _, _ => none
 | .min => match xs with
  | [.int k a, .int k' b] => if k = k' then some (.int k (if b < a then b else a), .nil) else none
  | _ => none
 | .max => match xs with
  | [.int k a, .int k' b] => if k = k' then some (.int k (if b > a then b else a), .nil) else none
  | _ => none
 | _ => none
def AV.isSl : AV → Bool
 | .slice _ _ _ _ => true
 | _ => false
def aSelf (P : Program) (H : Heap) (t : TypeId) : AV → Option (AV × AEff)
 | .slice id off len cap => match (tElem P t).bind (tInt P), H[id]? with
  | some .u8, some b => if b.live = true ∧ 0 < len then some (.slice id off len cap, .set id { b with ro := true }) else none
  | _, _ => none
 | _ => none
def aop (P : Program) (ρ : Operand → AV) (H : Heap) : Op → Option (AV × AEff)
 | .move x | .assign x => some (ρ x, .nil)
 | .pick c a b => match ρ c with
  | .bool t => some (if t = true then ρ a else ρ b, .nil)
  | _ => none
 | .alloc t => match tZero P t, tSize P t with
  | some z, some n => if z.length = n then some (.ptr H.length 0, .new ⟨n, z, true, false⟩) else none
  | _, _ => none
 | .box t x => match (ρ x).cells? with
  | some cs => some (.ptr H.length 0, .new ⟨cs.length, cs, true, false⟩)
  | none => none
 | .build t ps => match tSct P t, tZero P t with
  | true, some z => match aFill P t z (ps.toList.map fun p => (p.1, ρ p.2)) with
   | some cs => some (.agg cs, .nil)
   | none => none
  | _, _ => none
 | .buildSlice t n ps => match (tElem P t).bind (tSize P), ((tElem P t).bind (tZero P)) with
  | some sz, some z => if n = 0 ∧ ps = #[] then some (.esl, .nil) else if ps.size = n ∧ n * sz ≤ 16777216 ∧ z.length = sz ∧ 0 < sz then
   match aRow sz 0 (ps.toList.map fun p => (p.1, ρ p.2)) with
   | some cs => some (.slice H.length 0 n n, .new ⟨sz, cs, true, false⟩)
   | none => none
   else none
  | _, _ => none
 | .load t a => (aLoad P H t (ρ a)).map fun v => (v, .nil)
 | .store t a x => (aStore P H t (ρ a) (ρ x)).map fun e => (.any, e)
 | .nilCheck x => match ρ x with
  | .ptr id off => some (.ptr id off, .nil)
  | .sptr cs => some (.sptr cs, .nil)
  | _ => none
 | .binOp op t x y _ => if gOk x y (ρ x) (ρ y) = true then (aBin P op t (ρ x) (ρ y)).map fun v => (v, .nil) else none
 | .unOp op _ x => (aUn op (ρ x)).map fun v => (v, .nil)
 | .convert src dst x => if src = dst ∧ (ρ x).isSl = true then aSelf P H dst (ρ x) else match ρ x with
  | .int _ n => match tInt P dst, tIs P src with
   | some k, true => some (.int k (k.wrap n), .nil)
   | _, _ => none
  | .str s => match tStr P src, (tElem P dst).bind (tInt P), (tElem P dst).bind (tSize P) with
   | true, some .u8, some 1 => if s.size ≤ 9223372036854775807 then some (.slice H.length 0 s.size 0, .new ⟨1, byteCells s, true, true⟩) else none
   | _, _, _ => none
  | x => match tStr P dst, (tElem P src).bind (tInt P), aCells H 1 x with
   | true, some .u8, some (_, cs) => match bytesOf? cs with
    | some bs => some (.str ⟨bs.toArray⟩, .nil)
    | none => none
   | _, _, _ => none
 | .makeFunc (.func f) first captured => some (.func f (first.toList.map ρ) (captured.toList.map ρ), .nil)
 | .makeSlice t l c => aMake P H t (ρ l) (ρ c)
 | .slice t x lo hi mx => (aSlice P t (ρ x) (lo.map ρ) (hi.map ρ) (mx.map ρ)).map fun v => (v, .nil)
 | .fieldAddr s x f => (aFieldAddr P s f (ρ x)).map fun v => (v, .nil)
 | .field s x f => (aField P s f (ρ x)).map fun v => (v, .nil)
 | .indexAddr t x i => (aIndexAddr P t (ρ x) (ρ i)).map fun v => (v, .nil)
 | .index t x i => (aIndex P t (ρ x) (ρ i)).map fun v => (v, .nil)
 | .extract x i => match ρ x with
  | .tuple vs => (vs[i]?).map fun v => (v, .nil)
  | _ => none
 | .call c => match c.callee with
  | .builtin b => aBuiltin P H b (c.args.toList.map ρ) c.argTypes.toList
  | _ => none
 | _ => none
section
variable {P : Program} {F : Nat → Prop} {ι ι' : Inj} {w0 : World}
def BR (F : Nat → Prop) (ι : Inj) (w0 : World) (b : Blk) (c : Emb) (w : World) : Prop :=
 ∃ arr t fz, w.heap[c.blk]? = some (.cells arr t fz) ∧ arr.size = c.room * b.sz ∧ (b.ro = false → fz = (0, 0)) ∧
  ∃ vs rest, arr.toList = vs ++ rest ∧ VRL F ι w0 b.cells vs ∧ ∀ u ∈ vs, u.oneCell' = true
def BRo (F : Nat → Prop) (ι : Inj) (w0 : World) (b : Blk) (e : Option Emb) (w : World) : Prop :=
 match e with
 | none => b.cells = []
 | some c => BR F ι w0 b c w
theorem BR.mono {b : Blk} {c : Emb} {w w' : World} (h : BR F ι w0 b c w) (hι : Inj.le ι ι') (hw : w'.heap[c.blk]? = w.heap[c.blk]?) : BR F ι' w0 b c w' := by
 obtain ⟨arr, t, fz, h1, h2, h4, vs, rest, h5, h6, h7⟩ := h
 exact ⟨arr, t, fz, by rw [hw]; exact h1, h2, h4, vs, rest, h5, VRL.mono (fun _ h => h) hι (fun _ _ => rfl) _ h6, h7⟩
theorem BRo.mono {b : Blk} {e : Option Emb} {w w' : World} (h : BRo F ι w0 b e w) (hι : Inj.le ι ι') (hw : ∀ c, e = some c → w'.heap[c.blk]? = w.heap[c.blk]?) : BRo F ι' w0 b e w' := by
 cases e with
 | none => exact h
 | some c => exact BR.mono h hι (hw c rfl)
structure Eff (F : Nat → Prop) (w0 : World) (ι ι' : Inj) (H H' : Heap) (W : List Nat) (w w' : World) : Prop where
 len : H.length ≤ H'.length
 le : Inj.le ι ι'
 old : ∀ id, (id < H.length ∨ H'.length ≤ id) → ι' id = ι id
 new : ∀ id, H.length ≤ id → id < H'.length → ∃ e, ι' id = some e ∧ (∀ b, H'[id]? = some b → b.live = true → BRo F ι' w0 b e w')
 newAt : ∀ id c, H.length ≤ id → id < H'.length → ι' id = some (some c) → w.heap.size ≤ c.blk ∨ ∃ k c', k ∈ W ∧ ι k = some (some c') ∧ c'.blk = c.blk ∧ ∀ b, H'[k]? = some b → b.live = false
 newInj : ∀ id id' c c', H.length ≤ id → id < H'.length → H.length ≤ id' → id' < H'.length → ι' id = some (some c) → ι' id' = some (some c') → c.blk = c'.blk → id = id'
 wr : ∀ id b e, id ∈ W → H'[id]? = some b → b.live = true → ι id = some e → BRo F ι' w0 b e w'
 same : ∀ id, id < H.length → id ∉ W → H'[id]? = H[id]?
 frame : ∀ c, c < w.heap.size → (∀ id e, id ∈ W → ι id = some (some e) → e.blk ≠ c) → w'.heap[c]? = w.heap[c]?
 os : w'.os = w.os
 tape : w'.tape = w.tape
 out : w'.output = w.output
 size : w.heap.size ≤ w'.heap.size
theorem Eff.refl (F : Nat → Prop) (w0 : World) (ι : Inj) (H : Heap) (w : World) : Eff F w0 ι ι H H [] w w where
 len := Nat.le_refl _
 le := Inj.le_refl _
 old := fun _ _ => rfl
 new := fun id h1 h2 => absurd h2 (by omega)
 newAt := fun id _ h1 h2 => absurd h2 (by omega)
 newInj := fun id _ _ _ h1 h2 => absurd h2 (by omega)
 wr := fun _ _ _ h => absurd h (by simp)
 same := fun _ _ _ => rfl
 frame := fun _ _ _ => rfl
 os := rfl
 tape := rfl
 out := rfl
 size := Nat.le_refl _
def Inj.set (ι : Inj) (id : Nat) (e : Option Emb) : Inj := fun i => if i = id then some e else ι i
theorem Inj.le_set {id : Nat} {e : Option Emb} (h : ι id = none) : Inj.le ι (ι.set id e) := by
 intro i x hx
 unfold Inj.set
 split
 ·subst_vars; rw [h] at hx; cases hx
 ·exact hx
theorem Eff.alloc {H : Heap} {w w' : World} {b : Blk} {arr : Array Value} {t : TypeId} {fz : Nat × Nat} {vs : List Value} {room : Nat} (hnew : ι H.length = none) (hroom : arr.size = room * b.sz)
 (hh : w'.heap = w.heap.push (.cells arr t fz)) (hfz : b.ro = false → fz = (0, 0)) (hv : VRL F ι w0 b.cells vs) (h1 : ∀ u ∈ vs, u.oneCell' = true) {rest : List Value} (hg : arr.toList = vs ++ rest)
 (ho : w'.os = w.os) (ht : w'.tape = w.tape) (hout : w'.output = w.output) :
 Eff F w0 ι (ι.set H.length (some ⟨w.heap.size, room⟩)) H (H ++ [b]) [] w w' := by
 have hle := Inj.le_set (e := some (⟨w.heap.size, room⟩ : Emb)) hnew
 refine ⟨by simp, hle, ?_, ?_, ?_, ?_, ?_, ?_, ?_, ho, ht, hout, by rw [hh]; simp⟩
 ·intro id h
  unfold Inj.set
  rw [if_neg]
  intro e
  subst e
  simp at h
  omega
 ·intro id h2 h3
  simp at h3
  have : id = H.length := by omega
  subst this
  refine ⟨some ⟨w.heap.size, room⟩, by simp [Inj.set], fun b' hb' _ => ?_⟩
  simp at hb'
  subst hb'
  exact ⟨arr, t, fz, by simp [hh], hroom, hfz, vs, rest, hg, VRL.mono (fun _ h => h) hle (fun _ _ => rfl) _ hv, h1⟩
 ·intro id c h2 h3 h4
  simp at h3
  have : id = H.length := by omega
  subst this
  simp [Inj.set] at h4
  subst h4
  exact Or.inl (Nat.le_refl _)
 ·intro id id' c c' h2 h3 h4 h5 _ _ _
  simp at h3 h5
  omega
 ·intro id b e h; simp at h
 ·intro id h2 _
  simp [List.getElem?_append_left h2]
 ·intro c hc _
  rw [hh]
  simp [Array.getElem?_push, Nat.ne_of_lt hc]
theorem Eff.write {H : Heap} {w w' : World} {id : Nat} {b : Blk} {c : Emb} (hid : id < H.length) (hc : ι id = some (some c)) (hb : BR F ι w0 b c w')
 (hframe : ∀ k, k ≠ c.blk → w'.heap[k]? = w.heap[k]?) (hs : w'.heap.size = w.heap.size)
 (ho : w'.os = w.os) (ht : w'.tape = w.tape) (hout : w'.output = w.output) :
 Eff F w0 ι ι H (H.set id b) [id] w w' := by
 refine ⟨by simp, Inj.le_refl _, fun _ _ => rfl, ?_, ?_, ?_, ?_, ?_, ?_, ho, ht, hout, by omega⟩
 ·intro id' h2 h3; simp at h3; omega
 ·intro id' c h2 h3; simp at h3; omega
 ·intro id' _ _ _ h2 h3; simp at h3; omega
 ·intro id' b' e h h2 h3 h4
  simp at h
  subst h
  simp [hid] at h2
  subst h2
  rw [hc] at h4
  obtain rfl := Option.some.inj h4
  exact hb
 ·intro id' h2 h3
  simp at h3
  rw [List.getElem?_set_ne (fun e => h3 e.symm)]
 ·intro k hk h
  exact hframe k (fun e => h id c (by simp) hc e.symm)
end
section
variable {P : Program} {w : World}
theorem tSize_run {t : TypeId} {n : Nat} (h : tSize P t = some n) (w : World) : (sizeOf t).run P w = .ok n w := by
 unfold tSize at h
 obtain ⟨i, h1, h2⟩ := Option.map_eq_some_iff.1 h
 simp [sizeOf, typeInfo, h1, h2]
theorem tSize_info {t : TypeId} {n : Nat} (h : tSize P t = some n) : ∃ i, P.info? t = some i ∧ i.size = n := Option.map_eq_some_iff.1 h
theorem tBytes_info {t : TypeId} {n : Nat} (h : tBytes P t = some n) : ∃ i, P.info? t = some i ∧ i.bytes = n := Option.map_eq_some_iff.1 h
theorem tElem_eq {t e : TypeId} (h : tElem P t = some e) : P.underlying t = some (.slice e) := by
 unfold tElem at h
 split at h
 ·rename_i x hx; rw [hx]; simp at h; rw [h]
 ·cases h
theorem tInt_eq {t : TypeId} {k : IntKind} (h : tInt P t = some k) : P.underlying t = some (.int k) := by
 unfold tInt at h
 split at h
 ·rename_i x hx; rw [hx]; simp at h; rw [h]
 ·cases h
theorem tStr_eq {t : TypeId} (h : tStr P t = true) : P.underlying t = some .string := by unfold tStr at h; split at h <;> simp_all
theorem tBoo_eq {t : TypeId} (h : tBoo P t = true) : P.underlying t = some .bool := by unfold tBoo at h; split at h <;> simp_all
theorem tSli_eq {t : TypeId} (h : tSli P t = true) : ∃ e, P.underlying t = some (.slice e) := by unfold tSli at h; split at h <;> simp_all
theorem tIfc_eq {t : TypeId} (h : tIfc P t = true) : ∃ e, P.underlying t = some (.interface e) := by unfold tIfc at h; split at h <;> simp_all
theorem tSct_eq {t : TypeId} (h : tSct P t = true) : ∃ fs, P.underlying t = some (.struct fs) ∧ ∀ f ∈ fs.toList, ∃ i, P.info? f.type = some i := by
 unfold tSct at h
 split at h
 ·rename_i fs hfs
  refine ⟨fs, hfs, fun f hf => ?_⟩
  have := List.all_eq_true.1 h f hf
  exact Option.isSome_iff_exists.1 this
 ·cases h
theorem tIs_eq {t : TypeId} (h : tIs P t = true) : ∃ d, P.underlying t = some d := by unfold tIs at h; exact Option.isSome_iff_exists.1 h
theorem tAgg_run {t : TypeId} {b : Bool} (h : tAgg P t = some b) (w : World) : (isAgg t).run P w = .ok b w := by
 unfold tAgg at h
 obtain ⟨d, h1, h2⟩ := Option.map_eq_some_iff.1 h
 unfold isAgg
 simp only [Sem.run_bind, run_underlying h1, Result.andThen_ok]
 subst h2
 cases d <;> rfl
theorem tField_eq {s f o t : Nat} (h : tField P s f = some (o, t)) : ∃ fs fd, P.underlying s = some (.struct fs) ∧ fs[f]? = some fd ∧ fd.offset = o ∧ fd.type = t := by
 unfold tField at h
 split at h
 ·rename_i fs hx
  obtain ⟨fd, h1, h2⟩ := Option.map_eq_some_iff.1 h
  simp at h2
  exact ⟨fs, fd, hx, h1, h2.1, h2.2⟩
 ·cases h
theorem tZero_info {t : TypeId} {z : List AV} (h : tZero P t = some z) : ∃ i v, P.info? t = some i ∧ i.zero = some v ∧ v.cells.toList.map ofV = z ∧ ∀ u ∈ v.cells.toList, (ofV u).isAny = false := by
 unfold tZero at h
 split at h
 ·rename_i v hv
  obtain ⟨i, h3, h4⟩ := Option.bind_eq_some_iff.1 hv
  split at h
  ·rename_i hc
   refine ⟨i, v, h3, h4, Option.some.inj h, fun u hu => ?_⟩
   have := List.all_eq_true.1 hc (ofV u) (List.mem_map_of_mem hu)
   simpa using this
  ·cases h
 ·cases h
variable {F : Nat → Prop} {ι : Inj} {w0 : World}
theorem VR_ofV (v : Value) : VR F ι w0 (ofV v) v := by
 cases v with
 | pointer a => cases a <;> simp [ofV, VR]
 | slice a n c => cases a <;> cases n <;> cases c <;> simp [ofV, VR]
 | _ => simp [ofV, VR]
theorem ofV_one {v : Value} (hx : (ofV v).isAny = false) : v.oneCell' = true := by
 cases v <;> first | rfl | (simp [ofV, AV.isAny] at hx)
theorem tZero_rel {t : TypeId} {z : List AV} (h : tZero P t = some z) : ∃ i v, P.info? t = some i ∧ i.zero = some v ∧ VRL F ι w0 z v.cells.toList ∧ ∀ u ∈ v.cells.toList, u.oneCell' = true := by
 obtain ⟨i, v, h1, h2, h3, h4⟩ := tZero_info h
 refine ⟨i, v, h1, h2, ?_, fun u hu => ofV_one (h4 u hu)⟩
 subst h3
 refine VRL.of_get (by simp) fun k x u hx hu => ?_
 rw [List.getElem?_map, hu] at hx
 simp at hx
 subst hx
 exact VR_ofV u
end
theorem addr_add (c off n : Nat) : (⟨c, off, none⟩ : Addr).add n = ⟨c, off + n, none⟩ := by unfold Addr.add; split <;> simp_all
section
variable {P : Program} {F : Nat → Prop} {ι ι' : Inj} {w0 w : World}
theorem CellsAt.cell {c off : Nat} {vs : List Value} (h : CellsAt w c off vs) : ∀ (j : Nat) v, vs[j]? = some v → w.cell? ((⟨c, off, none⟩ : Addr).add j) = some v := by
 obtain ⟨arr, e, fz, h1, h2⟩ := h
 intro j v hv
 rw [addr_add, cell_of_row w c (off + j) arr e fz h1]
 exact (h2 j v hv).1
theorem CellsAt.one {c off : Nat} {vs : List Value} (h : CellsAt w c off vs) : ∀ u ∈ vs, u.oneCell' = true := by
 obtain ⟨arr, e, fz, h1, h2⟩ := h
 intro u hu
 obtain ⟨i, hi⟩ := List.getElem?_of_mem hu
 exact (h2 i u hi).2
theorem CellsAt.world {c off : Nat} {vs : List Value} {w' : World} (h : CellsAt w c off vs) (hw : w'.heap[c]? = w.heap[c]?) : CellsAt w' c off vs := by
 unfold CellsAt at *; rw [hw]; exact h
theorem BR.cellsAt {b : Blk} {c : Emb} (h : BR F ι w0 b c w) : ∃ vs, VRL F ι w0 b.cells vs ∧ CellsAt w c.blk 0 vs := by
 obtain ⟨arr, t, fz, h1, h2, h4, vs, rest, h5, h6, h7⟩ := h
 refine ⟨vs, h6, arr, t, fz, h1, fun i v hv => ⟨?_, h7 v (List.mem_of_getElem? hv)⟩⟩
 rw [Nat.zero_add, ← Array.getElem?_toList, h5, List.getElem?_append_left (List.getElem?_eq_some_iff.1 hv).1]
 exact hv
theorem load_sound {t : TypeId} {xs : List AV} {vs : List Value} {x : AV} {c off : Nat} (hx : aload P t xs = some x) (hv : VRL F ι w0 xs vs) (hc : CellsAt w c off vs) :
 ∃ v, (loadVar t ⟨c, off, none⟩).run P w = .ok v w ∧ VR F ι w0 x v := by
 unfold aload at hx
 cases ha : tAgg P t with
 | none => simp [ha] at hx
 | some ag =>
  cases hs : tSize P t with
  | none => simp [ha, hs] at hx
  | some n =>
   cases ag with
   | true =>
    simp only [ha, hs] at hx
    split at hx
    ·rename_i hn
     obtain rfl := Option.some.inj hx
     have hl := hv.length
     have hc' := hc.take n
     have hlen : (vs.take n).length = n := by rw [List.length_take]; omega
     refine ⟨.agg (vs.take n).toArray, ?_, ?_⟩
     ·unfold loadVar
      simp only [Sem.run_bind, tAgg_run ha, Result.andThen_ok, if_true, tSize_run hs]
      have := run_loadCells_list (P := P) w ⟨c, off, none⟩ (vs.take n) hc'.cell
      rw [hlen] at this
      rw [this]
      rfl
     ·simp only [VR]
      exact ⟨_, rfl, hv.take n, by simpa using hc'.one⟩
    ·cases hx
   | false =>
    simp only [ha, hs] at hx
    cases xs with
    | nil => simp at hx
    | cons y ys =>
     simp at hx
     subst hx
     obtain ⟨v, rest, rfl, h1, _⟩ := VRL_cons.1 hv
     refine ⟨v, ?_, h1⟩
     have := hc.cell 0 v rfl
     rw [addr_add, Nat.add_zero] at this
     unfold loadVar
     simp [tAgg_run ha, this]
theorem part_sound {t : TypeId} {xs : List AV} {vs : List Value} {x : AV} {off : Nat} (hx : aload P t (xs.drop off) = some x) (hv : VRL F ι w0 xs vs) (h1 : ∀ u ∈ vs, u.oneCell' = true) (w : World) :
 ∃ v, (part t vs.toArray off).run P w = .ok v w ∧ VR F ι w0 x v := by
 unfold aload at hx
 cases ha : tAgg P t with
 | none => simp [ha] at hx
 | some ag =>
  cases hs : tSize P t with
  | none => simp [ha, hs] at hx
  | some n =>
   cases ag with
   | true =>
    simp only [ha, hs] at hx
    split at hx
    ·rename_i hn
     obtain rfl := Option.some.inj hx
     refine ⟨.agg (vs.toArray.extract off (off + n)), ?_, ?_⟩
     ·unfold part
      simp [tAgg_run ha, tSize_run hs]
     ·simp only [VR]
      refine ⟨_, rfl, ?_, ?_⟩
      ·have := (hv.drop off).take n
       simpa [List.extract_eq_take_drop] using this
      ·intro u hu
       simp [List.extract_eq_take_drop] at hu
       exact h1 u (List.mem_of_mem_drop (List.mem_of_mem_take hu))
    ·cases hx
   | false =>
    simp only [ha, hs] at hx
    have hd := hv.drop off
    cases hxs : xs.drop off with
    | nil => rw [hxs] at hx; simp at hx
    | cons y ys =>
     rw [hxs] at hx hd
     simp at hx
     subst hx
     obtain ⟨v, rest, hvd, h2, _⟩ := VRL_cons.1 hd
     refine ⟨v, ?_, h2⟩
     have : vs[off]? = some v := by
      have := congrArg (fun l => l[0]?) hvd
      simpa [List.getElem?_drop] using this
     unfold part
     simp [tAgg_run ha, this]
theorem VRL.putAt {xs cs : List AV} {vs us : List Value} {off : Nat} (h : VRL F ι w0 xs vs) (h' : VRL F ι w0 cs us) : VRL F ι w0 (putAt xs off cs) (vs.take off ++ us ++ vs.drop (off + us.length)) := by
 unfold AM.putAt
 rw [h'.length]
 exact ((h.take off).append h').append (h.drop _)
theorem write_row {b : Blk} {c : Emb} {cs : List AV} {us : List Value} {off : Nat} (hb : BR F ι w0 b c w) (hro : b.ro = false) (hcs : VRL F ι w0 cs us) (h1 : ∀ u ∈ us, u.oneCell' = true) (hl : off + cs.length ≤ b.cells.length) :
 ∃ w', (storeCells ⟨c.blk, off, none⟩ us).run P w = .ok () w' ∧ BR F ι w0 { b with cells := putAt b.cells off cs } c w' ∧ (∀ k, k ≠ c.blk → w'.heap[k]? = w.heap[k]?) ∧ w'.heap.size = w.heap.size ∧ w'.os = w.os ∧ w'.tape = w.tape ∧ w'.output = w.output := by
 obtain ⟨arr, t, fz, g1, g2, g4, vs, rest, g5, g6, g7⟩ := hb
 obtain rfl := g4 hro
 have e1 := hcs.length
 have e2 := g6.length
 have hsz : off + us.length ≤ vs.length := by omega
 have harr : arr.size = vs.length + rest.length := by rw [← Array.length_toList, g5, List.length_append]
 have hr := run_storeCells_at P c.blk off t us 0 arr w g1 (by omega) h1
 simp only [Nat.add_zero] at hr
 refine ⟨_, hr, ⟨_, t, (0, 0), setRow_heap w c.blk arr _ t (0, 0) g1, ?_, fun _ => rfl, vs.take off ++ us ++ vs.drop (off + us.length), rest, ?_, g6.putAt hcs, ?_⟩, fun k hk => setRow_other w c.blk k _ hk, by simp, rfl, rfl, rfl⟩
 ·show _ = c.room * b.sz
  rw [← g2]
  simp only [List.size_toArray, List.length_append, List.length_take, List.length_drop, Array.length_toList]
  omega
 ·show List.take off arr.toList ++ us ++ List.drop (off + us.length) arr.toList = _
  rw [g5, List.take_append_of_le_length (by omega), List.drop_append_of_le_length (by omega)]
  simp only [List.append_assoc]
 ·intro u hu
  simp only [List.mem_append] at hu
  rcases hu with (hu | hu) | hu
  ·exact g7 u (List.mem_of_mem_take hu)
  ·exact h1 u hu
  ·exact g7 u (List.mem_of_mem_drop hu)
end
def AV.ids : AV → List Nat
 | .ptr id _ => [id]
 | .slice id _ _ _ => [id]
 | _ => []
def afoot (ρ : Operand → AV) : Op → List Nat
 | .load _ a => (ρ a).ids
 | .store _ a _ => (ρ a).ids
 | .convert _ _ x => (ρ x).ids
 | .call c => c.args.toList.flatMap fun x => (ρ x).ids
 | _ => []
def OpRun (P : Program) (a : Act) (o : Oper) (w : World) (v : Value) (w' : World) : Prop :=
 (execOp a.eval o).run P w = .ok (.value v) w' ∨ ((execOp a.eval o).run P w = .ok .skip w' ∧ v = undef)
section
variable {P : Program} {F : Nat → Prop} {ι ι' : Inj} {w0 w : World} {a : Act} {ρ : Operand → AV} {H : Heap}
theorem VR_int {k : IntKind} {n : Int} {v : Value} (h : VR F ι w0 (.int k n) v) : v = .int k n := by simpa [VR] using h
theorem VR_bool {b : Bool} {v : Value} (h : VR F ι w0 (.bool b) v) : v = .bool b := by simpa [VR] using h
theorem VR_str {s : ByteArray} {v : Value} (h : VR F ι w0 (.str s) v) : v = .string s := by simpa [VR] using h
theorem VRL_map {ys : List Operand} (hρ : ∀ y, VR F ι w0 (ρ y) (a.eval y)) : VRL F ι w0 (ys.map ρ) (ys.map a.eval) := by
 induction ys with
 | nil => simp [VRL_nil]
 | cons y ys ih => exact VRL_cons.2 ⟨_, _, rfl, hρ y, ih⟩
theorem fieldAddr_sound {s f : Nat} {x y : AV} {v : Value} (h : aFieldAddr P s f x = some y) (hx : VR F ι w0 x v) : ∃ u, (Instr.fieldAt s v f).run P w = .ok u w ∧ VR F ι w0 y u := by
 unfold aFieldAddr at h
 split at h
 ·rename_i id off
  simp only [VR] at hx
  obtain ⟨c, h1, rfl⟩ := hx
  split at h
  ·rename_i o t hf
   split at h
   ·rename_i n hs
    obtain ⟨fs, fd, h2, h3, h4, h5⟩ := tField_eq hf
    obtain rfl := Option.some.inj h
    refine ⟨.pointer (some ⟨c.blk, off + o, none⟩), ?_, by simp only [VR]; exact ⟨c, h1, rfl⟩⟩
    subst h4 h5
    simp [Instr.fieldAt, run_underlying h2, h3, Instr.sureAddr, fieldPlace, tSize_run hs, addr_add]
   ·cases h
  ·cases h
 ·rename_i cs
  simp only [VR] at hx
  obtain ⟨c, off, vs, rfl, hF, hc, hv⟩ := hx
  split at h
  ·rename_i o t hf
   split at h
   ·rename_i n hs
    obtain ⟨fs, fd, h2, h3, h4, h5⟩ := tField_eq hf
    obtain rfl := Option.some.inj h
    refine ⟨.pointer (some ⟨c, off + o, none⟩), ?_, by simp only [VR]; exact ⟨c, off + o, vs.drop o, rfl, hF, hc.drop o, hv.drop o⟩⟩
    subst h4 h5
    simp [Instr.fieldAt, run_underlying h2, h3, Instr.sureAddr, fieldPlace, tSize_run hs, addr_add]
   ·cases h
  ·cases h
 ·cases h
theorem field_sound {s f : Nat} {x y : AV} {v : Value} (h : aField P s f x = some y) (hx : VR F ι w0 x v) : ∃ u, (Instr.field s v f).run P w = .ok u w ∧ VR F ι w0 y u := by
 unfold aField at h
 split at h
 ·rename_i cs
  simp only [VR] at hx
  obtain ⟨vs, rfl, hv, h1⟩ := hx
  split at h
  ·rename_i o t hf
   obtain ⟨fs, fd, h2, h3, h4, h5⟩ := tField_eq hf
   obtain ⟨u, hu, hr⟩ := part_sound h hv h1 w
   refine ⟨u, ?_, hr⟩
   subst h4 h5
   simp [Instr.field, run_underlying h2, h3, asAgg]
   simpa using hu
  ·cases h
 ·cases h
theorem indexAddr_sound {t : Nat} {x i y : AV} {v u : Value} (h : aIndexAddr P t x i = some y) (hx : VR F ι w0 x v) (hi : VR F ι w0 i u) : ∃ z, (Instr.indexAt t v u).run P w = .ok z w ∧ VR F ι w0 y z := by
 unfold aIndexAddr at h
 split at h
 all_goals try (cases h; done)
 all_goals
  rename_i k n
  obtain rfl := VR_int hi
  split at h
  all_goals try (cases h; done)
  rename_i sz hsz
  obtain ⟨e, he, hs⟩ := Option.bind_eq_some_iff.1 hsz
  split at h
  all_goals try (cases h; done)
  rename_i hn
  obtain rfl := Option.some.inj h
  obtain ⟨hn0, hn1⟩ := hn
  have ht := tElem_eq he
 ·rename_i id off len cap
  simp only [VR] at hx
  rcases hx with ⟨c, ccap, off', h1, rfl, h2, h3, h4, h5⟩ | ⟨h1, h2, _⟩
  ·rcases h4 with h4 | rfl
   ·omega
   ·refine ⟨.pointer (some ⟨c.blk, off' + n.toNat * sz, none⟩), ?_, by simp only [VR]; exact ⟨c, h1, rfl⟩⟩
    simp [Instr.indexAt, asIntOf, run_underlying ht, hn0, hn1, tSize_run hs, addr_add]
  ·omega
 ·rename_i len cap cs
  simp only [VR] at hx
  obtain ⟨b, ccap, rfl, h2, h3, hz, h4⟩ := hx
  rcases h4 with ⟨_, h4⟩ | ⟨c, off, vs, rfl, hF, hc, hv⟩
  ·omega
  ·refine ⟨.pointer (some ⟨c, off + n.toNat * sz, none⟩), ?_, by simp only [VR]; exact ⟨c, _, _, rfl, hF, hc.drop _, hv.drop _⟩⟩
   simp [Instr.indexAt, asIntOf, run_underlying ht, hn0, hn1, tSize_run hs, addr_add]
 ·rename_i len cap cs
  simp only [VR] at hx
  obtain ⟨b, ccap, rfl, h2, h3, h4⟩ := hx
  rcases h4 with ⟨_, h4⟩ | ⟨c, off, vs, rfl, hF, hc, hv⟩
  ·omega
  ·refine ⟨.pointer (some ⟨c, off + n.toNat * sz, none⟩), ?_, by simp only [VR]; exact ⟨c, _, _, rfl, hF, hc.drop _, hv.drop _⟩⟩
   simp [Instr.indexAt, asIntOf, run_underlying ht, hn0, hn1, tSize_run hs, addr_add]
theorem index_sound {t : Nat} {x i y : AV} {v u : Value} (h : aIndex P t x i = some y) (hx : VR F ι w0 x v) (hi : VR F ι w0 i u) : ∃ z, (Instr.index t v u).run P w = .ok z w ∧ VR F ι w0 y z := by
 unfold aIndex at h
 split at h
 ·rename_i s k n
  obtain rfl := VR_int hi
  obtain rfl := VR_str hx
  split at h
  ·rename_i ht
   split at h
   ·rename_i hn
    obtain rfl := Option.some.inj h
    have ht' := tStr_eq ht
    have hlt : n.toNat < s.size := by omega
    have hb : s[n.toNat]? = some (s[n.toNat]'hlt) := getElem?_pos s n.toNat hlt
    refine ⟨.int .u8 (s[n.toNat]'hlt).toNat, ?_, ?_⟩
    ·simp [Instr.index, asIntOf, run_underlying ht', hn.1, hb]
    ·simp only [VR, bat]
     congr 2
     have hl : n.toNat < s.data.toList.length := by simpa using hlt
     simp [List.getD_eq_getElem?_getD, List.getElem?_eq_getElem hl]
     rfl
   ·cases h
  ·cases h
 ·cases h
theorem un_sound {op : UnOp} {x y : AV} {v : Value} (h : aUn op x = some y) (hx : VR F ι w0 x v) : ∃ u, (Op.unary op v).run P w = .ok u w ∧ VR F ι w0 y u := by
 unfold aUn at h
 split at h
 ·rename_i b
  obtain rfl := VR_bool hx
  split at h
  ·obtain rfl := Option.some.inj h
   exact ⟨.bool (!b), by simp [Op.unary], by simp [VR]⟩
  ·cases h
 ·rename_i k n
  obtain rfl := VR_int hx
  split at h
  ·obtain rfl := Option.some.inj h
   exact ⟨.int k (k.wrap (0 - n)), by simp [Op.unary, Op.intArith], by simp [VR]⟩
  ·cases h
 ·cases h
theorem int_sound {op : BinOp} {k : IntKind} {p q : Int} {y : AV} {t : TypeId} (h : aInt op k p q = some y) : ∃ u, (binOp op t (.int k p) (.int k q)).run P w = .ok u w ∧ VR F ι w0 y u := by
 unfold aInt at h
 cases op <;> simp only at h
 all_goals try (cases h; done)
 case quo =>
  split at h
  ·cases h
  ·rename_i hq
   obtain rfl := Option.some.inj h
   exact ⟨.int k (k.wrap (p.tdiv q)), by simp [binOp, Op.intDiv, hq], by simp [VR]⟩
 case rem =>
  split at h
  ·cases h
  ·rename_i hq
   obtain rfl := Option.some.inj h
   exact ⟨.int k (p.tmod q), by simp [binOp, Op.intDiv, hq], by simp [VR]⟩
 all_goals obtain rfl := Option.some.inj h
 case add => exact ⟨.int k (k.wrap (p + q)), by simp [binOp, Op.intArith], by simp [VR]⟩
 case sub => exact ⟨.int k (k.wrap (p - q)), by simp [binOp, Op.intArith], by simp [VR]⟩
 case mul => exact ⟨.int k (k.wrap (p * q)), by simp [binOp, Op.intArith], by simp [VR]⟩
 case and => exact ⟨.int k (bitop .and k p q), by simp [binOp, Op.intBits, bitop], by simp [VR]⟩
 case or => exact ⟨.int k (bitop .or k p q), by simp [binOp, Op.intBits, bitop], by simp [VR]⟩
 case xor => exact ⟨.int k (bitop .xor k p q), by simp [binOp, Op.intBits, bitop], by simp [VR]⟩
 case andNot => exact ⟨.int k (bitop .andNot k p q), by simp [binOp, Op.intBits, bitop], by simp [VR]⟩
 case eql => exact ⟨.bool (p == q), by simp [binOp, Op.intCmp], by simp [VR]; rfl⟩
 case neq => exact ⟨.bool (p != q), by simp [binOp, Op.intCmp], by simp [VR]; rfl⟩
 case lss => exact ⟨.bool (p < q), by simp [binOp, Op.intCmp], by simp [VR]⟩
 case leq => exact ⟨.bool (p ≤ q), by simp [binOp, Op.intCmp], by simp [VR]⟩
 case gtr => exact ⟨.bool (p > q), by simp [binOp, Op.intCmp], by simp [VR]⟩
 case geq => exact ⟨.bool (p ≥ q), by simp [binOp, Op.intCmp], by simp [VR]⟩
theorem beq_bytes (p q : ByteArray) : (p == q) = decide (p = q) := by
 rw [beq_toListBytes, Bool.eq_iff_iff]
 simp only [beq_iff_eq, decide_eq_true_eq]
 constructor
 ·intro h
  rw [ByteArray.toList_eq, ByteArray.toList_eq] at h
  cases p
  cases q
  congr 1
  exact Array.ext' h
 ·rintro rfl
  rfl
theorem eqFs_sound {d : Nat} (ih : ∀ (t : TypeId) (x y : AV) (r : Bool) (v u : Value), eqV P d t x y = some r → VR F ι w0 x v → VR F ι w0 y u → (Op.equalIn d t v u).run P w = .ok r w)
 (xs ys : List AV) (vs us : Array Value) (h1 : VRL F ι w0 xs vs.toList) (h2 : ∀ u ∈ vs.toList, u.oneCell' = true) (h3 : VRL F ι w0 ys us.toList) (h4 : ∀ u ∈ us.toList, u.oneCell' = true) :
 ∀ (fs : List Field) (r : Bool), eqFs P (eqV P d) xs ys fs = some r → (Op.eqFields d vs us fs).run P w = .ok r w
 | [], r, h => by
  simp [eqFs] at h
  subst h
  simp [Op.eqFields]
 | f :: fs, r, h => by
  unfold eqFs at h
  simp only [Op.eqFields]
  split at h
  ·rename_i hn
   rw [if_pos hn]
   split at h
   ·rename_i a b ha hb
    obtain ⟨p, hp, hpr⟩ := part_sound ha h1 h2 w
    obtain ⟨q, hq, hqr⟩ := part_sound hb h3 h4 w
    simp only [Array.toArray_toList] at hp hq
    cases he : eqV P d f.type a b with
    | none => rw [he] at h; cases h
    | some s =>
     have := ih f.type a b s p q he hpr hqr
     simp only [Sem.run_bind, hp, Result.andThen_ok, hq, this]
     rw [he] at h
     cases s with
     | true => simpa using eqFs_sound ih xs ys vs us h1 h2 h3 h4 fs r h
     | false => simp at h; subst h; simp
   ·cases h
  ·rename_i hn
   rw [if_neg hn]
   exact eqFs_sound ih xs ys vs us h1 h2 h3 h4 fs r h
theorem eqV_sound (d : Nat) : ∀ (t : TypeId) (x y : AV) (r : Bool) (v u : Value), eqV P d t x y = some r → VR F ι w0 x v → VR F ι w0 y u → (Op.equalIn d t v u).run P w = .ok r w := by
 induction d with
 | zero => intro t x y r v u h; simp [eqV] at h
 | succ d ih =>
  intro t x y r v u h hx hy
  unfold eqV at h
  cases x with
  | int k p =>
   cases y with
   | int k' q =>
    simp only at h
    obtain rfl := VR_int hx
    obtain rfl := VR_int hy
    split at h
    ·rename_i hc
     obtain ⟨k2, hk⟩ := Option.isSome_iff_exists.1 hc.1
     obtain rfl := hc.2
     obtain rfl := Option.some.inj h
     rw [run_equalIn_int w d t _ _ _ _ (tInt_eq hk)]
     rfl
    ·cases h
   | _ => simp at h
  | bool p =>
   cases y with
   | bool q =>
    simp only at h
    obtain rfl := VR_bool hx
    obtain rfl := VR_bool hy
    split at h
    ·rename_i hc
     obtain rfl := Option.some.inj h
     exact run_equalIn_bool' w d t _ _ (tBoo_eq hc)
    ·cases h
   | _ => simp at h
  | str p =>
   cases y with
   | str q =>
    simp only at h
    obtain rfl := VR_str hx
    obtain rfl := VR_str hy
    split at h
    ·rename_i hc
     obtain rfl := Option.some.inj h
     rw [run_equalIn_string w d t _ _ (tStr_eq hc), ← beq_toListBytes, beq_bytes]
    ·cases h
   | _ => simp at h
  | agg xs =>
   cases y with
   | agg ys =>
    simp only at h
    simp only [VR] at hx hy
    obtain ⟨vs, rfl, h1, h2⟩ := hx
    obtain ⟨us, rfl, h3, h4⟩ := hy
    split at h
    ·rename_i fs hfs
     split at h
     ·rename_i hst
      have hf : P.fieldsOf t = fs := by unfold Program.fieldsOf; rw [hfs]
      rw [run_equalIn_struct w d t vs us (by rw [hf]; exact hfs) hst, hf]
      exact eqFs_sound ih xs ys vs us h1 h2 h3 h4 fs.toList r h
     ·cases h
    ·cases h
   | _ => simp at h
  | _ => simp at h
theorem eqIn_nils {t e : TypeId} (he : P.underlying t = some (.slice e)) (d : Nat) (b : Option Addr) (n c : Nat) : (Op.equalIn (d + 1) t (.slice b n c) (.slice none 0 0)).run P w = .ok b.isNone w := by
 cases b <;> simp [Op.equalIn, run_underlying he]
theorem eqIn_nilf {t : TypeId} {ms : Array (String × TypeId)} (he : P.underlying t = some (.interface ms)) (d : Nat) : (Op.equalIn (d + 1) t .nilIface .nilIface).run P w = .ok true w := by
 simp [Op.equalIn, run_underlying he]
theorem eqIn_somef {t : TypeId} {ms : Array (String × TypeId)} (he : P.underlying t = some (.interface ms)) (d : Nat) (q : TypeId) (b : Value) : (Op.equalIn (d + 1) t (.iface q b) .nilIface).run P w = .ok false w := by
 simp [Op.equalIn, run_underlying he]
theorem eq_sound' (d : Nat) (hd : d + 1 = Op.maxDepth) {t : TypeId} {x y : AV} {v u : Value} {r : Bool} (h : aEq P t x y = some r) (hx : VR F ι w0 x v) (hy : VR F ι w0 y u) : (Op.equalIn (d + 1) t v u).run P w = .ok r w := by
 unfold aEq at h
 rw [← hd] at h
 split at h
 all_goals try (cases h; done)
 all_goals split at h
 all_goals try (cases h; done)
 ·rename_i hc
  obtain rfl := VR_bool hx
  obtain rfl := VR_bool hy
  obtain rfl := Option.some.inj h
  exact run_equalIn_bool' w _ t _ _ (tBoo_eq hc)
 ·exact eqV_sound _ t _ _ r v u h hx hy
 ·rename_i hc
  obtain ⟨e, he⟩ := tSli_eq hc
  simp only [VR] at hx hy
  subst hx hy
  obtain rfl := Option.some.inj h
  exact eqIn_nils he d _ _ _
 ·rename_i hc
  obtain ⟨e, he⟩ := tSli_eq hc
  simp only [VR] at hx hy
  obtain ⟨a, ccap, rfl, _⟩ := hx
  subst hy
  obtain rfl := Option.some.inj h
  exact eqIn_nils he d _ _ _
 ·rename_i hc
  obtain ⟨e, he⟩ := tIfc_eq hc
  simp only [VR] at hx hy
  subst hx hy
  obtain rfl := Option.some.inj h
  exact eqIn_nilf he d
 ·rename_i hc
  obtain ⟨e, he⟩ := tIfc_eq hc
  simp only [VR] at hx hy
  obtain ⟨a, b, rfl⟩ := hx
  subst hy
  obtain rfl := Option.some.inj h
  exact eqIn_somef he d _ _
theorem eq_sound {t : TypeId} {x y : AV} {v u : Value} {r : Bool} (h : aEq P t x y = some r) (hx : VR F ι w0 x v) (hy : VR F ι w0 y u) : (Op.equal t v u).run P w = .ok r w :=
 eq_sound' 9999 rfl h hx hy
end
section
variable {P : Program} {F : Nat → Prop} {ι ι' : Inj} {w0 w : World} {a : Act} {ρ : Operand → AV} {H : Heap}
theorem guard_int (op : BinOp) (t : TypeId) (x y : Operand) (k k' : IntKind) (p q : Int) : (eqGuard op t x y (.int k p) (.int k' q)).run P w = .ok () w := by
 cases op <;> simp [eqGuard]
theorem guard_str (op : BinOp) (t : TypeId) (x y : Operand) (p q : ByteArray) : (eqGuard op t x y (.string p) (.string q)).run P w = .ok () w := by
 cases op <;> simp [eqGuard]
theorem guard_eq {op : BinOp} {t : TypeId} {x y : Operand} {p q : AV} {v u : Value} {r : Bool} (h : aEq P t p q = some r) (hg : gOk x y p q = true) (hp : VR F ι w0 p v) (hq : VR F ι w0 q u) : (eqGuard op t x y v u).run P w = .ok () w := by
 unfold aEq at h
 split at h
 all_goals try (cases h; done)
 ·obtain rfl := VR_bool hp
  obtain rfl := VR_bool hq
  cases op <;> simp [eqGuard]
 ·split at h
  ·rename_i hc
   simp only [VR] at hp hq
   obtain ⟨vs, rfl, _⟩ := hp
   obtain ⟨us, rfl, _⟩ := hq
   exact run_eqGuard_agg w op t x y vs us hc
  ·cases h
 ·simp only [VR] at hp hq
  subst hp hq
  cases op <;> simp [eqGuard]
 ·simp only [VR] at hp hq
  obtain ⟨b, c, rfl, _⟩ := hp
  subst hq
  cases op <;> simp [eqGuard]
 ·simp only [VR] at hp hq
  subst hp hq
  simp only [gOk, Bool.or_eq_true] at hg
  rcases hg with hg | hg
  ·cases x with
   | const c => cases op <;> simp [eqGuard]
   | _ => cases hg
  ·cases y with
   | const c => cases op <;> simp [eqGuard]
   | _ => cases hg
 ·simp only [VR] at hp hq
  obtain ⟨b, c, rfl⟩ := hp
  subst hq
  cases op <;> simp [eqGuard]
theorem eqc_of {t : TypeId} {x y : AV} {v u : Value} {r : Bool} (h : aEq P t x y = some r) (hx : VR F ι w0 x v) (hy : VR F ι w0 y u) :
 (binOp .eql t v u).run P w = .ok (.bool r) w ∧ (binOp .neq t v u).run P w = .ok (.bool (!r)) w := by
 have he := eq_sound (w := w) h hx hy
 have hne : ∀ k k' p q, ¬ (v = .int k p ∧ u = .int k' q) ∧ ¬ ∃ s s', v = .string s ∧ u = .string s' := by
  intro k k' p q
  unfold aEq at h
  split at h
  all_goals try (cases h; done)
  all_goals
   simp only [VR] at hx hy
   constructor
   ·rintro ⟨rfl, rfl⟩
    simp at hx hy
   ·rintro ⟨s, s', rfl, rfl⟩
    simp at hx hy
 unfold aEq at h
 split at h
 all_goals try (cases h; done)
 ·obtain rfl := VR_bool hx
  obtain rfl := VR_bool hy
  constructor <;> simp [binOp, he]
 ·simp only [VR] at hx hy
  obtain ⟨vs, rfl, _⟩ := hx
  obtain ⟨us, rfl, _⟩ := hy
  constructor <;> simp [binOp, he]
 ·simp only [VR] at hx hy
  subst hx hy
  constructor <;> simp [binOp, he]
 ·simp only [VR] at hx hy
  obtain ⟨b, c, rfl, _⟩ := hx
  subst hy
  constructor <;> simp [binOp, he]
 ·simp only [VR] at hx hy
  subst hx hy
  constructor <;> simp [binOp, he]
 ·simp only [VR] at hx hy
  obtain ⟨b, c, rfl⟩ := hx
  subst hy
  constructor <;> simp [binOp, he]
theorem str_sound {op : BinOp} {t : TypeId} {p q : ByteArray} {r : AV} (h : aBin P op t (.str p) (.str q) = some r) : ∃ z, (binOp op t (.string p) (.string q)).run P w = .ok z w ∧ VR F ι w0 r z := by
 simp only [aBin] at h
 cases op <;> simp only at h
 all_goals try (cases h; done)
 ·split at h
  ·rename_i hs
   obtain rfl := Option.some.inj h
   refine ⟨.string (p ++ q), ?_, by simp [VR]⟩
   have hs' : ¬ (((p.size + q.size : Nat) : Int) > IntKind.i64.max) := by simp [IntKind.max, IntKind.signed, IntKind.bits]; omega
   simp only [binOp, Op.stringOp]
   rw [if_neg hs']
   rfl
  ·cases h
 ·obtain rfl := Option.some.inj h
  refine ⟨.bool (p.toList == q.toList), by simp [binOp, Op.stringOp], ?_⟩
  simp [VR, ← beq_bytes, beq_toListBytes]
 ·obtain rfl := Option.some.inj h
  refine ⟨.bool (!(p.toList == q.toList)), by simp [binOp, Op.stringOp], ?_⟩
  simp [VR, ← beq_bytes, beq_toListBytes]
theorem bin_sound {op : BinOp} {t : TypeId} {x y : Operand} {p q r : AV} {v u : Value} (h : aBin P op t p q = some r) (hg : gOk x y p q = true) (hp : VR F ι w0 p v) (hq : VR F ι w0 q u) :
 ∃ z, (do eqGuard op t x y v u; binOp op t v u : Sem Value).run P w = .ok z w ∧ VR F ι w0 r z := by
 have key : ∀ op' : BinOp, op' = op → (op = .eql ∨ op = .neq) → ∀ r', aEq P t p q = some r' → (r = .bool (if op = .eql then r' else !r')) → ∃ z, (do eqGuard op t x y v u; binOp op t v u : Sem Value).run P w = .ok z w ∧ VR F ι w0 r z := by
  intro _ _ ho r' hr hrr
  subst hrr
  obtain ⟨h1, h2⟩ := eqc_of (w := w) hr hp hq
  have hgd := guard_eq (op := op) (w := w) hr hg hp hq
  rcases ho with rfl | rfl
  ·exact ⟨.bool r', by simp [hgd, h1], by simp [VR]⟩
  ·exact ⟨.bool (!r'), by simp [hgd, h2], by simp [VR]⟩
 unfold aBin at h
 split at h
 ·rename_i k a k' b
  obtain rfl := VR_int hp
  obtain rfl := VR_int hq
  split at h
  ·split at h
   ·cases h
   ·rename_i hb
    obtain rfl := Option.some.inj h
    exact ⟨.int k (k.wrap (a * 2 ^ (min b.toNat k.bits))), by simp [guard_int, binOp, Op.shift, hb], by simp [VR]⟩
  ·split at h
   ·cases h
   ·rename_i hb
    obtain rfl := Option.some.inj h
    exact ⟨.int k (a.fdiv (2 ^ (min b.toNat k.bits))), by simp [guard_int, binOp, Op.shift, hb], by simp [VR]⟩
  ·split at h
   ·rename_i hk
    subst hk
    obtain ⟨z, h1, h2⟩ := int_sound (F := F) (ι := ι) (w0 := w0) (w := w) (P := P) (t := t) h
    exact ⟨z, by simp [guard_int, h1], h2⟩
   ·cases h
 ·rename_i a b
  obtain rfl := VR_str hp
  obtain rfl := VR_str hq
  obtain ⟨z, h1, h2⟩ := str_sound (F := F) (ι := ι) (w0 := w0) (w := w) (P := P) (op := op) (t := t) (p := a) (q := b) (by unfold aBin; exact h)
  exact ⟨z, by simp [guard_str, h1], h2⟩
 ·split at h
  ·obtain ⟨r', h1, h2⟩ := Option.map_eq_some_iff.1 h
   exact key _ rfl (.inl rfl) r' h1 (by simp [← h2])
  ·obtain ⟨r', h1, h2⟩ := Option.map_eq_some_iff.1 h
   exact key _ rfl (.inr rfl) r' h1 (by simp [← h2])
  ·cases h
def VRO (F : Nat → Prop) (ι : Inj) (w0 : World) : Option AV → Option Value → Prop
 | none, none => True
 | some x, some v => VR F ι w0 x v
 | _, _ => False
theorem VRO_map {x : Option Operand} (hρ : ∀ y, VR F ι w0 (ρ y) (a.eval y)) : VRO F ι w0 (x.map ρ) (x.map a.eval) := by
 cases x with
 | none => trivial
 | some y => exact hρ y
def runB (P : Program) (y : Nat) (v : Option Value) (d : Nat) (code : BoundsCode) (w : World) (n : Nat) : Prop :=
 match v with
 | some v => (Instr.sliceBound v y code).run P w = .ok n w ∧ n ≤ y
 | none => n = d
theorem bound_sound {y d n : Nat} {x : Option AV} {v : Option Value} (code : BoundsCode) (h : aBound y x d = some n) (hx : VRO F ι w0 x v) : runB P y v d code w n := by
 unfold aBound at h
 split at h
 ·cases v with
  | none => exact (Option.some.inj h).symm
  | some v => exact hx.elim
 ·rename_i k i
  cases v with
  | none => exact hx.elim
  | some v =>
   have hx' : VR F ι w0 (.int k i) v := hx
   obtain rfl := VR_int hx'
   split at h
   ·rename_i hi
    obtain rfl := Option.some.inj h
    exact ⟨by simp [Instr.sliceBound, asIntOf, hi], by omega⟩
   ·cases h
 ·cases h
theorem bounds_run {isS : Bool} {len cap m h l : Nat} {lo hi mx : Option Value} (hm : ∀ code, runB P cap mx cap code w m) (hh : ∀ code, runB P m hi len code w h) (hl : ∀ code, runB P h lo 0 code w l) (hx : ¬ (mx.isSome = true ∧ hi.isNone = true)) :
 (Instr.sliceBounds isS len cap lo hi mx).run P w = .ok (l, h, m) w := by
 unfold Instr.sliceBounds
 cases mx with
 | none =>
  obtain rfl : m = cap := hm .index
  cases hi with
  | none =>
   obtain rfl : h = len := hh .index
   cases lo with
   | none =>
    obtain rfl : l = 0 := hl .index
    simp
   | some lo => simp [(hl .sliceB).1]
  | some hi =>
   have h1 := (hh (if isS then .sliceAcap else .sliceAlen)).1
   cases lo with
   | none =>
    obtain rfl : l = 0 := hl .index
    simp [h1]
   | some lo => simp [h1, (hl .sliceB).1]
 | some mx =>
  cases hi with
  | none => simp at hx
  | some hi =>
   have h0 := (hm (if isS then .slice3Acap else .slice3Alen)).1
   have h1 := (hh .slice3B).1
   cases lo with
   | none =>
    obtain rfl : l = 0 := hl .index
    simp [h0, h1]
   | some lo => simp [h0, h1, (hl .slice3C).1]
theorem aBound_d (y d d' : Nat) (x : AV) : aBound y (some x) d = aBound y (some x) d' := by cases x <;> rfl
theorem aBound_mono {y y' d n : Nat} {x : Option AV} (h : aBound y x d = some n) (hy : y ≤ y') : aBound y' x d = some n := by
 unfold aBound at h ⊢
 split at h
 ·exact h
 ·split at h
  ·rename_i hi
   rw [if_pos (by omega)]
   exact h
  ·cases h
 ·cases h
theorem aBound_le {y d n : Nat} {x : Option AV} (h : aBound y x d = some n) (hd : d ≤ y) : n ≤ y := by
 unfold aBound at h
 split at h
 ·injection h with h; omega
 ·split at h
  ·injection h with h; omega
  ·cases h
 ·cases h
theorem slice_sound {t : TypeId} {x y : AV} {lo hi mx : Option AV} {v : Value} {lo' hi' mx' : Option Value} (h : aSlice P t x lo hi mx = some y) (hx : VR F ι w0 x v) (hl : VRO F ι w0 lo lo') (hh : VRO F ι w0 hi hi') (hm : VRO F ι w0 mx mx') :
 ∃ z, (Instr.sliceAt t v lo' hi' mx').run P w = .ok z w ∧ VR F ι w0 y z := by
 have hmn : mx.isSome = mx'.isSome := by cases mx <;> cases mx' <;> first | rfl | exact hm.elim
 have hhn : hi.isNone = hi'.isNone := by cases hi <;> cases hi' <;> first | rfl | exact hh.elim
 unfold aSlice at h
 split at h
 ·rename_i s
  obtain rfl := VR_str hx
  split at h
  ·rename_i hc
   have ht := tStr_eq hc.1
   have hmx : mx' = none := by
    have := hc.2
    rw [Option.isNone_iff_eq_none] at this
    subst this
    cases mx' with
    | none => rfl
    | some _ => exact hm.elim
   subst hmx
   split at h
   ·rename_i h' eh
    split at h
    ·rename_i l' el
     obtain rfl := Option.some.inj h
     refine ⟨.string (s.extract l' h'), ?_, by simp [VR]⟩
     have hb := bounds_run (P := P) (w := w) (isS := false) (len := s.size) (cap := s.size) (m := s.size) (lo := lo') (hi := hi') (mx := none) (fun _ => rfl) (fun code => bound_sound code eh hh) (fun code => bound_sound code el hl) (by simp)
     simp [Instr.sliceAt, Instr.slice, run_underlying ht, hb]
    ·cases h
   ·cases h
  ·cases h
 ·rename_i id off len cap
  split at h
  ·rename_i n hn
   obtain ⟨e, he, hs⟩ := Option.bind_eq_some_iff.1 hn
   have ht := tElem_eq he
   split at h
   ·cases h
   rename_i hn0
   split at h
   ·rename_i m em
    split at h
    ·cases h
    ·rename_i hnx
     split at h
     ·rename_i h' eh
      split at h
      ·rename_i l' el
       obtain rfl := Option.some.inj h
       have lm := aBound_le em (Nat.le_refl _)
       have lh := aBound_le el (Nat.zero_le _)
       have gen : ∀ (b : Option Addr) (ccap : Nat), len ≤ ccap → cap ≤ ccap → v = .slice b len ccap → (∃ m', m ≤ m' ∧ m' ≤ ccap ∧ (Instr.sliceAt t v lo' hi' mx').run P w = .ok (.slice (if m' = l' then b else b.map (·.add (l' * n))) (h' - l') (m' - l')) w) := by
        intro b ccap h1 h2 hv
        subst hv
        have hm' : ∃ m', m ≤ m' ∧ m' ≤ ccap ∧ ∀ code, runB P ccap mx' ccap code w m' := by
         cases mx' with
         | none => exact ⟨ccap, by omega, Nat.le_refl _, fun _ => rfl⟩
         | some u =>
          cases mx with
          | none => exact hm.elim
          | some u' => exact ⟨m, Nat.le_refl _, by omega, fun code => bound_sound code (aBound_mono (y := max len cap) (x := some u') (d := ccap) (by rw [aBound_d _ _ (max len cap)]; exact em) (by omega)) hm⟩
        obtain ⟨m', g1, g2, g3⟩ := hm'
        have hb := bounds_run (P := P) (w := w) (isS := true) (len := len) (cap := ccap) (m := m') (lo := lo') (hi := hi') (mx := mx') g3 (fun code => bound_sound code (aBound_mono eh g1) hh) (fun code => bound_sound code el hl) (by rw [← hmn, ← hhn]; exact hnx)
        exact ⟨m', g1, g2, by simp [Instr.sliceAt, Instr.slice, run_underlying ht, hb, tSize_run hs]⟩
       have hle : h' ≤ m ∨ hi = none := by
        cases hi with
        | none => exact Or.inr rfl
        | some u => exact Or.inl (aBound_le (y := m) (x := some u) (d := 0) (by rw [aBound_d _ _ len]; exact eh) (Nat.zero_le _))
       have hlen : hi = none → mx = none := by
        intro hi0
        subst hi0
        cases mx with
        | none => rfl
        | some _ => simp at hnx
       have hle : h' ≤ m := by
        rcases hle with hle | hle
        ·exact hle
        ·have := hlen hle
         subst hle this
         simp only [aBound, Option.some.injEq] at eh em
         omega
       simp only [VR] at hx
       rcases hx with ⟨c, ccap, off', h1, hv, h2, h3, h4, h5⟩ | ⟨h1, h2, h3, a, hv⟩
       ·obtain ⟨m', g1, g2, hr⟩ := gen _ ccap h3 h2 hv
        refine ⟨_, hr, ?_⟩
        simp only [VR]
        by_cases hml : m' = l'
        ·rw [if_pos hml]
         exact Or.inl ⟨c, m' - l', off', h1, rfl, by omega, by omega, Or.inl (by omega), fun _ => by omega⟩
        ·rw [if_neg hml]
         rcases h4 with h4 | rfl
         ·omega
         ·refine Or.inl ⟨c, m' - l', off' + l' * n, h1, by simp [addr_add], by omega, by omega, Or.inr rfl, fun h0 => ?_⟩
          have := h5 (by omega)
          omega
       ·obtain ⟨m', g1, g2, hr⟩ := gen a 0 (by omega) (by omega) (by rw [hv, h2])
        refine ⟨_, hr, ?_⟩
        simp only [VR]
        have : m' = l' := by omega
        rw [if_pos this]
        exact Or.inr ⟨h1, by omega, by omega, a, by congr 1 <;> omega⟩
      ·cases h
     ·cases h
   ·cases h
  ·cases h
 ·rename_i len cap cs
  split at h
  ·rename_i n hn
   obtain ⟨e, he, hs⟩ := Option.bind_eq_some_iff.1 hn
   have ht := tElem_eq he
   split at h
   ·cases h
   ·rename_i hnx
    have hmx : mx' = none := by
     cases mx' with
     | none => rfl
     | some _ => rw [hmn] at hnx; simp at hnx
    subst hmx
    split at h
    ·rename_i h' eh
     split at h
     ·rename_i l' el
      obtain rfl := Option.some.inj h
      have lh := aBound_le el (Nat.zero_le _)
      have lhl := aBound_le eh (Nat.le_refl _)
      simp only [VR] at hx
      obtain ⟨b, ccap, rfl, h2, h3, hz, h4⟩ := hx
      have hb := bounds_run (P := P) (w := w) (isS := true) (len := len) (cap := ccap) (m := ccap) (lo := lo') (hi := hi') (mx := none) (fun _ => rfl) (fun code => bound_sound code (aBound_mono eh h3) hh) (fun code => bound_sound code el hl) (by simp)
      refine ⟨.slice (if ccap = l' then b else b.map (·.add (l' * n))) (h' - l') (ccap - l'), by simp [Instr.sliceAt, Instr.slice, run_underlying ht, hb, tSize_run hs], ?_⟩
      simp only [VR]
      refine ⟨_, _, rfl, by omega, by omega, ?_, ?_⟩
      ·intro hbn
       cases b with
       | none => have := hz rfl; omega
       | some b => split at hbn <;> simp at hbn
      rcases h4 with ⟨rfl, h4⟩ | ⟨c, off, vs, rfl, hF, hc, hv⟩
      ·exact Or.inl ⟨by simp, by omega⟩
      ·by_cases hml : ccap = l'
       ·rw [if_pos hml]
        have : h' - l' = 0 := by omega
        refine Or.inl ⟨by simp [this], this⟩
       ·rw [if_neg hml]
        exact Or.inr ⟨c, off + l' * n, _, by simp [addr_add], hF, (hc.drop _).take _, (hv.drop _).take _⟩
     ·cases h
    ·cases h
  ·cases h
 ·split at h
  ·rename_i n hn
   obtain ⟨e, he, hs⟩ := Option.bind_eq_some_iff.1 hn
   have ht := tElem_eq he
   split at h
   ·cases h
   ·rename_i hnx
    have hmx : mx' = none := by
     cases mx' with
     | none => rfl
     | some _ => rw [hmn] at hnx; simp at hnx
    subst hmx
    split at h
    ·rename_i h' eh
     split at h
     ·rename_i l' el
      obtain rfl := Option.some.inj h
      have lh := aBound_le el (Nat.zero_le _)
      have lhl := aBound_le eh (Nat.le_refl _)
      simp only [VR] at hx
      obtain ⟨b, rfl⟩ := hx
      have hb := bounds_run (P := P) (w := w) (isS := true) (len := 0) (cap := 0) (m := 0) (lo := lo') (hi := hi') (mx := none) (fun _ => rfl) (fun code => bound_sound code eh hh) (fun code => bound_sound code el hl) (by simp)
      refine ⟨.slice b 0 0, ?_, by simp only [VR]; exact ⟨b, rfl⟩⟩
      obtain rfl : h' = 0 := by omega
      obtain rfl : l' = 0 := by omega
      simp [Instr.sliceAt, Instr.slice, run_underlying ht, hb, tSize_run hs]
     ·cases h
    ·cases h
  ·cases h
 ·split at h
  ·rename_i n hn
   obtain ⟨e, he, hs⟩ := Option.bind_eq_some_iff.1 hn
   have ht := tElem_eq he
   split at h
   ·cases h
   ·rename_i hnx
    have hmx : mx' = none := by
     cases mx' with
     | none => rfl
     | some _ => rw [hmn] at hnx; simp at hnx
    subst hmx
    split at h
    ·rename_i h' eh
     split at h
     ·rename_i l' el
      obtain rfl := Option.some.inj h
      have lh := aBound_le el (Nat.zero_le _)
      have lhl := aBound_le eh (Nat.le_refl _)
      simp only [VR] at hx
      subst hx
      have hb := bounds_run (P := P) (w := w) (isS := true) (len := 0) (cap := 0) (m := 0) (lo := lo') (hi := hi') (mx := none) (fun _ => rfl) (fun code => bound_sound code eh hh) (fun code => bound_sound code el hl) (by simp)
      refine ⟨.slice none 0 0, ?_, by simp only [VR]; exact ⟨none, rfl⟩⟩
      obtain rfl : h' = 0 := by omega
      obtain rfl : l' = 0 := by omega
      simp [Instr.sliceAt, Instr.slice, run_underlying ht, hb, tSize_run hs]
     ·cases h
    ·cases h
  ·cases h
 ·cases h
end
section
variable {P : Program} {F : Nat → Prop} {ι ι' : Inj} {w0 w : World} {a : Act} {ρ : Operand → AV} {H : Heap}
theorem firstCells_zero (sz : Nat) (b : Option Addr) (n c : Nat) (w : World) : (Builtin.firstCells sz 0 (.slice b n c)).run P w = .ok #[] w := by
 cases b <;> simp [Builtin.firstCells, loadCells, loadCellsFrom]
theorem firstCells_run {sz m c off n cap : Nat} {vs : List Value} (hc : CellsAt w c off vs) (hl : m * sz ≤ vs.length) : (Builtin.firstCells sz m (.slice (some ⟨c, off, none⟩) n cap)).run P w = .ok (vs.take (m * sz)).toArray w := by
 simp only [Builtin.firstCells]
 have h := run_loadCells_list (P := P) w ⟨c, off, none⟩ (vs.take (m * sz)) (hc.take _).cell
 rw [List.length_take, Nat.min_eq_left hl] at h
 exact h
structure RowOf (P : Program) (F : Nat → Prop) (ι : Inj) (w0 w : World) (sz n : Nat) (cs : List AV) (v : Value) (us : List Value) : Prop where
 rel : VRL F ι w0 cs us
 one : ∀ u ∈ us, u.oneCell' = true
 len : us.length = n * sz
 isS : ∃ b c, v = .slice b n c
 lenOf : ∀ w, (Builtin.lenOf v).run P w = .ok n w
 read : ∀ (m : Nat) (w' : World), m ≤ n → w'.heap = w.heap → (Builtin.firstCells sz m v).run P w' = .ok (us.take (m * sz)).toArray w'
theorem CellsAt.heap {c off : Nat} {vs : List Value} {w' : World} (h : CellsAt w c off vs) (hw : w'.heap = w.heap) : CellsAt w' c off vs := h.world (by rw [hw])
theorem RowOf.nil {sz : Nat} {b : Option Addr} {c : Nat} : RowOf P F ι w0 w sz 0 [] (.slice b 0 c) [] :=
 ⟨VRL_nil.2 rfl, by simp, by simp, ⟨_, _, rfl⟩, by simp [Builtin.lenOf], fun m w' hm _ => by
  obtain rfl : m = 0 := by omega
  simpa using firstCells_zero sz b 0 c w'⟩
theorem RowOf.at {sz n c off cap : Nat} {cs : List AV} {vs : List Value} (hv : VRL F ι w0 cs vs) (hc : CellsAt w c off vs) (hl : n * sz ≤ vs.length) : RowOf P F ι w0 w sz n (cs.take (n * sz)) (.slice (some ⟨c, off, none⟩) n cap) (vs.take (n * sz)) :=
 ⟨hv.take _, (hc.take _).one, by rw [List.length_take]; omega, ⟨_, _, rfl⟩, by simp [Builtin.lenOf], fun m w' hm hw => by
  rw [firstCells_run (hc.heap hw) (Nat.le_trans (Nat.mul_le_mul_right _ hm) hl), List.take_take, Nat.min_eq_left (Nat.mul_le_mul_right _ hm)]⟩
theorem cells_sound {sz n : Nat} {x : AV} {cs : List AV} {v : Value} (h : aCells H sz x = some (n, cs)) (hx : VR F ι w0 x v) (hF : ∀ c, F c → w.heap[c]? = w0.heap[c]?)
 (hbr : ∀ id b e, id ∈ x.ids → H[id]? = some b → b.live = true → ι id = some e → BRo F ι w0 b e w) : ∃ us, RowOf P F ι w0 w sz n cs v us := by
 have snap : ∀ len cs0 b ccap, len ≤ ccap → ((cs0 = [] ∧ len = 0) ∨ ∃ c off vs, b = some ⟨c, off, none⟩ ∧ F c ∧ CellsAt w0 c off vs ∧ VRL F ι w0 cs0 vs) → len * sz ≤ cs0.length →
  ∃ us, RowOf P F ι w0 w sz len (cs0.take (len * sz)) (.slice b len ccap) us := by
  intro len cs0 b ccap _ h4 h5
  rcases h4 with ⟨rfl, rfl⟩ | ⟨c, off, vs, rfl, hf, hc, hv⟩
  ·simp only [List.take_nil]
   exact ⟨_, RowOf.nil⟩
  ·exact ⟨_, RowOf.at hv (hc.world (hF c hf)) (by rw [← hv.length]; exact h5)⟩
 unfold aCells at h
 split at h
 ·simp only [VR] at hx
  obtain ⟨b, rfl⟩ := hx
  obtain ⟨rfl, rfl⟩ := Prod.mk.inj (Option.some.inj h)
  exact ⟨_, RowOf.nil⟩
 ·simp only [VR] at hx
  subst hx
  obtain ⟨rfl, rfl⟩ := Prod.mk.inj (Option.some.inj h)
  exact ⟨_, RowOf.nil⟩
 ·split at h
  ·rename_i hl
   obtain ⟨rfl, rfl⟩ := Prod.mk.inj (Option.some.inj h)
   simp only [VR] at hx
   obtain ⟨b, ccap, rfl, h2, h3, hz, h4⟩ := hx
   exact snap _ _ _ _ h3 h4 hl
  ·cases h
 ·split at h
  ·rename_i hl
   obtain ⟨rfl, rfl⟩ := Prod.mk.inj (Option.some.inj h)
   simp only [VR] at hx
   obtain ⟨b, ccap, rfl, h2, h3, h4⟩ := hx
   refine snap _ _ _ _ h3 ?_ hl
   rcases h4 with h4 | ⟨c, off, vs, rfl, h5⟩
   ·exact Or.inl h4
   ·exact Or.inr ⟨c, off, vs, rfl, h5⟩
  ·cases h
 ·rename_i id off n' cap
  split at h
  ·rename_i b hb
   split at h
   ·rename_i hl
    obtain ⟨rfl, rfl⟩ := Prod.mk.inj (Option.some.inj h)
    simp only [VR] at hx
    rcases hx with ⟨c, ccap, off', h1, rfl, h2, h3, h4, h5⟩ | ⟨h1, rfl, rfl, a, rfl⟩
    ·rcases h4 with rfl | rfl
     ·obtain rfl : n' = 0 := by omega
      simp only [Nat.zero_mul, List.take_zero]
      exact ⟨_, RowOf.nil⟩
     ·obtain ⟨vs, hv, hc⟩ := (hbr id b (some c) (by simp [AV.ids]) hb hl.1 h1).cellsAt
      have hlen := hv.length
      have := RowOf.at (P := P) (n := n') (sz := sz) (cap := ccap) (hv.drop off') (hc.drop off') (by rw [List.length_drop]; omega)
      rw [Nat.zero_add] at this
      exact ⟨_, this⟩
    ·simp only [Nat.zero_mul, List.take_zero]
     exact ⟨_, RowOf.nil⟩
   ·cases h
  ·cases h
 ·cases h
theorem append_room_run {t ty e sz sLen n sCap : Nat} {x : Value} {base : Option Addr} {us : List Value} {cs : List AV} (ht : P.underlying t = some (.slice e)) (hs : tSize P e = some sz) (hx : RowOf P F ι w0 w sz n cs x us) (hroom : sLen + n ≤ sCap)
 {w' : World} (hst : match base with
  | some a => (storeCells (a.add (sLen * sz)) us).run P w = .ok () w'
  | none => w' = w) :
 (Builtin.append_ #[t, t] ty #[.slice base sLen sCap, x]).run P w = .ok (.slice base (sLen + n) sCap) w' := by
 have hr := hx.read n w (Nat.le_refl _) rfl
 rw [List.take_of_length_le (by rw [hx.len]; exact Nat.le_refl _)] at hr
 cases base with
 | none =>
  subst hst
  simp [Builtin.append_, run_underlying ht, tSize_run hs, hx.lenOf, hroom, hr]
 | some a => simp [Builtin.append_, run_underlying ht, tSize_run hs, hx.lenOf, hroom, hr, hst]
theorem append_grow_run {t ty e sz by_ sLen n sCap : Nat} {z : List AV} {x : Value} {base : Option Addr} {us os : List Value} {cs olds : List AV} (ht : P.underlying t = some (.slice e)) (hs : tSize P e = some sz) (hb : tBytes P e = some by_) (hz : tZero P e = some z)
 (hx : RowOf P F ι w0 w sz n cs x us) (ho : RowOf P F ι w0 w sz sLen olds (.slice base sLen sCap) os) (hroom : ¬ (sLen + n ≤ sCap)) (h63 : sLen + n ≤ 9223372036854775807) (hby : (sLen + n) * by_ ≤ 140737488355328) (hzl : z.length = sz) :
 ∃ (c : Nat) (rest : List Value) (w' : World), sLen + n ≤ c ∧ (Builtin.append_ #[t, t] ty #[.slice base sLen sCap, x]).run P w = .ok (.slice (some ⟨w.heap.size, 0, none⟩) (sLen + n) c) w' ∧
  w'.heap = w.heap.push (.cells (os ++ us ++ rest).toArray e) ∧ (os ++ us ++ rest).length = c * sz ∧ w'.os = w.os ∧ w'.tape = w.tape ∧ w'.output = w.output := by
 obtain ⟨i, hi, hisz⟩ := tSize_info hs
 obtain ⟨i2, hi2, hiby⟩ := tBytes_info hb
 obtain ⟨i3, v, hi3, hiz, hzv, _⟩ := tZero_info hz
 rw [hi] at hi2 hi3
 obtain rfl := Option.some.inj hi2
 obtain rfl := Option.some.inj hi3
 subst hisz hiby
 have hold : sCap < sLen + n := by omega
 have h48 := growslice_fits hold hby
 have h63' : ¬ (9223372036854775807 < ((sLen : Int) + (n : Int))) := by omega
 have h48' : ¬ (281474976710656 < Builtin.nextslicecap (sLen + n) sCap * i.bytes) := by omega
 have hr := hx.read n w.drew (Nat.le_refl _) rfl
 have hro := ho.read sLen w.drew (Nat.le_refl _) rfl
 rw [List.take_of_length_le (by rw [hx.len]; exact Nat.le_refl _)] at hr
 rw [List.take_of_length_le (by rw [ho.len]; exact Nat.le_refl _)] at hro
 have hge : sLen + n ≤ grownCap w (sLen + n) sCap e := grownCap_ge w (sLen + n) sCap e
 have hzs : v.cells.size = i.size := by rw [← hzl, ← hzv]; simp
 refine ⟨grownCap w (sLen + n) sCap e, (Builtin.zeroCells v.cells (grownCap w (sLen + n) sCap e - (sLen + n))).toList,
  w.drew.alloc (.cells (os.toArray ++ us.toArray ++ Builtin.zeroCells v.cells (grownCap w (sLen + n) sCap e - (sLen + n))) e), hge, ?_, ?_, ?_, rfl, rfl, rfl⟩
 ·simp [Builtin.append_, run_underlying ht, sizeOf, typeInfo, zeroValue, hi, hiz, hx.lenOf, hroom, h63', h48', Question.forced, hr, hro, newRow, grownCap]
  congr 2
  apply Array.ext'
  simp
 ·show w.heap.push _ = _
  congr 2
  apply Array.ext'
  simp
 ·rw [List.length_append, List.length_append, ho.len, hx.len, Array.length_toList, size_zeroCells, hzs, ← Nat.add_mul, ← Nat.add_mul]
  congr 1
  omega
theorem write_tail {b : Blk} {c : Emb} {cs : List AV} {us : List Value} {k : Nat} (hb : BR F ι w0 b c w) (hro : b.ro = false) (hcs : VRL F ι w0 cs us) (h1 : ∀ u ∈ us, u.oneCell' = true) (hk : k ≤ b.cells.length) (hl : k + us.length ≤ c.room * b.sz) :
 ∃ w', (storeCells ⟨c.blk, k, none⟩ us).run P w = .ok () w' ∧ BR F ι w0 ⟨b.sz, b.cells.take k ++ cs, true, false⟩ c w' ∧ (∀ k, k ≠ c.blk → w'.heap[k]? = w.heap[k]?) ∧ w'.heap.size = w.heap.size ∧ w'.os = w.os ∧ w'.tape = w.tape ∧ w'.output = w.output := by
 obtain ⟨arr, t, fz, g1, g2, g4, vs, rest, g5, g6, g7⟩ := hb
 obtain rfl := g4 hro
 have e1 := hcs.length
 have e2 := g6.length
 have hr := run_storeCells_at P c.blk k t us 0 arr w g1 (by omega) h1
 simp only [Nat.add_zero] at hr
 refine ⟨_, hr, ⟨_, t, (0, 0), setRow_heap w c.blk arr _ t (0, 0) g1, ?_, fun _ => rfl, vs.take k ++ us, arr.toList.drop (k + us.length), ?_, (g6.take _).append hcs, ?_⟩, fun k hk => setRow_other w c.blk k _ hk, by simp, rfl, rfl, rfl⟩
 ·show _ = c.room * b.sz
  rw [← g2]
  simp only [List.size_toArray, List.length_append, List.length_take, List.length_drop, Array.length_toList]
  omega
 ·show List.take k arr.toList ++ us ++ List.drop (k + us.length) arr.toList = _
  have : List.take k arr.toList = vs.take k := by rw [g5, List.take_append_of_le_length (by omega)]
  rw [this]
 ·intro u hu
  simp only [List.mem_append] at hu
  rcases hu with hu | hu
  ·exact g7 u (List.mem_of_mem_take hu)
  ·exact h1 u hu
theorem Eff.kill {w' : World} {b : Blk} {id : Nat} (h : Eff F w0 ι ι' H (H ++ [b]) [] w w') (hid : id < H.length) : Eff F w0 ι ι' H (H.set id deadBlk ++ [b]) [id] w w' := by
 have hg : ∀ k, H.length ≤ k → (H.set id deadBlk ++ [b])[k]? = (H ++ [b])[k]? := by
  intro k hk
  rw [List.getElem?_append_right (by simpa using hk), List.getElem?_append_right hk]
  simp
 have hl : (H.set id deadBlk ++ [b]).length = (H ++ [b]).length := by simp
 have hdead : ∀ b', (H.set id deadBlk ++ [b])[id]? = some b' → b'.live = false := by
  intro b' hb'
  rw [List.getElem?_append_left (by simpa using hid)] at hb'
  simp [hid] at hb'
  subst hb'
  rfl
 refine ⟨by rw [hl]; exact h.len, h.le, fun k hk => h.old k (by rw [hl] at hk; exact hk), fun k h2 h3 => ?_, fun k c h2 h3 h4 => ?_, fun k k' c c' h2 h3 h4 h5 => h.newInj k k' c c' h2 (by rw [hl] at h3; exact h3) h4 (by rw [hl] at h5; exact h5), ?_, ?_, ?_, h.os, h.tape, h.out, h.size⟩
 ·obtain ⟨e, h5, h6⟩ := h.new k h2 (by rw [hl] at h3; exact h3)
  exact ⟨e, h5, fun b' hb' => h6 b' (by rw [← hg k h2]; exact hb')⟩
 ·rcases h.newAt k c h2 (by rw [hl] at h3; exact h3) h4 with h5 | ⟨_, _, h5, _⟩
  ·exact Or.inl h5
  ·simp at h5
 ·intro k b' e hk h2 h3 h4
  simp at hk
  subst hk
  rw [hdead b' h2] at h3
  cases h3
 ·intro k hk hk2
  simp at hk2
  rw [List.getElem?_append_left (by simpa using hk), List.getElem?_set_ne (fun e => hk2 e.symm)]
 ·intro c hc _
  exact h.frame c hc (by simp)
theorem Eff.empty {b : Blk} (hnew : ι H.length = none) (hb : b.cells = []) : Eff F w0 ι (ι.set H.length none) H (H ++ [b]) [] w w := by
 have hle := Inj.le_set (e := (none : Option Emb)) hnew
 refine ⟨by simp, hle, ?_, ?_, ?_, ?_, ?_, ?_, fun _ _ _ => rfl, rfl, rfl, rfl, Nat.le_refl _⟩
 ·intro id h
  unfold Inj.set
  rw [if_neg]
  intro e
  subst e
  simp at h
  omega
 ·intro id h2 h3
  simp at h3
  have : id = H.length := by omega
  subst this
  refine ⟨none, by simp [Inj.set], fun b' hb' _ => ?_⟩
  simp at hb'
  subst hb'
  exact hb
 ·intro id c h2 h3 h4
  simp at h3
  have : id = H.length := by omega
  subst this
  simp [Inj.set] at h4
 ·intro id id' c c' h2 h3 h4 h5 _ _ _
  simp at h3 h5
  omega
 ·intro id b e h; simp at h
 ·intro id h2 _
  simp [List.getElem?_append_left h2]
theorem Eff.moved {w' : World} {b : Blk} {id : Nat} {c : Emb} (hnew : ι H.length = none) (hid : id < H.length) (hc : ι id = some (some c)) (hb : BR F ι w0 b c w')
 (hframe : ∀ k, k ≠ c.blk → w'.heap[k]? = w.heap[k]?) (hs : w'.heap.size = w.heap.size) (ho : w'.os = w.os) (ht : w'.tape = w.tape) (hout : w'.output = w.output) :
 Eff F w0 ι (ι.set H.length (some c)) H (H.set id deadBlk ++ [b]) [id] w w' := by
 have hle := Inj.le_set (e := some c) hnew
 have hdead : ∀ b', (H.set id deadBlk ++ [b])[id]? = some b' → b'.live = false := by
  intro b' hb'
  rw [List.getElem?_append_left (by simpa using hid)] at hb'
  simp [hid] at hb'
  subst hb'
  rfl
 refine ⟨by simp, hle, ?_, ?_, ?_, ?_, ?_, ?_, ?_, ho, ht, hout, by omega⟩
 ·intro k h
  unfold Inj.set
  rw [if_neg]
  intro e
  subst e
  simp at h
  omega
 ·intro k h2 h3
  simp at h3
  have : k = H.length := by omega
  subst this
  refine ⟨some c, by simp [Inj.set], fun b' hb' _ => ?_⟩
  rw [List.getElem?_append_right (by simp)] at hb'
  simp at hb'
  subst hb'
  exact BR.mono hb hle rfl
 ·intro k c' h2 h3 h4
  simp at h3
  have : k = H.length := by omega
  subst this
  simp [Inj.set] at h4
  subst h4
  exact Or.inr ⟨id, c, by simp, hc, rfl, hdead⟩
 ·intro k k' c c' h2 h3 h4 h5 _ _ _
  simp at h3 h5
  omega
 ·intro k b' e hk h2 h3 h4
  simp at hk
  subst hk
  rw [hdead b' h2] at h3
  cases h3
 ·intro k hk hk2
  simp at hk2
  rw [List.getElem?_append_left (by simpa using hk), List.getElem?_set_ne (fun e => hk2 e.symm)]
 ·intro k hk h
  exact hframe k (fun e => h id c (by simp) hc e.symm)
def Done (P : Program) (F : Nat → Prop) (w0 w : World) (ι : Inj) (H : Heap) (r : World → Value → World → Prop) (x : AV) (e : AEff) : Prop :=
 ∃ v w' ι', r w v w' ∧ VR F ι' w0 x v ∧ Eff F w0 ι ι' H (e.app H) e.wr w w'
theorem Done.pure {r : World → Value → World → Prop} {x : AV} {v : Value} (hr : r w v w) (hx : VR F ι w0 x v) : Done P F w0 w ι H r x .nil :=
 ⟨v, w, ι, hr, hx, Eff.refl F w0 ι H w⟩
theorem append_make_run {t t' ty e sz by_ n : Nat} {k : IntKind} {z : List AV} {base : Option Addr} (ht : P.underlying t = some (.slice e)) (ht' : P.underlying t' = some (.int k)) (hs : tSize P e = some sz) (hb : tBytes P e = some by_) (hz : tZero P e = some z)
 (h0 : 0 < n) (h63 : n ≤ 9223372036854775807) (hby : n * by_ ≤ 140737488355328) (hzl : z.length = sz) (hsz : 0 < sz) :
 ∃ (c : Nat) (rest : List Value) (w' : World), n ≤ c ∧ (Builtin.append_ #[t, t'] ty #[.slice base 0 0, .int .i64 n]).run P w = .ok (.slice (some ⟨w.heap.size, 0, none⟩) n c) w' ∧
  w'.heap = w.heap.push (.cells rest.toArray e) ∧ rest.length = c * sz ∧ w'.os = w.os ∧ w'.tape = w.tape ∧ w'.output = w.output := by
 obtain ⟨i, hi, hisz⟩ := tSize_info hs
 obtain ⟨i2, hi2, hiby⟩ := tBytes_info hb
 obtain ⟨i3, v, hi3, hiz, hzv, _⟩ := tZero_info hz
 rw [hi] at hi2 hi3
 obtain rfl := Option.some.inj hi2
 obtain rfl := Option.some.inj hi3
 subst hisz hiby
 have hold : 0 < 0 + n := by omega
 have h48 := growslice_fits hold (by simpa using hby)
 rw [Nat.zero_add] at h48
 have h48' : ¬ (281474976710656 < Builtin.nextslicecap n 0 * i.bytes) := by omega
 have hw : IntKind.i64.wrap (n : Int) = n := IntWalk.i64_in _ (by omega)
 have hn0 : ¬ ((n : Int) < 0) := by omega
 have hn1 : ¬ (9223372036854775807 < (n : Int)) := by omega
 have hn2 : ¬ (281474976710656 < (n : Int) * (i.bytes : Int)) := by
  have : (n : Int) * (i.bytes : Int) = ((n * i.bytes : Nat) : Int) := by simp
  omega
 have hroom : ¬ (n ≤ 0) := by omega
 have hne : ¬ (n = 0) := by omega
 have hse : ¬ (i.size = 0) := by omega
 have hge : n ≤ grownCap w n 0 e := grownCap_ge w n 0 e
 have hzs : v.cells.size = i.size := by rw [← hzl, ← hzv]; simp
 have hread : ∀ w1 : World, (Builtin.firstCells i.size 0 (.slice base 0 0)).run P w1 = .ok #[] w1 := by
  intro w1
  cases base <;> simp [Builtin.firstCells, loadCells, loadCellsFrom]
 refine ⟨grownCap w n 0 e, (Builtin.zeroCells v.cells n ++ Builtin.zeroCells v.cells (grownCap w n 0 e - n)).toList,
  w.drew.alloc (.cells (Builtin.zeroCells v.cells n ++ Builtin.zeroCells v.cells (grownCap w n 0 e - n)) e), hge, ?_, ?_, ?_, rfl, rfl, rfl⟩
 ·simp [Builtin.append_, run_underlying ht, run_underlying ht', sizeOf, typeInfo, zeroValue, hi, hiz, asInt, asIntOf, hw, hn0, hn1, hn2, hroom, hne, hse, h48', Question.forced, hread, newRow, grownCap]
  exact fun h => absurd h (Nat.ne_of_gt (Nat.mul_pos h0 hsz))
 ·show w.heap.push _ = _
  congr 2
 ·rw [Array.length_toList, Array.size_append, size_zeroCells, size_zeroCells, hzs, ← Nat.add_mul]
  congr 1
  omega
theorem append_make_sound {t t' ty : TypeId} {s x y : AV} {e : AEff} {v u : Value} (h : aAppMake P H t t' s x = some (y, e)) (hs : VR F ι w0 s v) (hx : VR F ι w0 x u) (hnew : (e.app H).length ≠ H.length → ι H.length = none) :
 Done P F w0 w ι H (fun w v' w' => (Builtin.append_ #[t, t'] ty #[v, u]).run P w = .ok v' w') y e := by
 unfold aAppMake at h
 split at h
 case h_2 => cases h
 rename_i el k hel hk
 split at h
 case h_2 => cases h
 rename_i sz by_ z hsz hby hz
 split at h
 case h_2 => cases h
 rename_i n
 split at h
 case isFalse => cases h
 rename_i hc
 obtain ⟨hzl, hs0, hn0, hn, hnb⟩ := hc
 obtain ⟨rfl, rfl⟩ := Prod.mk.inj (Option.some.inj h)
 simp only [VR] at hs hx
 obtain ⟨b, rfl⟩ := hs
 subst hx
 obtain ⟨m, rfl⟩ := Int.eq_ofNat_of_zero_le (Int.le_of_lt hn0)
 rw [Int.toNat_natCast]
 have hmb : m * by_ ≤ 140737488355328 := by
  have : ((m : Int) * (by_ : Int)) = ((m * by_ : Nat) : Int) := by simp
  omega
 obtain ⟨c, rest, w', hge, hr, hh, hlen, ho, htp, hout⟩ := append_make_run (ty := ty) (base := b) (w := w) (tElem_eq hel) (tInt_eq hk) hsz hby hz (by omega) (by omega) hmb hzl hs0
 refine ⟨_, w', _, hr, ?_, Eff.alloc (b := ⟨sz, [], true, false⟩) (room := c) (vs := []) (rest := rest) (hnew (by simp [AEff.app])) (by simpa using hlen) hh (fun _ => rfl) (by simp [VRL]) (by simp) (by simp) ho htp hout⟩
 simp only [VR]
 exact Or.inl ⟨⟨w.heap.size, c⟩, c, 0, by simp [Inj.set], rfl, by omega, hge, Or.inr rfl, fun _ => Nat.le_refl _⟩
theorem append_sound {t t' ty : TypeId} {s x y : AV} {e : AEff} {v u : Value} (h : aAppend P H t t' s x = some (y, e)) (hs : VR F ι w0 s v) (hx : VR F ι w0 x u) (hF : ∀ c, F c → w.heap[c]? = w0.heap[c]?)
 (hbr : ∀ id b e, id ∈ x.ids ∨ id ∈ s.ids → H[id]? = some b → b.live = true → ι id = some e → BRo F ι w0 b e w) (hnew : (e.app H).length ≠ H.length → ι H.length = none) :
 Done P F w0 w ι H (fun w v' w' => (Builtin.append_ #[t, t'] ty #[v, u]).run P w = .ok v' w') y e := by
 unfold aAppend at h
 split at h
 ·cases h
 rename_i el hel
 have ht := tElem_eq hel
 split at h
 case h_2 => cases h
 rename_i sz by_ z hsz hby hz
 split at h
 ·cases h
 rename_i hc
 simp only [not_or, Decidable.not_not] at hc
 obtain ⟨rfl, hsz0, hzl⟩ := hc
 split at h
 ·cases h
 rename_i n cs hcs
 obtain ⟨us, hu⟩ := cells_sound hcs hx hF (fun id b e hid => hbr id b e (Or.inl hid))
 -- a new block out of nothing
 have fresh : ι H.length = none → ∀ (b : Option Addr), v = .slice b 0 0 → n * by_ ≤ 140737488355328 → n ≤ 9223372036854775807 →
  ∃ v' w' ι', (Builtin.append_ #[t, t] ty #[v, u]).run P w = .ok v' w' ∧ VR F ι' w0 (.slice H.length 0 n 0) v' ∧ Eff F w0 ι ι' H (H ++ [⟨sz, cs, true, false⟩]) [] w w' := by
  intro hnew b hv h1 h2
  subst hv
  by_cases hn : n = 0
  ·subst hn
   have hus : us = [] := List.eq_nil_of_length_eq_zero (by simpa using hu.len)
   subst hus
   have hcs0 : cs = [] := List.eq_nil_of_length_eq_zero (by simpa using hu.rel.length)
   refine ⟨.slice b 0 0, w, ι.set H.length none, ?_, by simp [VR, Inj.set], Eff.empty hnew hcs0⟩
   have := append_room_run (ty := ty) (base := b) (sLen := 0) (sCap := 0) ht hsz hu (by omega) (w' := w) (by cases b <;> simp [storeCells])
   simpa using this
  ·obtain ⟨c, rest, w', hge, hr, hh, hlen, ho, htp, hout⟩ := append_grow_run (ty := ty) (base := b) (sLen := 0) (sCap := 0) ht hsz hby hz hu (RowOf.nil (P := P) (F := F) (ι := ι) (w0 := w0)) (by omega) (by omega) (by simpa using h1) hzl
   simp only [Nat.zero_add, List.nil_append] at hr hh hge hlen
   refine ⟨_, w', _, hr, ?_, Eff.alloc (b := ⟨sz, cs, true, false⟩) (room := c) (rest := rest) hnew (by simpa using hlen) hh (fun _ => rfl) hu.rel hu.one (by simp) ho htp hout⟩
   simp only [VR]
   exact Or.inl ⟨⟨w.heap.size, c⟩, c, 0, by simp [Inj.set], rfl, by omega, hge, Or.inr rfl, fun _ => Nat.le_refl _⟩
 split at h
 ·split at h
  ·rename_i hb
   obtain ⟨rfl, rfl⟩ := Prod.mk.inj (Option.some.inj h)
   simp only [VR] at hs
   obtain ⟨b, hv⟩ := hs
   exact fresh (hnew (by simp [AEff.app])) b hv hb.1 hb.2
  ·cases h
 ·split at h
  ·rename_i hb
   obtain ⟨rfl, rfl⟩ := Prod.mk.inj (Option.some.inj h)
   simp only [VR] at hs
   exact fresh (hnew (by simp [AEff.app])) none hs hb.1 hb.2
  ·cases h
 ·rename_i id off len cap
  split at h
  ·cases h
  rename_i b hb
  split at h
  case isFalse => cases h
  rename_i hcd
  obtain ⟨hlive, hro, hbsz, rfl, hfit, hby2, h63⟩ := hcd
  have hid : id < H.length := (List.getElem?_eq_some_iff.1 hb).1
  simp only [VR] at hs
  rcases hs with ⟨c, ccap, off', h1, rfl, h2, h3, h4, h5⟩ | ⟨h1, rfl, rfl, ad, rfl⟩
  case inr =>
   have hnone : b.cells = [] := hbr id b none (Or.inr (by simp [AV.ids])) hb hlive h1
   split at h
   ·omega
   ·obtain ⟨rfl, rfl⟩ := Prod.mk.inj (Option.some.inj h)
    obtain ⟨v', w', ι', g1, g2, g3⟩ := fresh (hnew (by simp [AEff.app])) ad rfl (by simpa using hby2) (by omega)
    refine ⟨v', w', ι', g1, by simpa using g2, ?_⟩
    simp only [Nat.zero_mul, List.take_zero, List.nil_append, AEff.app, AEff.wr]
    exact g3.kill hid
  have hBR : BR F ι w0 b c w := hbr id b (some c) (Or.inr (by simp [AV.ids])) hb hlive h1
  split at h
  ·rename_i hin
   obtain ⟨rfl, rfl⟩ := Prod.mk.inj (Option.some.inj h)
   obtain rfl : off' = 0 := by omega
   have hcl : len * sz + cs.length ≤ b.cells.length := by
    have := hu.rel.length
    have := hu.len
    rw [‹cs.length = us.length›, this, ← Nat.add_mul]
    exact hin.2.2
   obtain ⟨w', g1, g2, g3, g4, g5, g6, g7⟩ := write_row (P := P) hBR hro hu.rel hu.one hcl
   have := append_room_run (ty := ty) (base := some ⟨c.blk, 0, none⟩) (sLen := len) (sCap := ccap) ht hsz hu (by omega) (w' := w') (by simpa [addr_add] using g1)
   refine ⟨_, w', ι, this, ?_, Eff.write hid h1 g2 g3 g4 g5 g6 g7⟩
   simp only [VR]
   exact Or.inl ⟨c, ccap, 0, h1, rfl, h2, by omega, Or.inr rfl, h5⟩
  ·obtain ⟨rfl, rfl⟩ := Prod.mk.inj (Option.some.inj h)
   by_cases hroom : len + n ≤ ccap
   · -- there was room
    by_cases hc0 : ccap = 0
    ·obtain rfl : n = 0 := by omega
     obtain rfl : len = 0 := by omega
     have hus : us = [] := List.eq_nil_of_length_eq_zero (by simpa using hu.len)
     subst hus
     have hcs0 : cs = [] := List.eq_nil_of_length_eq_zero (by simpa using hu.rel.length)
     subst hcs0
     have := append_room_run (ty := ty) (base := some ⟨c.blk, off', none⟩) (sLen := 0) (sCap := ccap) ht hsz hu (by omega) (w' := w) (by simp [storeCells])
     refine ⟨_, w, ι.set H.length (some c), this, ?_, Eff.moved (hnew (by simp [AEff.app])) hid h1 ?_ (fun _ _ => rfl) rfl rfl rfl rfl⟩
     ·simp only [VR]
      exact Or.inl ⟨c, ccap, off', by simp [Inj.set], rfl, by omega, by omega, Or.inl hc0, h5⟩
     ·obtain ⟨arr, t', fz, q1, q2, q3, vs, rest, q4, q5, q6⟩ := hBR
      exact ⟨arr, t', fz, q1, by rw [q2, hbsz], fun _ => q3 hro, [], arr.toList, by simp, by simp [VRL_nil], by simp⟩
    ·obtain rfl : off' = 0 := by omega
     have hcr := h5 rfl
     obtain ⟨w', g1, g2, g3, g4, g5, g6, g7⟩ := write_tail (P := P) hBR hro hu.rel hu.one hfit (by
      rw [hu.len, hbsz, ← Nat.add_mul]
      exact Nat.mul_le_mul_right _ (by omega))
     have := append_room_run (ty := ty) (base := some ⟨c.blk, 0, none⟩) (sLen := len) (sCap := ccap) ht hsz hu hroom (w' := w') (by simpa [addr_add] using g1)
     rw [hbsz] at g2
     refine ⟨_, w', ι.set H.length (some c), this, ?_, Eff.moved (hnew (by simp [AEff.app])) hid h1 g2 g3 g4 g5 g6 g7⟩
     simp only [VR]
     exact Or.inl ⟨c, ccap, 0, by simp [Inj.set], rfl, by omega, by omega, Or.inr rfl, fun _ => hcr⟩
   · -- a new array
    have hold : ∃ os, RowOf P F ι w0 w sz len (b.cells.take (len * sz)) (.slice (some ⟨c.blk, off', none⟩) len ccap) os := by
     rcases h4 with rfl | rfl
     ·obtain rfl : len = 0 := by omega
      simp only [Nat.zero_mul, List.take_zero]
      exact ⟨_, RowOf.nil⟩
     ·obtain ⟨vs, hv, hcv⟩ := hBR.cellsAt
      exact ⟨_, RowOf.at hv hcv (by rw [← hv.length]; exact hfit)⟩
    obtain ⟨os, ho⟩ := hold
    obtain ⟨c', rest, w', hge, hr, hh, hlen, q1, q2, q3⟩ := append_grow_run (ty := ty) ht hsz hby hz hu ho hroom h63 hby2 hzl
    have hE := Eff.alloc (F := F) (w0 := w0) (H := H) (b := ⟨sz, b.cells.take (len * sz) ++ cs, true, false⟩) (room := c') (vs := os ++ us) (rest := rest) (hnew (by simp [AEff.app])) (by simpa using hlen) hh (fun _ => rfl) (ho.rel.append hu.rel)
     (fun x hx => by
      rcases List.mem_append.1 hx with hx | hx
      ·exact ho.one x hx
      ·exact hu.one x hx) (by simp) q1 q2 q3
    refine ⟨_, w', _, hr, ?_, hE.kill hid⟩
    simp only [VR]
    exact Or.inl ⟨⟨w.heap.size, c'⟩, c', 0, by simp [Inj.set], rfl, by omega, hge, Or.inr rfl, fun _ => Nat.le_refl _⟩
 ·cases h
end
section
variable {P : Program} {F : Nat → Prop} {ι ι' : Inj} {w0 w : World} {a : Act} {ρ : Operand → AV} {H : Heap}
theorem foldl_splice (off : Nat) (l : List Value) : ∀ (s : Nat) (cs : Array Value), off + s + l.length ≤ cs.size →
 ((l.toArray.zipIdx s).foldl (init := cs) fun cs (c, j) => cs.setIfInBounds (off + j) c) = (cs.toList.take (off + s) ++ l ++ cs.toList.drop (off + s + l.length)).toArray := by
 intro s cs h
 rw [← Array.foldl_toList]
 simp only [Array.toList_zipIdx]
 induction l generalizing s cs with
 | nil => simp
 | cons x xs ih =>
  simp only [List.zipIdx_cons, List.foldl_cons]
  rw [ih (s + 1) _ (by simp at h ⊢; omega)]
  apply Array.ext'
  simp only [Array.toList_setIfInBounds, List.length_cons, ← Nat.add_assoc]
  have hlt : off + s < cs.toList.length := by simp at h ⊢; omega
  rw [List.take_set, List.drop_set]
  rw [if_pos (by omega)]
  have e1 : (List.take (off + s + 1) cs.toList).set (off + s) x = cs.toList.take (off + s) ++ [x] := by
   rw [List.take_succ_eq_append_getElem hlt, List.set_append_right _ _ (by simp; omega)]
   have hlt' : off + s < cs.size := by simpa using hlt
   simp [Nat.min_eq_left (Nat.le_of_lt hlt')]
  rw [e1]
  simp [show off + s + xs.length + 1 = off + s + (xs.length + 1) by omega, show off + s + 1 + xs.length = off + s + (xs.length + 1) by omega]
theorem fill_one {place : Nat → Option (Nat × Nat)} {cells : Array Value} {i off : Nat} {v : Value} {rest : List (Nat × Value)} (hp : place i = some (off, v.cells.size)) (hl : off + v.cells.size ≤ cells.size) :
 Instr.fill place cells ((i, v) :: rest) = Instr.fill place (cells.toList.take off ++ v.cells.toList ++ cells.toList.drop (off + v.cells.size)).toArray rest := by
 have h := foldl_splice off v.cells.toList 0 cells (by simpa using hl)
 simp only [Array.toArray_toList, Nat.add_zero, Array.length_toList] at h
 conv => lhs; unfold Instr.fill
 simp only [hp]
 rw [if_neg (by simp; omega), h]
theorem fill_sound {t : TypeId} {fs : Array Field} {places : Array (Nat × Nat)} (hu : P.underlying t = some (.struct fs)) (hpl : ∀ (i o : Nat) ft n, tField P t i = some (o, ft) → tSize P ft = some n → places[i]? = some (o, n)) :
 ∀ (ps : List (Nat × AV)) (qs : List (Nat × Value)) (cs0 cs : List AV) (cells : Array Value), ps.map (·.1) = qs.map (·.1) → (∀ (k : Nat) p q, ps[k]? = some p → qs[k]? = some q → VR F ι w0 p.2 q.2) →
  VRL F ι w0 cs0 cells.toList → (∀ u ∈ cells.toList, u.oneCell' = true) → aFill P t cs0 ps = some cs →
  ∃ cells', Instr.fill (places[·]?) cells qs = some cells' ∧ VRL F ι w0 cs cells'.toList ∧ ∀ u ∈ cells'.toList, u.oneCell' = true
 | [], [], cs0, cs, cells, _, _, h1, h2, h => by
  simp only [aFill, Option.some.injEq] at h
  subst h
  exact ⟨cells, rfl, h1, h2⟩
 | [], _ :: _, _, _, _, hm, _, _, _, _ => by simp at hm
 | _ :: _, [], _, _, _, hm, _, _, _, _ => by simp at hm
 | (i, x) :: ps, (j, v) :: qs, cs0, cs, cells, hm, hv, h1, h2, h => by
  simp only [List.map_cons, List.cons.injEq] at hm
  obtain ⟨rfl, hm⟩ := hm
  simp only [aFill] at h
  split at h
  case h_2 => cases h
  rename_i o ft vs hf hc
  split at h
  case isFalse => cases h
  rename_i hcd
  have hx : VR F ι w0 x v := hv 0 (i, x) (i, v) rfl rfl
  obtain ⟨hr, ho⟩ := hx.cells hc
  have hl := hr.length
  have hl1 := h1.length
  simp only [Array.length_toList] at hl hl1
  have hpi := hpl i o ft _ hf hcd.1
  have hstep := fill_one (place := (places[·]?)) (cells := cells) (i := i) (off := o) (v := v) (rest := qs) (by rw [hpi, hl]) (by omega)
  obtain ⟨cells', g1, g2, g3⟩ := fill_sound hu hpl ps qs _ cs (cells.toList.take o ++ v.cells.toList ++ cells.toList.drop (o + v.cells.size)).toArray hm
   (fun k p q hp hq => hv (k + 1) p q (by simpa using hp) (by simpa using hq)) (by
    have := h1.putAt (off := o) hr
    simpa using this) (by
    intro u hu
    simp only [List.mem_append] at hu
    rcases hu with (hu | hu) | hu
    ·exact h2 u (List.mem_of_mem_take hu)
    ·exact ho u hu
    ·exact h2 u (List.mem_of_mem_drop hu)) h
  exact ⟨cells', by rw [hstep]; exact g1, g2, g3⟩
theorem row_sound {sz : Nat} : ∀ (ps : List (Nat × AV)) (qs : List (Nat × Value)) (k : Nat) (cs : List AV), ps.map (·.1) = qs.map (·.1) → (∀ (k : Nat) p q, ps[k]? = some p → qs[k]? = some q → VR F ι w0 p.2 q.2) → aRow sz k ps = some cs →
 VRL F ι w0 cs (qs.flatMap fun q => q.2.cells.toList) ∧ (∀ u ∈ qs.flatMap (fun q => q.2.cells.toList), u.oneCell' = true) ∧ (∀ q ∈ qs, q.2.cells.size = sz) ∧ qs = ((qs.map (·.2)).zipIdx k).map fun x => (x.2, x.1)
 | [], [], k, cs, _, _, h => by
  simp only [aRow, Option.some.injEq] at h
  subst h
  simp [VRL_nil]
 | [], _ :: _, _, _, hm, _, _ => by simp at hm
 | _ :: _, [], _, _, hm, _, _ => by simp at hm
 | (i, x) :: ps, (j, v) :: qs, k, cs, hm, hv, h => by
  simp only [List.map_cons, List.cons.injEq] at hm
  obtain ⟨rfl, hm⟩ := hm
  simp only [aRow] at h
  split at h
  case h_2 => cases h
  rename_i vs hc
  split at h
  case isFalse => cases h
  rename_i hcd
  obtain ⟨rfl, hsz⟩ := hcd
  obtain ⟨rs, h1, h2⟩ := Option.map_eq_some_iff.1 h
  subst h2
  have hx : VR F ι w0 x v := hv 0 (i, x) (i, v) rfl rfl
  obtain ⟨hr, ho⟩ := hx.cells hc
  have hl := hr.length
  obtain ⟨g1, g2, g3, g4⟩ := row_sound ps qs (i + 1) rs hm (fun k p q hp hq => hv (k + 1) p q (by simpa using hp) (by simpa using hq)) h1
  refine ⟨?_, ?_, ?_, ?_⟩
  ·simp only [List.flatMap_cons]
   exact hr.append g1
  ·intro u hu
   simp only [List.flatMap_cons, List.mem_append] at hu
   rcases hu with hu | hu
   ·exact ho u hu
   ·exact g2 u hu
  ·intro q hq
   rcases List.mem_cons.1 hq with rfl | hq
   ·simp only [Array.length_toList] at hl
    simp only
    omega
   ·exact g3 q hq
  ·simp only [List.map_cons, List.zipIdx_cons]
   rw [← g4]
theorem zip_rel {ps : List (Nat × Operand)} (hρ : ∀ y, VR F ι w0 (ρ y) (a.eval y)) :
 (ps.map fun p => (p.1, ρ p.2)).map (·.1) = (ps.map fun p => (p.1, a.eval p.2)).map (·.1) ∧ ∀ (k : Nat) p q, (ps.map fun p => (p.1, ρ p.2))[k]? = some p → (ps.map fun p => (p.1, a.eval p.2))[k]? = some q → VR F ι w0 p.2 q.2 := by
 constructor
 ·simp
 ·intro k p q hp hq
  rw [List.getElem?_map] at hp hq
  cases hk : ps[k]? with
  | none => rw [hk] at hp; cases hp
  | some y =>
   rw [hk] at hp hq
   simp at hp hq
   subst hp hq
   exact hρ _
end
section
variable {P : Program} {F : Nat → Prop} {ι ι' : Inj} {w0 w : World} {a : Act} {ρ : Operand → AV} {H : Heap}
theorem zeroValue_run {t : TypeId} {i : TypeInfo} {v : Value} (h1 : P.info? t = some i) (h2 : i.zero = some v) (w : World) : (zeroValue t).run P w = .ok v w := by
 simp [zeroValue, typeInfo, h1, h2]
theorem places_run (fs : List Field) (h : ∀ f ∈ fs, ∃ i, P.info? f.type = some i) (w : World) :
 (fs.mapM (fun f => do pure (f.offset, ← sizeOf f.type) : Field → Sem (Nat × Nat))).run P w = .ok (fs.map fun f => (f.offset, P.cellsOf f.type)) w := by
 induction fs with
 | nil => rfl
 | cons f fs ih =>
  obtain ⟨i, hi⟩ := h f (by simp)
  have e : (sizeOf f.type).run P w = .ok (P.cellsOf f.type) w := by simp [sizeOf, typeInfo, hi, Program.cellsOf]
  have ih' := ih (fun g hg => h g (by simp [hg]))
  simp only [List.mapM_cons, Sem.run_bind, Sem.run_pure, Result.andThen_ok, e, ih', List.map_cons]
theorem build_sound {t : TypeId} {z cs : List AV} {ps : List (Nat × Operand)} (ht : tSct P t = true) (hz : tZero P t = some z) (hf : aFill P t z (ps.map fun p => (p.1, ρ p.2)) = some cs) (hρ : ∀ y, VR F ι w0 (ρ y) (a.eval y)) :
 ∃ v, (Instr.build t (ps.map fun p => (p.1, a.eval p.2)).toArray).run P w = .ok v w ∧ VR F ι w0 (.agg cs) v := by
 obtain ⟨fs, hu, hinf⟩ := tSct_eq ht
 obtain ⟨i, v, h1, h2, h3, h4⟩ := tZero_rel (F := F) (ι := ι) (w0 := w0) hz
 obtain ⟨hm, hrel⟩ := zip_rel (ps := ps) hρ
 obtain ⟨cells', g1, g2, g3⟩ := fill_sound (places := (fs.toList.map fun f => (f.offset, P.cellsOf f.type)).toArray) hu (by
  intro i o ft n hi hn
  obtain ⟨fs', fd, e1, e2, e3, e4⟩ := tField_eq hi
  rw [hu] at e1
  obtain rfl : fs = fs' := by simpa using e1
  subst e3 e4
  obtain ⟨inf, e5, e6⟩ := tSize_info hn
  have : fs.toList[i]? = some fd := by simpa using e2
  simp [this, Program.cellsOf, e5, e6]) _ _ z cs v.cells hm hrel h3 h4 hf
 refine ⟨.agg cells', ?_, by simp only [VR]; exact ⟨cells', rfl, g2, g3⟩⟩
 unfold Instr.build
 have hpl : (fs.mapM (fun f => do pure (f.offset, ← sizeOf f.type) : Field → Sem (Nat × Nat))).run P w = .ok (fs.toList.map fun f => (f.offset, P.cellsOf f.type)).toArray w := by
  rw [Array.mapM_eq_mapM_toList]
  simp only [Sem.run_map, places_run fs.toList hinf w, Result.andThen_ok]
 simp only [Sem.run_bind, zeroValue_run h1 h2, Result.andThen_ok, run_underlying hu, hpl]
 simp only [g1, Sem.run_pure]
theorem buildSlice_sound {t e : TypeId} {n sz : Nat} {z cs : List AV} {ps : List (Nat × Operand)} (he : tElem P t = some e) (hs : tSize P e = some sz) (hz : tZero P e = some z) (hn : ps.length = n) (hsm : n * sz ≤ 16777216) (hzl : z.length = sz) (h0 : 0 < sz) (hne : ¬ (n = 0))
 (hf : aRow sz 0 (ps.map fun p => (p.1, ρ p.2)) = some cs) (hρ : ∀ y, VR F ι w0 (ρ y) (a.eval y)) (hnew : ι H.length = none) :
 Done P F w0 w ι H (fun w v w' => (Instr.buildSlice t n (ps.map fun p => (p.1, a.eval p.2)).toArray).run P w = .ok v w') (.slice H.length 0 n n) (.new ⟨sz, cs, true, false⟩) := by
 obtain ⟨i, v, h1, h2, h3, h4⟩ := tZero_rel (F := F) (ι := ι) (w0 := w0) hz
 obtain ⟨hm, hrel⟩ := zip_rel (ps := ps) hρ
 obtain ⟨g1, g2, g3, g4⟩ := row_sound _ (ps.map fun p => (p.1, a.eval p.2)) 0 cs hm hrel hf
 obtain ⟨i2, hi2, hsz⟩ := tSize_info hs
 rw [h1] at hi2
 obtain rfl := Option.some.inj hi2
 subst hsz
 have ht := tElem_eq he
 have hfw := Great.fill_whole h0 ((ps.map fun p => (p.1, a.eval p.2)).map (·.2)) ((Array.range (n * i.size)).map (v.cells[· % v.cells.size]!)) (by
  intro u hu
  obtain ⟨q, hq, rfl⟩ := List.mem_map.1 hu
  exact g3 q hq) (by simp [hn])
 rw [← g4] at hfw
 have hpos : ¬ (n * i.size = 0) := by
  intro h
  rcases Nat.mul_eq_zero.1 h with h | h <;> omega
 have hsm' : ¬ (n * i.size > 16777216) := by omega
 have hcs : (List.flatMap (fun v => v.cells.toList) ((ps.map fun p => (p.1, a.eval p.2)).map (·.2))) = (ps.map fun p => (p.1, a.eval p.2)).flatMap fun q => q.2.cells.toList := by
  simp [List.flatMap_map]
 rw [hcs] at hfw
 have hlen : ((ps.map fun p => (p.1, a.eval p.2)).flatMap fun q => q.2.cells.toList).length = n * i.size := by
  have : ∀ (l : List (Nat × Value)), (∀ q ∈ l, q.2.cells.size = i.size) → (l.flatMap fun q => q.2.cells.toList).length = l.length * i.size := by
   intro l
   induction l with
   | nil => simp
   | cons q l ih =>
    intro h
    simp only [List.flatMap_cons, List.length_append, List.length_cons, ih (fun q hq => h q (by simp [hq])), Array.length_toList, h q (by simp)]
    rw [Nat.add_mul]
    omega
  rw [this _ g3]
  simp [hn]
 refine ⟨.slice (some ⟨w.heap.size, 0, none⟩) n n, w.alloc (.cells ((ps.map fun p => (p.1, a.eval p.2)).flatMap fun q => q.2.cells.toList).toArray e), _, ?_, ?_,
  Eff.alloc (b := ⟨i.size, cs, true, false⟩) (room := n) (vs := (ps.map fun p => (p.1, a.eval p.2)).flatMap fun q => q.2.cells.toList) (rest := []) hnew (by simpa using hlen) rfl (fun _ => rfl) g1 g2 (by simp) rfl rfl rfl⟩
 ·simp [Instr.buildSlice, run_underlying ht, sizeOf, typeInfo, zeroValue, h1, h2, hsm', hpos, hfw, newRow]
 ·simp only [VR]
  exact Or.inl ⟨⟨w.heap.size, n⟩, n, 0, by simp [Inj.set], rfl, Nat.le_refl _, Nat.le_refl _, Or.inr rfl, fun _ => Nat.le_refl _⟩
theorem newVar_sound {t : TypeId} {cs : List AV} {v : Value} (hr : VRL F ι w0 cs v.cells.toList) (h1 : ∀ u ∈ v.cells.toList, u.oneCell' = true) (hnew : ι H.length = none) :
 Done P F w0 w ι H (fun w v' w' => (do pure (.pointer (some (← newVar t v))) : Sem Value).run P w = .ok v' w') (.ptr H.length 0) (.new ⟨cs.length, cs, true, false⟩) := by
 refine ⟨.pointer (some ⟨w.heap.size, 0, none⟩), w.alloc (.cells v.cells t), _, ?_, ?_,
  Eff.alloc (b := ⟨cs.length, cs, true, false⟩) (room := 1) (vs := v.cells.toList) (rest := []) hnew (by simp only [Nat.one_mul]; rw [hr.length]; simp) rfl (fun _ => rfl) hr h1 (by simp) rfl rfl rfl⟩
 ·simp [newVar, newRow]
 ·simp only [VR]
  exact ⟨⟨w.heap.size, 1⟩, by simp [Inj.set], rfl⟩
theorem madeCells_list (vs : Array Value) (n : Nat) : (madeCells vs (n * vs.size)).toList = (List.replicate n vs.toList).flatten := by
 unfold madeCells
 simp only [Array.toList_map, Array.toList_range]
 induction n with
 | zero => simp
 | succ n ih =>
  rw [Nat.succ_mul, List.range_add, List.map_append, ih, List.replicate_succ', List.flatten_append]
  congr 1
  simp only [List.map_map, List.flatten_cons, List.flatten_nil, List.append_nil]
  apply List.ext_getElem?
  intro k
  by_cases hk : k < vs.size
  ·have h1 : (n * vs.size + k) % vs.size = k := by rw [Nat.mul_add_mod_self_right, Nat.mod_eq_of_lt hk]
   simp [hk, h1]
  ·simp [List.getElem?_eq_none, hk, Nat.le_of_not_lt hk]
theorem zeroCells_rel {z : List AV} {vs : Array Value} (hz : VRL F ι w0 z vs.toList) (h1 : ∀ u ∈ vs.toList, u.oneCell' = true) (n : Nat) :
 VRL F ι w0 (List.replicate n z).flatten (madeCells vs (n * vs.size)).toList ∧ ∀ u ∈ (madeCells vs (n * vs.size)).toList, u.oneCell' = true := by
 rw [madeCells_list]
 constructor
 ·induction n with
  | zero => simp [VRL_nil]
  | succ n ih => simp only [List.replicate_succ, List.flatten_cons]; exact hz.append ih
 ·intro u hu
  obtain ⟨l, hl, hu⟩ := List.mem_flatten.1 hu
  rw [List.mem_replicate] at hl
  rw [hl.2] at hu
  exact h1 u hu
theorem make_sound {t : TypeId} {l c x : AV} {e : AEff} {v u : Value} (h : aMake P H t l c = some (x, e)) (hl : VR F ι w0 l v) (hc : VR F ι w0 c u) (hnew : (e.app H).length ≠ H.length → ι H.length = none) :
 Done P F w0 w ι H (fun w v' w' => (Instr.makeSlice t v u).run P w = .ok v' w') x e := by
 unfold aMake at h
 split at h
 ·cases h
 rename_i el hel
 split at h
 case h_2 => cases h
 rename_i sz by_ z hsz hby hz
 split at h
 case h_2 => cases h
 rename_i k l k' c
 obtain rfl := VR_int hl
 obtain rfl := VR_int hc
 split at h
 case isFalse => cases h
 rename_i hcd
 obtain ⟨rfl, rfl⟩ := Prod.mk.inj (Option.some.inj h)
 obtain ⟨i, zv, h1, h2, h3, h4⟩ := tZero_rel (F := F) (ι := ι) (w0 := w0) hz
 obtain ⟨i2, hi2, hs2⟩ := tSize_info hsz
 obtain ⟨i3, hi3, hb3⟩ := tBytes_info hby
 rw [h1] at hi2 hi3
 obtain rfl := Option.some.inj hi2
 obtain rfl := Option.some.inj hi3
 subst hs2 hb3
 obtain ⟨q1, q2, q3, q4, q5, q6⟩ := hcd
 have hr := run_make (P := P) w t el i zv (tElem_eq hel) h1 h2 k k' l c q3 q4 q6 q5
 have hzs : zv.cells.size = i.size := by rw [← q1, h3.length]; simp
 obtain ⟨g1, g2⟩ := zeroCells_rel h3 h4 c.toNat
 rw [hzs] at g1 g2
 refine ⟨_, _, _, hr, ?_, Eff.alloc (b := ⟨i.size, (List.replicate c.toNat z).flatten, true, false⟩) (room := c.toNat) (rest := []) (hnew (by simp [AEff.app])) (by simp [madeCells]) rfl (fun _ => rfl) g1 g2 (by simp) rfl rfl rfl⟩
 simp only [VR]
 exact Or.inl ⟨⟨w.heap.size, c.toNat⟩, c.toNat, 0, by simp [Inj.set], rfl, Nat.le_refl _, by omega, Or.inr rfl, fun _ => Nat.le_refl _⟩
theorem alloc_sound {t : TypeId} {z : List AV} {n : Nat} (hz : tZero P t = some z) (hn : z.length = n) (hnew : ι H.length = none) :
 Done P F w0 w ι H (fun w v' w' => (Instr.alloc t true (.tuple #[])).run P w = .ok v' w') (.ptr H.length 0) (.new ⟨n, z, true, false⟩) := by
 obtain ⟨i, zv, h1, h2, h3, h4⟩ := tZero_rel (F := F) (ι := ι) (w0 := w0) hz
 subst hn
 obtain ⟨v', w', ι', g1, g2, g3⟩ := newVar_sound (P := P) (w := w) (t := t) h3 h4 hnew
 refine ⟨v', w', ι', ?_, g2, g3⟩
 unfold Instr.alloc
 simp only [Sem.run_bind, zeroValue_run h1 h2, Result.andThen_ok]
 simpa using g1
theorem set_same {id : Nat} {b : Blk} (h : H[id]? = some b) : H.set id b = H := by
 apply List.ext_getElem?
 intro k
 rw [List.getElem?_set]
 split
 ·subst_vars
  split
  ·exact h.symm
  ·rename_i hlt
   rw [List.getElem?_eq_none (by omega)] at h
   cases h
 ·rfl
theorem Eff.idle {b : Blk} {id : Nat} {e : Option Emb} (hid : H[id]? = some b) (he : ι id = some e) (hb : b.live = true → BRo F ι w0 b e w) : Eff F w0 ι ι H H [id] w w := by
 have h := Eff.refl F w0 ι H w
 refine ⟨h.len, h.le, h.old, h.new, ?_, h.newInj, ?_, fun _ _ _ => rfl, fun _ _ _ => rfl, rfl, rfl, rfl, Nat.le_refl _⟩
 ·intro k c h1 h2
  omega
 ·intro k b' e' hk h1 h2 h3
  simp at hk
  subst hk
  rw [hid] at h1
  obtain rfl := Option.some.inj h1
  rw [he] at h3
  obtain rfl := Option.some.inj h3
  exact hb h2
theorem copy_sound {t t' ty : TypeId} {s x y : AV} {e : AEff} {v u : Value} (h : aCopy P H t t' s x = some (y, e)) (hs : VR F ι w0 s v) (hx : VR F ι w0 x u) (hF : ∀ c, F c → w.heap[c]? = w0.heap[c]?)
 (hbr : ∀ id b e, id ∈ x.ids ∨ id ∈ s.ids → H[id]? = some b → b.live = true → ι id = some e → BRo F ι w0 b e w) :
 Done P F w0 w ι H (fun w v' w' => (Builtin.copy_ #[t, t'] ty #[v, u]).run P w = .ok v' w') y e := by
 unfold aCopy at h
 split at h
 ·cases h
 rename_i el hel
 have ht := tElem_eq hel
 split at h
 case h_2 => cases h
 rename_i sz hsz
 split at h
 ·cases h
 rename_i htt
 simp only [ne_eq, Decidable.not_not] at htt
 subst htt
 split at h
 ·cases h
 rename_i n cs hcs
 obtain ⟨us, hu⟩ := cells_sound hcs hx hF (fun id b e hid => hbr id b e (Or.inl hid))
 split at h
 case h_2 => cases h
 rename_i id off len cap
 try simp only at h
 split at h
 ·cases h
 rename_i b hb
 split at h
 case isFalse => cases h
 rename_i hcd
 obtain ⟨hlive, hro, hfit⟩ := hcd
 obtain ⟨rfl, rfl⟩ := Prod.mk.inj (Option.some.inj h)
 have hid : id < H.length := (List.getElem?_eq_some_iff.1 hb).1
 have hmin : Nat.min n len ≤ n := Nat.min_le_left _ _
 have hmin2 : Nat.min n len ≤ len := Nat.min_le_right _ _
 have hread : (Builtin.firstCells sz (Nat.min n len) u).run P w = .ok (us.take (Nat.min n len * sz)).toArray w := hu.read _ w hmin rfl
 have hcl : (cs.take (Nat.min n len * sz)).length ≤ len * sz := by
  rw [List.length_take]
  have := Nat.mul_le_mul_right sz hmin2
  omega
 simp only [VR] at hs
 rcases hs with ⟨c, ccap, off', h1, rfl, h2, h3, h4, h5⟩ | ⟨h1, rfl, rfl, ad, rfl⟩
 ·have hBR : BR F ι w0 b c w := hbr id b (some c) (Or.inr (by simp [AV.ids])) hb hlive h1
  have hone : ∀ z ∈ us.take (Nat.min n len * sz), z.oneCell' = true := fun z hz => hu.one z (List.mem_of_mem_take hz)
  by_cases hm0 : Nat.min n len = 0
  ·simp only [hm0, Nat.zero_mul, List.take_zero] at hread ⊢
   have hput : putAt b.cells off [] = b.cells := by simp [putAt]
   refine ⟨.int .i64 (0 : Nat), w, ι, ?_, by simp [VR], ?_⟩
   ·simp [Builtin.copy_, run_underlying ht, hu.lenOf, tSize_run hsz, hread, hm0, storeCells, goInt]
   ·show Eff F w0 ι ι H (H.set id { b with cells := putAt b.cells off [] }) [id] w w
    rw [hput, show H.set id { b with cells := b.cells } = H from set_same hb]
    exact Eff.idle hb h1 fun _ => hBR
  ·obtain rfl : off' = off := by omega
   obtain ⟨w', g1, g2, g3, g4, g5, g6, g7⟩ := write_row (P := P) (off := off') hBR hro (hu.rel.take (Nat.min n len * sz)) hone (by omega)
   refine ⟨.int .i64 (Nat.min n len : Nat), w', ι, ?_, by simp [VR], Eff.write hid h1 g2 g3 g4 g5 g6 g7⟩
   simp [Builtin.copy_, run_underlying ht, hu.lenOf, tSize_run hsz, hread, g1, goInt]
 ·have hnone : b.cells = [] := hbr id b none (Or.inr (by simp [AV.ids])) hb hlive h1
  have hz : Nat.min n 0 = 0 := Nat.min_zero n
  simp only [hz, Nat.zero_mul, List.take_zero] at hread ⊢
  have hput : putAt b.cells off [] = b.cells := by simp [putAt]
  refine ⟨.int .i64 (0 : Nat), w, ι, ?_, by simp [VR], ?_⟩
  ·cases ad <;> simp [Builtin.copy_, run_underlying ht, hu.lenOf, tSize_run hsz, hread, hz, storeCells, goInt]
  ·show Eff F w0 ι ι H (H.set id { b with cells := putAt b.cells off [] }) [id] w w
   rw [hput, show H.set id { b with cells := b.cells } = H from set_same hb]
   exact Eff.idle hb h1 fun _ => hnone
theorem clear_sound {t ty : TypeId} {s : AV} {e : AEff} {v : Value} (h : aClear P H t s = some e) (hs : VR F ι w0 s v)
 (hbr : ∀ id b e, id ∈ s.ids → H[id]? = some b → b.live = true → ι id = some e → BRo F ι w0 b e w) :
 Done P F w0 w ι H (fun w v' w' => (Builtin.clear_ #[t] ty #[v]).run P w = .ok v' w') .any e := by
 unfold aClear at h
 split at h
 ·cases h
 rename_i el hel
 have ht := tElem_eq hel
 split at h
 case h_2 => cases h
 rename_i sz z hsz hz
 split at h
 ·cases h
 rename_i hzl
 simp only [ne_eq, Decidable.not_not] at hzl
 split at h
 case h_2 => cases h
 rename_i id off len cap
 try simp only at h
 split at h
 ·cases h
 rename_i b hb
 split at h
 case isFalse => cases h
 rename_i hcd
 obtain ⟨hlive, hro, hfit⟩ := hcd
 obtain rfl := Option.some.inj h
 have hid : id < H.length := (List.getElem?_eq_some_iff.1 hb).1
 obtain ⟨i, zv, g1, g2, g3, g4⟩ := tZero_rel (F := F) (ι := ι) (w0 := w0) hz
 have hzs : zv.cells.size = sz := by rw [← hzl, g3.length]; simp
 obtain ⟨r1, r2⟩ := zeroCells_rel g3 g4 len
 have hzc : (Builtin.zeroCells zv.cells len).toList = (madeCells zv.cells (len * zv.cells.size)).toList := rfl
 have hrl : (List.replicate len z).flatten.length = len * sz := by rw [r1.length, ← hzs]; simp [madeCells]
 simp only [VR] at hs
 rcases hs with ⟨c, ccap, off', h1, rfl, h2, h3, h4, h5⟩ | ⟨h1, rfl, rfl, ad, rfl⟩
 ·have hBR : BR F ι w0 b c w := hbr id b (some c) (by simp [AV.ids]) hb hlive h1
  by_cases hl0 : len = 0
  ·subst hl0
   have hput : putAt b.cells off ((List.replicate 0 z).flatten) = b.cells := by simp [putAt]
   refine ⟨.tuple #[], w, ι, ?_, by simp [VR], ?_⟩
   ·simp [Builtin.clear_, run_underlying ht]
   ·show Eff F w0 ι ι H (H.set id { b with cells := putAt b.cells off (List.replicate 0 z).flatten }) [id] w w
    rw [hput, show H.set id { b with cells := b.cells } = H from set_same hb]
    exact Eff.idle hb h1 fun _ => hBR
  ·obtain rfl : off' = off := by omega
   obtain ⟨w', q1, q2, q3, q4, q5, q6, q7⟩ := write_row (P := P) (off := off') hBR hro r1 r2 (by omega)
   refine ⟨.tuple #[], w', ι, ?_, by simp [VR], Eff.write hid h1 q2 q3 q4 q5 q6 q7⟩
   cases len with
   | zero => exact absurd rfl hl0
   | succ len => simp [Builtin.clear_, run_underlying ht, zeroValue_run g1 g2, hzc, q1]
 ·have hnone : b.cells = [] := hbr id b none (by simp [AV.ids]) hb hlive h1
  have hput : putAt b.cells off ((List.replicate 0 z).flatten) = b.cells := by simp [putAt]
  refine ⟨.tuple #[], w, ι, ?_, by simp [VR], ?_⟩
  ·cases ad <;> simp [Builtin.clear_, run_underlying ht]
  ·show Eff F w0 ι ι H (H.set id { b with cells := putAt b.cells off (List.replicate 0 z).flatten }) [id] w w
   rw [hput, show H.set id { b with cells := b.cells } = H from set_same hb]
   exact Eff.idle hb h1 fun _ => hnone
theorem len_sound {t ty : TypeId} {x y : AV} {v : Value} (h : aLen P t x = some y) (hx : VR F ι w0 x v) : ∃ u, (Builtin.len_ #[t] ty #[v]).run P w = .ok u w ∧ VR F ι w0 y u := by
 unfold aLen at h
 have sl : ∀ n b c, v = .slice b n c → tSli P t = true → ∃ u, (Builtin.len_ #[t] ty #[v]).run P w = .ok u w ∧ VR F ι w0 (.int .i64 n) u := by
  intro n b c hv hc
  obtain ⟨e, he⟩ := tSli_eq hc
  subst hv
  exact ⟨.int .i64 n, by simp [Builtin.len_, run_underlying he, goInt], by simp [VR]⟩
 split at h
 ·obtain rfl := VR_str hx
  split at h
  ·rename_i hc
   obtain rfl := Option.some.inj h
   exact ⟨_, by simp [Builtin.len_, run_underlying (tStr_eq hc), goInt]; rfl, by simp [VR]⟩
  ·cases h
 ·split at h
  ·rename_i hc
   obtain rfl := Option.some.inj h
   simp only [VR] at hx
   obtain ⟨b, hv⟩ := hx
   exact sl 0 b 0 hv hc
  ·cases h
 ·split at h
  ·rename_i hc
   obtain rfl := Option.some.inj h
   simp only [VR] at hx
   exact sl 0 none 0 hx hc
  ·cases h
 ·split at h
  ·rename_i hc
   obtain rfl := Option.some.inj h
   simp only [VR] at hx
   rcases hx with ⟨c, ccap, off', h1, hv, _⟩ | ⟨h1, rfl, _, ad, hv⟩
   ·exact sl _ _ _ hv hc
   ·exact sl 0 _ _ hv hc
  ·cases h
 ·split at h
  ·rename_i hc
   obtain rfl := Option.some.inj h
   simp only [VR] at hx
   obtain ⟨b, ccap, hv, _⟩ := hx
   exact sl _ _ _ hv hc
  ·cases h
 ·split at h
  ·rename_i hc
   obtain rfl := Option.some.inj h
   simp only [VR] at hx
   obtain ⟨b, ccap, hv, _⟩ := hx
   exact sl _ _ _ hv hc
  ·cases h
 ·cases h
theorem cap_sound {t ty : TypeId} {x y : AV} {v : Value} (h : aCap P t x = some y) (hx : VR F ι w0 x v) : ∃ u, (Builtin.cap_ #[t] ty #[v]).run P w = .ok u w ∧ VR F ι w0 y u := by
 unfold aCap at h
 split at h
 ·split at h
  ·rename_i hc
   obtain rfl := Option.some.inj h
   simp only [VR] at hx
   obtain ⟨b, rfl⟩ := hx
   obtain ⟨e, he⟩ := tSli_eq hc
   exact ⟨.int .i64 0, by simp [Builtin.cap_, run_underlying he, goInt], by simp [VR]⟩
  ·cases h
 ·split at h
  ·rename_i hc
   obtain rfl := Option.some.inj h
   simp only [VR] at hx
   subst hx
   obtain ⟨e, he⟩ := tSli_eq hc
   exact ⟨.int .i64 0, by simp [Builtin.cap_, run_underlying he, goInt], by simp [VR]⟩
  ·cases h
 ·cases h
end
section
variable {P : Program} {F : Nat → Prop} {ι ι' : Inj} {w0 w : World} {a : Act} {ρ : Operand → AV} {H : Heap}
theorem bytes_rel : ∀ {cs : List AV} {us : List Value} {bs : List UInt8}, bytesOf? cs = some bs → VRL F ι w0 cs us → ∃ ns : List Int, us = ns.map (fun n => Value.int .u8 n) ∧ bs = ns.map (fun n => UInt8.ofNat n.toNat)
 | [], us, bs, h, hr => by
  rw [VRL_nil] at hr
  subst hr
  simp [bytesOf?] at h
  exact ⟨[], rfl, by simp [h]⟩
 | x :: xs, us, bs, h, hr => by
  obtain ⟨v, rest, rfl, h1, h2⟩ := VRL_cons.1 hr
  simp only [bytesOf?, List.mapM_cons, Option.pure_def, Option.bind_eq_bind, Option.bind_eq_some_iff] at h
  obtain ⟨b, hb, bs', hbs, h⟩ := h
  obtain ⟨ns, g1, g2⟩ := bytes_rel (bs := bs') hbs h2
  unfold cellByte? at hb
  split at hb
  ·rename_i n
   obtain rfl := VR_int h1
   obtain rfl := Option.some.inj hb
   obtain rfl := Option.some.inj h
   exact ⟨n :: ns, by simp [g1], by simp [g2]⟩
  ·cases hb
theorem bytes_loop (f : Value → ByteArray → Sem (ForInStep ByteArray)) (hf : ∀ n r, f (.int .u8 n) r = pure (ForInStep.yield (r.push (UInt8.ofNat n.toNat)))) (ns : List Int) (acc : ByteArray) (w : World) :
 (forIn (ns.map fun n => Value.int .u8 n) acc f : Sem ByteArray).run P w = .ok ⟨acc.data ++ (ns.map fun n => UInt8.ofNat n.toNat).toArray⟩ w := by
 induction ns generalizing acc with
 | nil => simp
 | cons n ns ih =>
  simp only [List.map_cons, List.forIn_cons, hf, Sem.run_bind, Sem.run_pure, Result.andThen_ok]
  rw [ih]
  congr 2
  apply Array.ext'
  simp [ByteArray.push]
theorem push_modify {α : Type} (xs : Array α) (o : α) (f : α → α) : (xs.push o).modify xs.size f = xs.push (f o) := by
 apply Array.ext_getElem?
 intro k
 rw [Array.getElem?_modify, Array.getElem?_push, Array.getElem?_push]
 by_cases hk : k = xs.size
 ·subst hk
  simp
 ·simp [hk, Ne.symm hk]
theorem stringToBytes_run (el : TypeId) (s : ByteArray) (w : World) : (Conv.stringToBytes el s).run P w = .ok (.slice (some ⟨w.heap.size, 0, none⟩) s.size (grownCap w s.size 0 el))
 { w with drawn := w.drawn + 1, heap := w.heap.push (.cells (s.data.map (fun b : UInt8 => Value.int .u8 b.toNat) ++ Array.replicate (grownCap w s.size 0 el - s.size) (Value.int .u8 0)) el (grownCap w s.size 0 el, grownCap w s.size 0 el + 1)) } := by
 have hge : s.size ≤ grownCap w s.size 0 el := grownCap_ge w s.size 0 el
 have hd : s.data.size = s.size := rfl
 have hsz : (s.data.map (fun b : UInt8 => Value.int .u8 b.toNat) ++ Array.replicate (grownCap w s.size 0 el - s.size) (Value.int .u8 0)).size = grownCap w s.size 0 el := by
  simp only [Array.size_append, Array.size_map, Array.size_replicate]
  omega
 have hc : (choose (.appendCap s.size 0 el)).run P w = .ok (grownCap w s.size 0 el) w.drew := by
  simp [run_choose, Question.forced, grownCap]
 generalize hg : grownCap w s.size 0 el = g at *
 unfold Conv.stringToBytes
 simp only [Sem.run_bind, hc, Result.andThen_ok, newRow, run_newObj, Sem.run_pure, markStringish, run_shape]
 generalize hA : (s.data.map (fun b : UInt8 => Value.int .u8 b.toNat) ++ Array.replicate (g - s.size) (Value.int .u8 0)) = A at *
 have h1 : ({ w.drew with heap := w.drew.heap.push (.cells A el) } : World).shape? w.drew.heap.size = some (el, g) := by
  have : (w.drew.heap.push (.cells A el))[w.drew.heap.size]? = some (.cells A el) := by rw [Array.getElem?_push, if_pos rfl]
  simp only [World.shape?, this, hsz]
 simp only [h1, run_freeze, World.freeze, Result.andThen_ok]
 simp only [Nat.add_eq_zero_iff, Nat.one_ne_zero, if_false]
 congr 1
 rw [push_modify]
 rfl
theorem lt_of_some {w : World} {c : Nat} {o : Obj} (h : w.heap[c]? = some o) : c < w.heap.size := (Array.getElem?_eq_some_iff.1 h).1
theorem convert_sound {src dst : TypeId} {x : AV} {v : Value} {y : AV} {e : AEff} {o : Operand} (hop : aop P ρ H (.convert src dst o) = some (y, e)) (hx : VR F ι w0 (ρ o) v) (hF : ∀ c, F c → w.heap[c]? = w0.heap[c]?)
 (hbr : ∀ id b e, id ∈ (ρ o).ids → H[id]? = some b → b.live = true → ι id = some e → BRo F ι w0 b e w) (hnew : (e.app H).length ≠ H.length → ι H.length = none) :
 Done P F w0 w ι H (fun w v' w' => (convert src dst v).run P w = .ok v' w') y e := by
 simp only [aop] at hop
 split at hop
 ·rename_i hsd
  obtain ⟨rfl, hsl⟩ := hsd
  unfold aSelf at hop
  split at hop
  case h_2 => cases hop
  rename_i id off len cap hn
  split at hop
  case h_2 => cases hop
  rename_i b h1 h2
  split at hop
  case isFalse => cases hop
  rename_i hc
  obtain ⟨rfl, rfl⟩ := Prod.mk.inj (Option.some.inj hop)
  have hlt := (List.getElem?_eq_some_iff.1 h2).1
  obtain ⟨el, he, hi⟩ := Option.bind_eq_some_iff.1 h1
  have ht := tElem_eq he
  have hu8 := tInt_eq hi
  have hx' := hx
  rw [hn] at hx'
  simp only [VR] at hx'
  rcases hx' with ⟨c, ccap, off', g1, rfl, _⟩ | ⟨_, h0, _⟩
  case inr => omega
  have hids : id ∈ (ρ o).ids := by rw [hn]; simp [AV.ids]
  obtain ⟨arr, t, fz, k1, k2, k3, vs, rest, k4, k5, k6⟩ := hbr id b (some c) hids h2 hc.1 g1
  have hfr : ∃ fz', (w.freeze ⟨c.blk, arr.size, none⟩ 1).heap = w.heap.setIfInBounds c.blk (.cells arr t fz') := by
   obtain ⟨lo, hi⟩ := fz
   refine ⟨if lo == hi then (arr.size, arr.size + 1) else (min lo arr.size, max hi (arr.size + 1)), ?_⟩
   simp only [World.freeze, Nat.one_ne_zero, if_false]
   apply Array.ext_getElem?
   intro k
   rw [Array.getElem?_modify, Array.getElem?_setIfInBounds]
   by_cases hk : c.blk = k
   ·subst hk
    rw [if_pos rfl, if_pos rfl, k1, if_pos (lt_of_some k1)]
    rfl
   ·rw [if_neg hk, if_neg hk]
  obtain ⟨fz', hfr⟩ := hfr
  have hblk : c.blk < w.heap.size := lt_of_some k1
  refine ⟨.slice (some ⟨c.blk, off', none⟩) len ccap, w.freeze ⟨c.blk, arr.size, none⟩ 1, ι, ?_, hn ▸ hx, Eff.write (c := c) hlt g1 ?_ ?_ ?_ rfl rfl rfl⟩
  ·simp only [convert, Sem.run_bind, run_underlying ht, Result.andThen_ok, run_underlying hu8, beq_self_eq_true, markStringish, run_shape]
   have hsh : w.shape? c.blk = some (t, arr.size) := by simp only [World.shape?, k1]
   simp only [hsh, run_freeze, Result.andThen_ok, Sem.run_pure]
  ·refine ⟨arr, t, fz', ?_, k2, fun h => by simp at h, vs, rest, k4, k5, k6⟩
   rw [hfr, Array.getElem?_setIfInBounds_self_of_lt hblk]
  ·intro k hk
   rw [hfr, Array.getElem?_setIfInBounds_ne (fun e => hk e.symm)]
  ·rw [hfr]; simp
 split at hop
 ·rename_i k n hn
  rw [hn] at hx
  obtain rfl := VR_int hx
  split at hop
  ·rename_i k' hk hs
   obtain ⟨rfl, rfl⟩ := Prod.mk.inj (Option.some.inj hop)
   obtain ⟨d, hd⟩ := tIs_eq hs
   refine Done.pure (v := .int k' (k'.wrap n)) ?_ (by simp [VR])
   simp [convert, run_underlying hd, run_underlying (tInt_eq hk), Conv.intToInt]
  ·cases hop
 ·rename_i s hn
  rw [hn] at hx
  obtain rfl := VR_str hx
  split at hop
  ·rename_i h1 h2 h3
   split at hop
   ·rename_i hsz
    obtain ⟨rfl, rfl⟩ := Prod.mk.inj (Option.some.inj hop)
    obtain ⟨el, he, hi⟩ := Option.bind_eq_some_iff.1 h2
    have hs1 := tStr_eq h1
    have ht := tElem_eq he
    have hu8 := tInt_eq hi
    have hge : s.size ≤ grownCap w s.size 0 el := grownCap_ge w s.size 0 el
    have hrel : VRL F ι w0 (byteCells s) (s.data.toList.map fun b => Value.int .u8 b.toNat) := by
     unfold byteCells
     generalize s.data.toList = l
     induction l with
     | nil => simp [VRL_nil]
     | cons b l ih => exact VRL_cons.2 ⟨_, _, rfl, by simp [VR], ih⟩
    refine ⟨.slice (some ⟨w.heap.size, 0, none⟩) s.size (grownCap w s.size 0 el),
     { w with drawn := w.drawn + 1, heap := w.heap.push (.cells (s.data.map (fun b : UInt8 => Value.int .u8 b.toNat) ++ Array.replicate (grownCap w s.size 0 el - s.size) (Value.int .u8 0)) el (grownCap w s.size 0 el, grownCap w s.size 0 el + 1)) }, _, ?_, ?_,
     Eff.alloc (b := ⟨1, byteCells s, true, true⟩) (room := grownCap w s.size 0 el) (vs := s.data.toList.map fun b => Value.int .u8 b.toNat) (rest := List.replicate (grownCap w s.size 0 el - s.size) (Value.int .u8 0)) (hnew (by simp [AEff.app])) ?_ rfl (fun h => by cases h) hrel ?_ ?_ rfl rfl rfl⟩
    ·simp only [convert, Sem.run_bind, run_underlying hs1, run_underlying ht, Result.andThen_ok, run_underlying hu8]
     exact stringToBytes_run el s w
    ·simp only [VR]
     exact Or.inl ⟨⟨w.heap.size, grownCap w s.size 0 el⟩, grownCap w s.size 0 el, 0, by unfold Inj.set; rw [if_pos rfl], rfl, by omega, hge, Or.inr rfl, fun _ => Nat.le_refl _⟩
    ·simp only [Array.size_append, Array.size_map, Array.size_replicate, Nat.mul_one]
     have : s.data.size = s.size := rfl
     omega
    ·intro u hu
     obtain ⟨b, _, rfl⟩ := List.mem_map.1 hu
     rfl
    ·simp
   ·cases hop
  ·cases hop
 ·split at hop
  ·rename_i n0 cs0 h1 h2 h3
   split at hop
   ·rename_i bs hbs
    obtain ⟨rfl, rfl⟩ := Prod.mk.inj (Option.some.inj hop)
    obtain ⟨el, he, hi⟩ := Option.bind_eq_some_iff.1 h2
    have hs1 := tStr_eq h1
    have ht := tElem_eq he
    have hu8 := tInt_eq hi
    obtain ⟨us, hu⟩ := cells_sound h3 hx hF hbr
    obtain ⟨ns, g1, g2⟩ := bytes_rel hbs hu.rel
    subst g1 g2
    have hlen := hu.len
    have hread := hu.read _ w (Nat.le_refl _) rfl
    rw [Nat.mul_one, List.take_of_length_le (by omega)] at hread
    refine Done.pure (v := .string ⟨(ns.map fun n => UInt8.ofNat n.toNat).toArray⟩) ?_ (by simp [VR])
    obtain ⟨b, c, rfl⟩ := hu.isS
    simp only [convert, Sem.run_bind, run_underlying hs1, run_underlying ht, Result.andThen_ok, run_underlying hu8, Conv.bytesToString]
    cases b with
    | none =>
     simp only [Builtin.firstCells, Sem.run_pure] at hread
     injection hread with h5
     have : ns = [] := by
      have := congrArg Array.size h5
      simp at this
      exact List.eq_nil_of_length_eq_zero this.symm
     subst this
     rfl
    | some ad =>
     have hr : (loadCells ad n0).run P w = .ok (ns.map fun n => Value.int .u8 n).toArray w := by simpa [Builtin.firstCells] using hread
     simp only [Sem.run_bind, hr, Result.andThen_ok]
     rw [← Array.forIn_toList]
     rw [bytes_loop (P := P) _ (fun n r => rfl) ns ByteArray.empty w]
     simp
   ·cases hop
  ·cases hop
theorem runv {s : Sem Value} {v : Value} {w w' : World} (h : s.run P w = .ok v w') : (do pure (.value (← s)) : Sem Next).run P w = .ok (.value v) w' := by
 simp [h]
theorem map_one {ys : List Operand} {x : AV} (h : ys.map ρ = [x]) : ∃ y, ys = [y] ∧ x = ρ y := by
 cases ys with
 | nil => simp at h
 | cons y ys =>
  cases ys with
  | nil => simp at h; exact ⟨y, rfl, h.symm⟩
  | cons _ _ => simp at h
theorem map_two {ys : List Operand} {x x' : AV} (h : ys.map ρ = [x, x']) : ∃ y y', ys = [y, y'] ∧ x = ρ y ∧ x' = ρ y' := by
 cases ys with
 | nil => simp at h
 | cons y ys =>
  cases ys with
  | nil => simp at h
  | cons y' ys =>
   cases ys with
   | nil => simp at h; exact ⟨y, y', rfl, h.1.symm, h.2.symm⟩
   | cons _ _ => simp at h
theorem aop_sound {o : Oper} {x : AV} {e : AEff} (hop : aop P ρ H o.op = some (x, e)) (hρ : ∀ y, VR F ι w0 (ρ y) (a.eval y)) (hF : ∀ c, F c → w.heap[c]? = w0.heap[c]?)
 (hbr : ∀ id b e, id ∈ afoot ρ o.op → H[id]? = some b → b.live = true → ι id = some e → BRo F ι w0 b e w) (hnew : (e.app H).length ≠ H.length → ι H.length = none) :
 Done P F w0 w ι H (OpRun P a o) x e := by
 obtain ⟨dst, op, type, pos, after, guard⟩ := o
 simp only at hop hbr
 have lift : ∀ {s : Sem Value} {x : AV} {e : AEff}, Done P F w0 w ι H (fun w v w' => s.run P w = .ok v w') x e → execOp a.eval ⟨dst, op, type, pos, after, guard⟩ = (do pure (.value (← s)) : Sem Next) → Done P F w0 w ι H (OpRun P a ⟨dst, op, type, pos, after, guard⟩) x e := by
  rintro s x e ⟨v, w', ι', h1, h2, h3⟩ hs
  exact ⟨v, w', ι', Or.inl (by rw [hs]; exact runv h1), h2, h3⟩
 have pur : ∀ {s : Sem Value} {x : AV}, (∃ u, s.run P w = .ok u w ∧ VR F ι w0 x u) → execOp a.eval ⟨dst, op, type, pos, after, guard⟩ = (do pure (.value (← s)) : Sem Next) → Done P F w0 w ι H (OpRun P a ⟨dst, op, type, pos, after, guard⟩) x .nil := by
  rintro s x ⟨u, h1, h2⟩ hs
  exact Done.pure (v := u) (Or.inl (by rw [hs]; exact runv h1)) h2
 cases op with
 | move y =>
  simp only [aop, Option.some.injEq, Prod.mk.injEq] at hop
  obtain ⟨rfl, rfl⟩ := hop
  exact Done.pure (v := a.eval y) (Or.inl rfl) (hρ y)
 | assign y =>
  simp only [aop, Option.some.injEq, Prod.mk.injEq] at hop
  obtain ⟨rfl, rfl⟩ := hop
  exact Done.pure (v := a.eval y) (Or.inl rfl) (hρ y)
 | pick c y z =>
  simp only [aop] at hop
  split at hop
  ·rename_i t ht
   obtain ⟨rfl, rfl⟩ := Prod.mk.inj (Option.some.inj hop)
   have hc := hρ c
   rw [ht] at hc
   refine Done.pure (v := if t = true then a.eval y else a.eval z) (Or.inl ?_) ?_
   ·simp [execOp, VR_bool hc, asBool]
   ·split <;> exact hρ _
  ·cases hop
 | alloc t =>
  simp only [aop] at hop
  split at hop
  ·rename_i z n hz hn
   split at hop
   ·rename_i hl
    obtain ⟨rfl, rfl⟩ := Prod.mk.inj (Option.some.inj hop)
    exact lift (alloc_sound hz hl (hnew (by simp [AEff.app]))) rfl
   ·cases hop
  ·cases hop
 | box t y =>
  simp only [aop] at hop
  split at hop
  ·rename_i cs hcs
   obtain ⟨rfl, rfl⟩ := Prod.mk.inj (Option.some.inj hop)
   obtain ⟨h1, h2⟩ := (hρ y).cells hcs
   exact lift (newVar_sound (t := t) h1 h2 (hnew (by simp [AEff.app]))) rfl
  ·cases hop
 | build t ps =>
  simp only [aop] at hop
  split at hop
  ·rename_i z ht hz
   split at hop
   ·rename_i cs hcs
    obtain ⟨rfl, rfl⟩ := Prod.mk.inj (Option.some.inj hop)
    obtain ⟨v, h1, h2⟩ := build_sound (w := w) ht hz hcs hρ
    refine pur ⟨v, ?_, h2⟩ rfl
    have : (ps.map fun p => (p.1, a.eval p.2)) = (ps.toList.map fun p => (p.1, a.eval p.2)).toArray := by apply Array.ext'; simp
    rw [this]
    exact h1
   ·cases hop
  ·cases hop
 | buildSlice t n ps =>
  simp only [aop] at hop
  split at hop
  ·rename_i sz z hs hz
   obtain ⟨el, he, hs⟩ := Option.bind_eq_some_iff.1 hs
   obtain ⟨el2, he2, hz⟩ := Option.bind_eq_some_iff.1 hz
   rw [he] at he2
   obtain rfl := Option.some.inj he2
   split at hop
   ·rename_i h0
    obtain ⟨rfl, rfl⟩ := h0
    obtain ⟨rfl, rfl⟩ := Prod.mk.inj (Option.some.inj hop)
    refine ⟨.slice (some ⟨w.heap.size, 0, none⟩) 0 0, w.alloc (.cells #[] el), ι, Or.inl ?_, by simp [VR], ?_⟩
    ·simp [execOp, Instr.buildSlice, run_underlying (tElem_eq he), tSize_run hs, Instr.fill, newRow]
     congr 2
     exact Array.eq_empty_of_size_eq_zero (by simp)
    ·have h := Eff.refl F w0 ι H w
     refine ⟨h.len, h.le, h.old, fun id h1 h2 => absurd h2 (by simp [AEff.app]; omega), fun id c h1 h2 => absurd h2 (by simp [AEff.app]; omega), fun id id' c c' h1 h2 => absurd h2 (by simp [AEff.app]; omega), fun id b e hid => by simp [AEff.wr] at hid, fun _ _ _ => rfl, fun c hc _ => ?_, rfl, rfl, rfl, by simp⟩
     exact heap_alloc_old w _ c hc
   ·rename_i hn0
    split at hop
    ·rename_i hcd
     split at hop
     ·rename_i cs hcs
      obtain ⟨rfl, rfl⟩ := Prod.mk.inj (Option.some.inj hop)
      obtain ⟨q1, q2, q3, q4⟩ := hcd
      have hn : ¬ n = 0 := by
       rintro rfl
       exact hn0 ⟨rfl, Array.eq_empty_of_size_eq_zero q1⟩
      obtain ⟨v, w', ι', h1, h2, h3⟩ := buildSlice_sound (w := w) he hs hz (by simpa using q1) q2 q3 q4 hn hcs hρ (hnew (by simp [AEff.app]))
      refine ⟨v, w', ι', Or.inl ?_, h2, h3⟩
      have : (ps.map fun p => (p.1, a.eval p.2)) = (ps.toList.map fun p => (p.1, a.eval p.2)).toArray := by apply Array.ext'; simp
      show ((do pure (.value (← Instr.buildSlice t n (ps.map fun p => (p.1, a.eval p.2)))) : Sem Next)).run P w = _
      rw [this]
      exact runv h1
     ·cases hop
    ·cases hop
  ·cases hop
 | load t y =>
  simp only [aop] at hop
  obtain ⟨x', hx', h⟩ := Option.map_eq_some_iff.1 hop
  obtain ⟨rfl, rfl⟩ := Prod.mk.inj h
  unfold aLoad at hx'
  split at hx'
  ·rename_i id off hy
   split at hx'
   ·rename_i b hb
    split at hx'
    ·rename_i hlive
     have hv := hρ y
     rw [hy] at hv
     simp only [VR] at hv
     obtain ⟨c, h1, h2⟩ := hv
     obtain ⟨vs, h3, h4⟩ := BR.cellsAt (hbr id b (some c) (by simp [afoot, hy, AV.ids]) hb hlive h1)
     obtain ⟨v, h5, h6⟩ := load_sound (P := P) hx' (h3.drop off) (h4.drop off)
     refine pur ⟨v, ?_, h6⟩ rfl
     rw [h2]
     simpa [Instr.loadAt, Instr.sureAddr] using h5
    ·cases hx'
   ·cases hx'
  ·rename_i cs hy
   have hv := hρ y
   rw [hy] at hv
   simp only [VR] at hv
   obtain ⟨c, off, vs, h1, h2, h3, h4⟩ := hv
   obtain ⟨v, h5, h6⟩ := load_sound (P := P) hx' h4 (h3.world (hF c h2))
   refine pur ⟨v, ?_, h6⟩ rfl
   rw [h1]
   simpa [Instr.loadAt, Instr.sureAddr] using h5
  ·cases hx'
 | store t y z =>
  simp only [aop] at hop
  obtain ⟨e', he', h⟩ := Option.map_eq_some_iff.1 hop
  obtain ⟨rfl, rfl⟩ := Prod.mk.inj h
  unfold aStore at he'
  split at he'
  case h_2 => cases he'
  rename_i id off hy
  split at he'
  case h_2 => cases he'
  rename_i b cs n hb hcs hn
  split at he'
  case isFalse => cases he'
  rename_i hcd
  obtain rfl := Option.some.inj he'
  obtain ⟨q1, q2, q3, q4⟩ := hcd
  have hv := hρ y
  rw [hy] at hv
  simp only [VR] at hv
  obtain ⟨c, h1, h2⟩ := hv
  have hBR : BR F ι w0 b c w := hbr id b (some c) (by simp [afoot, hy, AV.ids]) hb q1 h1
  obtain ⟨g1, g2⟩ := (hρ z).cells hcs
  obtain ⟨w', r1, r2, r3, r4, r5, r6, r7⟩ := write_row (P := P) (off := off) hBR q2 g1 g2 (by omega)
  refine ⟨undef, w', ι, Or.inr ⟨?_, rfl⟩, by simp [VR], Eff.write (List.getElem?_eq_some_iff.1 hb).1 h1 r2 r3 r4 r5 r6 r7⟩
  have hl : (a.eval z).cells.size = n := by rw [← q3, g1.length]; simp
  simp [execOp, h2, Instr.storeAt, Instr.sureAddr, storeVar, tSize_run hn, hl, r1]
 | nilCheck y =>
  simp only [aop] at hop
  split at hop
  ·rename_i id off hy
   obtain ⟨rfl, rfl⟩ := Prod.mk.inj (Option.some.inj hop)
   have hv := hρ y
   rw [hy] at hv
   refine Done.pure (v := a.eval y) (Or.inl ?_) hv
   simp only [VR] at hv
   obtain ⟨c, h1, h2⟩ := hv
   simp [execOp, h2]
  ·rename_i cs hy
   obtain ⟨rfl, rfl⟩ := Prod.mk.inj (Option.some.inj hop)
   have hv := hρ y
   rw [hy] at hv
   refine Done.pure (v := a.eval y) (Or.inl ?_) hv
   simp only [VR] at hv
   obtain ⟨c, off, vs, h1, h2⟩ := hv
   simp [execOp, h1]
  ·cases hop
 | binOp op t y z t' =>
  simp only [aop] at hop
  split at hop
  ·rename_i hg
   obtain ⟨x', hx', h⟩ := Option.map_eq_some_iff.1 hop
   obtain ⟨rfl, rfl⟩ := Prod.mk.inj h
   exact pur (bin_sound hx' hg (hρ y) (hρ z)) rfl
  ·cases hop
 | unOp op t y =>
  simp only [aop] at hop
  obtain ⟨x', hx', h⟩ := Option.map_eq_some_iff.1 hop
  obtain ⟨rfl, rfl⟩ := Prod.mk.inj h
  exact pur (un_sound hx' (hρ y)) rfl
 | convert src dst' y => exact lift (convert_sound (x := x) hop (hρ y) hF hbr hnew) rfl
 | makeFunc f first cap =>
  cases f with
  | func f =>
   simp only [aop, Option.some.injEq, Prod.mk.injEq] at hop
   obtain ⟨rfl, rfl⟩ := hop
   refine pur ⟨.func (.func f) (first.map a.eval) (cap.map a.eval), rfl, ?_⟩ rfl
   simp only [VR]
   exact ⟨_, _, rfl, by simpa using VRL_map hρ, by simpa using VRL_map hρ⟩
  | _ => simp [aop] at hop
 | makeSlice t l c => exact lift (make_sound hop (hρ l) (hρ c) hnew) rfl
 | slice t y lo hi mx =>
  simp only [aop] at hop
  obtain ⟨x', hx', h⟩ := Option.map_eq_some_iff.1 hop
  obtain ⟨rfl, rfl⟩ := Prod.mk.inj h
  exact pur (slice_sound hx' (hρ y) (VRO_map hρ) (VRO_map hρ) (VRO_map hρ)) rfl
 | fieldAddr s y f =>
  simp only [aop] at hop
  obtain ⟨x', hx', h⟩ := Option.map_eq_some_iff.1 hop
  obtain ⟨rfl, rfl⟩ := Prod.mk.inj h
  exact pur (fieldAddr_sound hx' (hρ y)) rfl
 | field s y f =>
  simp only [aop] at hop
  obtain ⟨x', hx', h⟩ := Option.map_eq_some_iff.1 hop
  obtain ⟨rfl, rfl⟩ := Prod.mk.inj h
  exact pur (field_sound hx' (hρ y)) rfl
 | indexAddr t y i =>
  simp only [aop] at hop
  obtain ⟨x', hx', h⟩ := Option.map_eq_some_iff.1 hop
  obtain ⟨rfl, rfl⟩ := Prod.mk.inj h
  exact pur (indexAddr_sound hx' (hρ y) (hρ i)) rfl
 | index t y i =>
  simp only [aop] at hop
  obtain ⟨x', hx', h⟩ := Option.map_eq_some_iff.1 hop
  obtain ⟨rfl, rfl⟩ := Prod.mk.inj h
  exact pur (index_sound hx' (hρ y) (hρ i)) rfl
 | extract y i =>
  simp only [aop] at hop
  split at hop
  ·rename_i vs hy
   obtain ⟨x', hx', h⟩ := Option.map_eq_some_iff.1 hop
   obtain ⟨rfl, rfl⟩ := Prod.mk.inj h
   have hv := hρ y
   rw [hy] at hv
   simp only [VR] at hv
   obtain ⟨us, h1, h2⟩ := hv
   obtain ⟨u, h3, h4⟩ := h2.get i x' hx'
   refine pur ⟨u, ?_, h4⟩ rfl
   have : us[i]? = some u := by simpa using h3
   simp [Instr.extract, h1, this]
  ·cases hop
 | call c =>
  obtain ⟨callee, args, argTypes⟩ := c
  cases callee with
  | value f => simp [aop] at hop
  | invoke r m => simp [aop] at hop
  | builtin b =>
   simp only [aop] at hop
   obtain ⟨args⟩ := args
   obtain ⟨ts⟩ := argTypes
   have hft : ∀ id, id ∈ afoot ρ (.call ⟨.builtin b, ⟨args⟩, ⟨ts⟩⟩) ↔ ∃ y ∈ args, id ∈ (ρ y).ids := by
    intro id
    simp [afoot]
   cases b
   case len =>
    simp only [aBuiltin] at hop
    split at hop
    ·rename_i x' t hxs
     obtain ⟨x'', h1, h2⟩ := Option.map_eq_some_iff.1 hop
     obtain ⟨rfl, rfl⟩ := Prod.mk.inj h2
     obtain ⟨y, rfl, rfl⟩ := map_one hxs
     exact pur (len_sound (ty := type) h1 (hρ y)) (by simp [execOp, resolve, invoke, builtin])
    ·cases hop
   case cap =>
    simp only [aBuiltin] at hop
    split at hop
    ·rename_i x' t hxs
     obtain ⟨x'', h1, h2⟩ := Option.map_eq_some_iff.1 hop
     obtain ⟨rfl, rfl⟩ := Prod.mk.inj h2
     obtain ⟨y, rfl, rfl⟩ := map_one hxs
     exact pur (cap_sound (ty := type) h1 (hρ y)) (by simp [execOp, resolve, invoke, builtin])
    ·cases hop
   case append =>
    simp only [aBuiltin] at hop
    split at hop
    ·rename_i s' x' t t' hxs
     obtain ⟨y, z, rfl, rfl, rfl⟩ := map_two hxs
     split at hop
     ·exact lift (append_sound (ty := type) hop (hρ y) (hρ z) hF (fun id b e hid => hbr id b e (by
       rw [hft]
       rcases hid with h | h
       ·exact ⟨z, by simp, h⟩
       ·exact ⟨y, by simp, h⟩)) hnew) (by simp [execOp, resolve, invoke, builtin])
     ·exact lift (append_make_sound (ty := type) hop (hρ y) (hρ z) hnew) (by simp [execOp, resolve, invoke, builtin])
    ·cases hop
   case copy =>
    simp only [aBuiltin] at hop
    split at hop
    ·rename_i s' x' t t' hxs
     obtain ⟨y, z, rfl, rfl, rfl⟩ := map_two hxs
     exact lift (copy_sound (ty := type) hop (hρ y) (hρ z) hF (fun id b e hid => hbr id b e (by
      rw [hft]
      rcases hid with h | h
      ·exact ⟨z, by simp, h⟩
      ·exact ⟨y, by simp, h⟩))) (by simp [execOp, resolve, invoke, builtin])
    ·cases hop
   case clear =>
    simp only [aBuiltin] at hop
    split at hop
    ·rename_i x' t hxs
     obtain ⟨x'', h1, h2⟩ := Option.map_eq_some_iff.1 hop
     obtain ⟨rfl, rfl⟩ := Prod.mk.inj h2
     obtain ⟨y, rfl, rfl⟩ := map_one hxs
     exact lift (clear_sound (ty := type) h1 (hρ y) (fun id b e hid => hbr id b e (by rw [hft]; exact ⟨y, by simp, hid⟩))) (by simp [execOp, resolve, invoke, builtin])
    ·cases hop
   case min =>
    simp only [aBuiltin] at hop
    split at hop
    ·rename_i k p k' q hxs
     split at hop
     ·rename_i hk
      subst hk
      obtain ⟨rfl, rfl⟩ := Prod.mk.inj (Option.some.inj hop)
      obtain ⟨y, z, rfl, hy, hz⟩ := map_two hxs
      have h1 := hρ y
      have h2 := hρ z
      rw [← hy] at h1
      rw [← hz] at h2
      refine pur (s := Builtin.min_ ⟨ts⟩ type #[a.eval y, a.eval z]) ⟨.int k (if q < p then q else p), ?_, by simp [VR]⟩ (by simp [execOp, resolve, invoke, builtin])
      rw [VR_int h1, VR_int h2]
      simp [Builtin.min_, Builtin.min2]
     ·cases hop
    ·cases hop
   case max =>
    simp only [aBuiltin] at hop
    split at hop
    ·rename_i k p k' q hxs
     split at hop
     ·rename_i hk
      subst hk
      obtain ⟨rfl, rfl⟩ := Prod.mk.inj (Option.some.inj hop)
      obtain ⟨y, z, rfl, hy, hz⟩ := map_two hxs
      have h1 := hρ y
      have h2 := hρ z
      rw [← hy] at h1
      rw [← hz] at h2
      refine pur (s := Builtin.max_ ⟨ts⟩ type #[a.eval y, a.eval z]) ⟨.int k (if q > p then q else p), ?_, by simp [VR]⟩ (by simp [execOp, resolve, invoke, builtin])
      rw [VR_int h1, VR_int h2]
      simp [Builtin.max_, Builtin.max2]
     ·cases hop
    ·cases hop
   all_goals (simp [aBuiltin] at hop)
 | _ => simp [aop] at hop
end
end Go.Proofs.YtgpjgljgplngpaaGreatDoor.AM
