/- The abstract machine, part 3: what an operation of the machine tells is what the model's operation does. No conditions. -/
import Derived.Test.YtgddflnhibhacaaAm2
set_option linter.unusedVariables false
set_option linter.unusedSimpArgs false
namespace Go.Proofs.Ytgddflnhibhacaa.AM
open Go

section
variable {P : Program} {F : Nat → Prop} {ι ι' : Inj} {w0 : World}

/-- A block lies in the model's memory. -/
def BR (F : Nat → Prop) (ι : Inj) (w0 : World) (b : Blk) (c : Emb) (w : World) : Prop :=
  ∃ arr t fz, w.heap[c.blk]? = some (.cells arr t fz) ∧ arr.size = c.room * b.sz ∧ (b.ro = false → fz = (0, 0)) ∧
    ∃ vs rest, arr.toList = vs ++ rest ∧ VRL F ι w0 b.cells vs ∧ ∀ u ∈ vs, u.oneCell' = true
def BRo (F : Nat → Prop) (ι : Inj) (w0 : World) (b : Blk) (e : Option Emb) (w : World) : Prop :=
  match e with
  | none => b.cells = []
  | some c => BR F ι w0 b c w

theorem BR.mono {b : Blk} {c : Emb} {w w' : World} (h : BR F ι w0 b c w) (hι : Inj.le ι ι') (hw : w'.heap[c.blk]? = w.heap[c.blk]?) : BR F ι' w0 b c w' := by
  obtain ⟨arr, t, fz, h1, h2, h4, vs, rest, h5, h6, h7⟩ := h
  exact ⟨arr, t, fz, by rw [hw]; exact h1, h2, h4, vs, rest, h5, VRL.mono (fun _ h => h) hι (fun _ _ => rfl) _ h6, h7⟩
theorem BRo.mono {b : Blk} {e : Option Emb} {w w' : World} (h : BRo F ι w0 b e w) (hι : Inj.le ι ι') (hw : ∀ c, e = some c → w'.heap[c.blk]? = w.heap[c.blk]?) : BRo F ι' w0 b e w' := by
  cases e with
  | none => exact h
  | some c => exact BR.mono h hι (hw c rfl)

/-- What an operation has done. W: the blocks that it may have written. -/
structure Eff (F : Nat → Prop) (w0 : World) (ι ι' : Inj) (H H' : Heap) (W : List Nat) (w w' : World) : Prop where
  len : H.length ≤ H'.length
  le : Inj.le ι ι'
  old : ∀ id, (id < H.length ∨ H'.length ≤ id) → ι' id = ι id
  new : ∀ id, H.length ≤ id → id < H'.length → ∃ e, ι' id = some e ∧ (∀ b, H'[id]? = some b → b.live = true → BRo F ι' w0 b e w')
  newAt : ∀ id c, H.length ≤ id → id < H'.length → ι' id = some (some c) → w.heap.size ≤ c.blk ∨ ∃ k c', k ∈ W ∧ ι k = some (some c') ∧ c'.blk = c.blk ∧ ∀ b, H'[k]? = some b → b.live = false
  newInj : ∀ id id' c c', H.length ≤ id → id < H'.length → H.length ≤ id' → id' < H'.length → ι' id = some (some c) → ι' id' = some (some c') → c.blk = c'.blk → id = id'
  wr : ∀ id b e, id ∈ W → H'[id]? = some b → b.live = true → ι id = some e → BRo F ι' w0 b e w'
  same : ∀ id, id < H.length → id ∉ W → H'[id]? = H[id]?
  frame : ∀ c, c < w.heap.size → (∀ id e, id ∈ W → ι id = some (some e) → e.blk ≠ c) → w'.heap[c]? = w.heap[c]?
  os : w'.os = w.os
  tape : w'.tape = w.tape
  out : w'.output = w.output
  size : w.heap.size ≤ w'.heap.size

theorem Eff.refl (F : Nat → Prop) (w0 : World) (ι : Inj) (H : Heap) (w : World) : Eff F w0 ι ι H H [] w w where
  len := Nat.le_refl _
  le := Inj.le_refl _
  old := fun _ _ => rfl
  new := fun id h1 h2 => absurd h2 (by omega)
  newAt := fun id _ h1 h2 => absurd h2 (by omega)
  newInj := fun id _ _ _ h1 h2 => absurd h2 (by omega)
  wr := fun _ _ _ h => absurd h (by simp)
  same := fun _ _ _ => rfl
  frame := fun _ _ _ => rfl
  os := rfl
  tape := rfl
  out := rfl
  size := Nat.le_refl _

def Inj.set (ι : Inj) (id : Nat) (e : Option Emb) : Inj := fun i => if i = id then some e else ι i
theorem Inj.le_set {id : Nat} {e : Option Emb} (h : ι id = none) : Inj.le ι (ι.set id e) := by
  intro i x hx
  unfold Inj.set
  split
  · subst_vars; rw [h] at hx; cases hx
  · exact hx

/-- A new block. -/
theorem Eff.alloc {H : Heap} {w w' : World} {b : Blk} {arr : Array Value} {t : TypeId} {fz : Nat × Nat} {vs : List Value} {room : Nat} (hnew : ι H.length = none) (hroom : arr.size = room * b.sz)
    (hh : w'.heap = w.heap.push (.cells arr t fz)) (hfz : b.ro = false → fz = (0, 0)) (hv : VRL F ι w0 b.cells vs) (h1 : ∀ u ∈ vs, u.oneCell' = true) {rest : List Value} (hg : arr.toList = vs ++ rest)
    (ho : w'.os = w.os) (ht : w'.tape = w.tape) (hout : w'.output = w.output) :
    Eff F w0 ι (ι.set H.length (some ⟨w.heap.size, room⟩)) H (H ++ [b]) [] w w' := by
  have hle := Inj.le_set (e := some (⟨w.heap.size, room⟩ : Emb)) hnew
  refine ⟨by simp, hle, ?_, ?_, ?_, ?_, ?_, ?_, ?_, ho, ht, hout, by rw [hh]; simp⟩
  · intro id h
    unfold Inj.set
    rw [if_neg]
    intro e
    subst e
    simp at h
    omega
  · intro id h2 h3
    simp at h3
    have : id = H.length := by omega
    subst this
    refine ⟨some ⟨w.heap.size, room⟩, by simp [Inj.set], fun b' hb' _ => ?_⟩
    simp at hb'
    subst hb'
    exact ⟨arr, t, fz, by simp [hh], hroom, hfz, vs, rest, hg, VRL.mono (fun _ h => h) hle (fun _ _ => rfl) _ hv, h1⟩
  · intro id c h2 h3 h4
    simp at h3
    have : id = H.length := by omega
    subst this
    simp [Inj.set] at h4
    subst h4
    exact Or.inl (Nat.le_refl _)
  · intro id id' c c' h2 h3 h4 h5 _ _ _
    simp at h3 h5
    omega
  · intro id b e h; simp at h
  · intro id h2 _
    simp [List.getElem?_append_left h2]
  · intro c hc _
    rw [hh]
    simp [Array.getElem?_push, Nat.ne_of_lt hc]

/-- A block is written. -/
theorem Eff.write {H : Heap} {w w' : World} {id : Nat} {b : Blk} {c : Emb} (hid : id < H.length) (hc : ι id = some (some c)) (hb : BR F ι w0 b c w')
    (hframe : ∀ k, k ≠ c.blk → w'.heap[k]? = w.heap[k]?) (hs : w'.heap.size = w.heap.size)
    (ho : w'.os = w.os) (ht : w'.tape = w.tape) (hout : w'.output = w.output) :
    Eff F w0 ι ι H (H.set id b) [id] w w' := by
  refine ⟨by simp, Inj.le_refl _, fun _ _ => rfl, ?_, ?_, ?_, ?_, ?_, ?_, ho, ht, hout, by omega⟩
  · intro id' h2 h3; simp at h3; omega
  · intro id' c h2 h3; simp at h3; omega
  · intro id' _ _ _ h2 h3; simp at h3; omega
  · intro id' b' e h h2 h3 h4
    simp at h
    subst h
    simp [hid] at h2
    subst h2
    rw [hc] at h4
    obtain rfl := Option.some.inj h4
    exact hb
  · intro id' h2 h3
    simp at h3
    rw [List.getElem?_set_ne (fun e => h3 e.symm)]
  · intro k hk h
    exact hframe k (fun e => h id c (by simp) hc e.symm)

end

section
variable {P : Program} {w : World}
theorem tSize_run {t : TypeId} {n : Nat} (h : tSize P t = some n) (w : World) : (sizeOf t).run P w = .ok n w := by
  unfold tSize at h
  obtain ⟨i, h1, h2⟩ := Option.map_eq_some_iff.1 h
  simp [sizeOf, typeInfo, h1, h2]
theorem tSize_info {t : TypeId} {n : Nat} (h : tSize P t = some n) : ∃ i, P.info? t = some i ∧ i.size = n := Option.map_eq_some_iff.1 h
theorem tBytes_info {t : TypeId} {n : Nat} (h : tBytes P t = some n) : ∃ i, P.info? t = some i ∧ i.bytes = n := Option.map_eq_some_iff.1 h
theorem tElem_eq {t e : TypeId} (h : tElem P t = some e) : P.underlying t = some (.slice e) := by
  unfold tElem at h
  split at h
  · rename_i x hx; rw [hx]; simp at h; rw [h]
  · cases h
theorem tInt_eq {t : TypeId} {k : IntKind} (h : tInt P t = some k) : P.underlying t = some (.int k) := by
  unfold tInt at h
  split at h
  · rename_i x hx; rw [hx]; simp at h; rw [h]
  · cases h
theorem tStr_eq {t : TypeId} (h : tStr P t = true) : P.underlying t = some .string := by unfold tStr at h; split at h <;> simp_all
theorem tBoo_eq {t : TypeId} (h : tBoo P t = true) : P.underlying t = some .bool := by unfold tBoo at h; split at h <;> simp_all
theorem tSli_eq {t : TypeId} (h : tSli P t = true) : ∃ e, P.underlying t = some (.slice e) := by unfold tSli at h; split at h <;> simp_all
theorem tIfc_eq {t : TypeId} (h : tIfc P t = true) : ∃ e, P.underlying t = some (.interface e) := by unfold tIfc at h; split at h <;> simp_all
theorem tSct_eq {t : TypeId} (h : tSct P t = true) : ∃ fs, P.underlying t = some (.struct fs) ∧ ∀ f ∈ fs.toList, ∃ i, P.info? f.type = some i := by
  unfold tSct at h
  split at h
  · rename_i fs hfs
    refine ⟨fs, hfs, fun f hf => ?_⟩
    have := List.all_eq_true.1 h f hf
    exact Option.isSome_iff_exists.1 this
  · cases h
theorem tIs_eq {t : TypeId} (h : tIs P t = true) : ∃ d, P.underlying t = some d := by unfold tIs at h; exact Option.isSome_iff_exists.1 h
theorem tAgg_run {t : TypeId} {b : Bool} (h : tAgg P t = some b) (w : World) : (isAgg t).run P w = .ok b w := by
  unfold tAgg at h
  obtain ⟨d, h1, h2⟩ := Option.map_eq_some_iff.1 h
  unfold isAgg
  simp only [Sem.run_bind, run_underlying h1, Result.andThen_ok]
  subst h2
  cases d <;> rfl
theorem tField_eq {s f o t : Nat} (h : tField P s f = some (o, t)) : ∃ fs fd, P.underlying s = some (.struct fs) ∧ fs[f]? = some fd ∧ fd.offset = o ∧ fd.type = t := by
  unfold tField at h
  split at h
  · rename_i fs hx
    obtain ⟨fd, h1, h2⟩ := Option.map_eq_some_iff.1 h
    simp at h2
    exact ⟨fs, fd, hx, h1, h2.1, h2.2⟩
  · cases h
theorem tZero_info {t : TypeId} {z : List AV} (h : tZero P t = some z) : ∃ i v, P.info? t = some i ∧ i.zero = some v ∧ v.cells.toList.map ofV = z ∧ ∀ u ∈ v.cells.toList, (ofV u).isAny = false := by
  unfold tZero at h
  split at h
  · rename_i v hv
    obtain ⟨i, h3, h4⟩ := Option.bind_eq_some_iff.1 hv
    split at h
    · rename_i hc
      refine ⟨i, v, h3, h4, Option.some.inj h, fun u hu => ?_⟩
      have := List.all_eq_true.1 hc (ofV u) (List.mem_map_of_mem hu)
      simpa using this
    · cases h
  · cases h

variable {F : Nat → Prop} {ι : Inj} {w0 : World}
theorem VR_ofV (v : Value) : VR F ι w0 (ofV v) v := by
  cases v with
  | pointer a => cases a <;> simp [ofV, VR]
  | slice a n c => cases a <;> cases n <;> cases c <;> simp [ofV, VR]
  | _ => simp [ofV, VR]
theorem ofV_one {v : Value} (hx : (ofV v).isAny = false) : v.oneCell' = true := by
  cases v <;> first | rfl | (simp [ofV, AV.isAny] at hx)
theorem tZero_rel {t : TypeId} {z : List AV} (h : tZero P t = some z) : ∃ i v, P.info? t = some i ∧ i.zero = some v ∧ VRL F ι w0 z v.cells.toList ∧ ∀ u ∈ v.cells.toList, u.oneCell' = true := by
  obtain ⟨i, v, h1, h2, h3, h4⟩ := tZero_info h
  refine ⟨i, v, h1, h2, ?_, fun u hu => ofV_one (h4 u hu)⟩
  subst h3
  refine VRL.of_get (by simp) fun k x u hx hu => ?_
  rw [List.getElem?_map, hu] at hx
  simp at hx
  subst hx
  exact VR_ofV u
end
end Go.Proofs.Ytgddflnhibhacaa.AM
