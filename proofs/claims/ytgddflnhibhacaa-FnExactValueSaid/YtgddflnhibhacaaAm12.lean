/- The abstract machine, part 12: the state, an operation's step, what a call is shown to do. No conditions. -/
import Derived.Test.YtgddflnhibhacaaAm11
set_option linter.unusedVariables false
set_option linter.unusedSimpArgs false
namespace Go.Proofs.Ytgddflnhibhacaa.AM
open Go

/-- The own blocks lie in the model's memory, apart from one another and from what is only read. D: the blocks of which that is said. -/
structure HS (F : Nat → Prop) (w0 : World) (ι : Inj) (M D : Nat → Prop) (H : Heap) (w : World) : Prop where
  br : ∀ id b e, D id → H[id]? = some b → b.live = true → ι id = some e → BRo F ι w0 b e w
  inj : ∀ id id' b b' c c', D id → D id' → H[id]? = some b → H[id']? = some b' → b.live = true → b'.live = true → ι id = some (some c) → ι id' = some (some c') → c.blk = c'.blk → id = id'
  own : ∀ id b c, D id → H[id]? = some b → b.live = true → ι id = some (some c) → ¬ F c.blk ∧ (M c.blk ∨ w0.heap.size ≤ c.blk)

/-- The rest of memory is as it was. -/
structure WS (w0 : World) (M : Nat → Prop) (w : World) : Prop where
  agree : ∀ c, c < w0.heap.size → ¬ M c → w.heap[c]? = w0.heap[c]?
  os : w.os = w0.os
  tape : w.tape = w0.tape
  out : w.output = w0.output
  size : w0.heap.size ≤ w.heap.size

/-- What is only read was there at first, and is nobody's. -/
def FS (F : Nat → Prop) (w0 : World) (M : Nat → Prop) : Prop := ∀ c, F c → c < w0.heap.size ∧ ¬ M c

section
variable {P : Program} {F : Nat → Prop} {ι ι' : Inj} {w0 w w' : World} {M D : Nat → Prop} {H H' : Heap} {W : List Nat}

theorem lt_of_heap {c : Nat} {o : Obj} (h : w.heap[c]? = some o) : c < w.heap.size := (Array.getElem?_eq_some_iff.1 h).1
theorem BR.lt {b : Blk} {c : Emb} (h : BR F ι w0 b c w) : c.blk < w.heap.size := by
  obtain ⟨arr, t, fz, h1, _⟩ := h
  exact lt_of_heap h1

theorem WS.step (hE : Eff F w0 ι ι' H H' W w w') (hS : HS F w0 ι M D H w) (hW : ∀ id, id ∈ W → D id ∧ ∃ b, H[id]? = some b ∧ b.live = true) (h : WS w0 M w) : WS w0 M w' := by
  refine ⟨fun c hc hm => ?_, hE.os.trans h.os, hE.tape.trans h.tape, hE.out.trans h.out, Nat.le_trans h.size hE.size⟩
  rw [hE.frame c (Nat.lt_of_lt_of_le hc h.size) ?_]
  · exact h.agree c hc hm
  · intro id e hid he heq
    obtain ⟨hd, b, hb, hl⟩ := hW id hid
    rcases (hS.own id b e hd hb hl he).2 with h1 | h1
    · rw [heq] at h1
      exact hm h1
    · omega

theorem HS.step (hE : Eff F w0 ι ι' H H' W w w') (hFS : FS F w0 M) (hsz : w0.heap.size ≤ w.heap.size) (hDl : ∀ id, D id → id < H.length) (hS : HS F w0 ι M D H w) (hW : ∀ id, id ∈ W → D id ∧ ∃ b, H[id]? = some b ∧ b.live = true) :
    HS F w0 ι' M (fun id => D id ∨ (H.length ≤ id ∧ id < H'.length)) H' w' := by
  -- an old block that still lives lived before
  have olive : ∀ id b, D id → H'[id]? = some b → b.live = true → ∃ b0, H[id]? = some b0 ∧ b0.live = true ∧ (id ∉ W → b0 = b) := by
    intro id b hd hb hl
    by_cases hw : id ∈ W
    · obtain ⟨_, b0, h1, h2⟩ := hW id hw
      exact ⟨b0, h1, h2, fun h => absurd hw h⟩
    · rw [hE.same id (hDl id hd) hw] at hb
      exact ⟨b, hb, hl, fun _ => rfl⟩
  have oold : ∀ id, D id → ι' id = ι id := fun id hd => hE.old id (Or.inl (hDl id hd))
  have newc : ∀ id c b, H.length ≤ id → id < H'.length → H'[id]? = some b → b.live = true → ι' id = some (some c) → ∀ id2 b2 c2, D id2 → H'[id2]? = some b2 → b2.live = true → ι id2 = some (some c2) → c.blk ≠ c2.blk := by
    intro id c b h1 h2 h3 h4 h5 id2 b2 c2 hd hb2 hl2 hc2 heq
    obtain ⟨b0, g1, g2, _⟩ := olive id2 b2 hd hb2 hl2
    rcases hE.newAt id c h1 h2 h5 with h6 | ⟨k, c', hk, hkc, hkb, hdead⟩
    · have hlt : c2.blk < w.heap.size := BR.lt (hS.br id2 b0 (some c2) hd g1 g2 hc2)
      omega
    · obtain ⟨hdk, bk, hbk, hlk⟩ := hW k hk
      have : id2 = k := hS.inj id2 k b0 bk c2 c' hd hdk g1 hbk g2 hlk hc2 hkc (by rw [hkb, heq])
      subst this
      rw [hdead b2 hb2] at hl2
      cases hl2
  refine ⟨?_, ?_, ?_⟩
  · intro id b e hd hb hl he
    rcases hd with hd | ⟨h1, h2⟩
    · rw [oold id hd] at he
      by_cases hw : id ∈ W
      · exact hE.wr id b e hw hb hl he
      · obtain ⟨b0, g1, g2, g3⟩ := olive id b hd hb hl
        obtain rfl := g3 hw
        have hbr := hS.br id b0 e hd g1 g2 he
        refine hbr.mono hE.le fun c hc => ?_
        subst hc
        refine hE.frame c.blk (BR.lt hbr) fun k e' hk hke heq => ?_
        obtain ⟨hdk, bk, hbk, hlk⟩ := hW k hk
        have := hS.inj k id bk b0 e' c hdk hd hbk g1 hlk g2 hke he heq
        subst this
        exact hw hk
    · obtain ⟨e', h3, h4⟩ := hE.new id h1 h2
      rw [h3] at he
      obtain rfl := Option.some.inj he
      exact h4 b hb hl
  · intro id id' b b' c c' hd hd' hb hb' hl hl' hc hc' heq
    rcases hd with hd | ⟨h1, h2⟩
    · rcases hd' with hd' | ⟨h1', h2'⟩
      · obtain ⟨b0, g1, g2, _⟩ := olive id b hd hb hl
        obtain ⟨b0', g1', g2', _⟩ := olive id' b' hd' hb' hl'
        rw [oold id hd] at hc
        rw [oold id' hd'] at hc'
        exact hS.inj id id' b0 b0' c c' hd hd' g1 g1' g2 g2' hc hc' heq
      · rw [oold id hd] at hc
        exact absurd heq.symm (newc id' c' b' h1' h2' hb' hl' hc' id b c hd hb hl hc)
    · rcases hd' with hd' | ⟨h1', h2'⟩
      · rw [oold id' hd'] at hc'
        exact absurd heq (newc id c b h1 h2 hb hl hc id' b' c' hd' hb' hl' hc')
      · exact hE.newInj id id' c c' h1 h2 h1' h2' hc hc' heq
  · intro id b c hd hb hl hc
    rcases hd with hd | ⟨h1, h2⟩
    · obtain ⟨b0, g1, g2, _⟩ := olive id b hd hb hl
      rw [oold id hd] at hc
      exact hS.own id b0 c hd g1 g2 hc
    · rcases hE.newAt id c h1 h2 hc with h6 | ⟨k, c', hk, hkc, hkb, hdead⟩
      · refine ⟨fun hf => ?_, Or.inr (by omega)⟩
        have := (hFS c.blk hf).1
        omega
      · obtain ⟨hdk, bk, hbk, hlk⟩ := hW k hk
        rw [← hkb]
        exact hS.own k bk c' hdk hbk hlk hkc

theorem HS.weaken {D' : Nat → Prop} (h : HS F w0 ι M D H w) (hd : ∀ id, D' id → D id) : HS F w0 ι M D' H w :=
  ⟨fun id b e hi => h.br id b e (hd id hi), fun id id' b b' c c' hi hi' => h.inj id id' b b' c c' (hd id hi) (hd id' hi'), fun id b c hi => h.own id b c (hd id hi)⟩

/-- What a Go function is shown to do: called with such arguments, its own blocks h, it returns v and leaves the blocks h'. -/
def Sat (P : Program) (f : FuncId) (args : List AV) (h : Heap) (v : AV) (h' : Heap) : Prop :=
  (∀ (as : Array Value) (w : World), (callFunc f as).run P w = .ok (.enter f as) w) ∧
  ∀ (F : Nat → Prop) (ι : Inj) (w : World) (cargs : Array Value),
    (∀ c, F c → c < w.heap.size) → (∀ id, id < h.length → ι id ≠ none) → (∀ id, h.length ≤ id → ι id = none) →
    HS F w ι (fun c => ∃ id b e, h[id]? = some b ∧ b.live = true ∧ ι id = some (some e) ∧ e.blk = c) (fun id => id < h.length) h w →
    VRL F ι w args cargs.toList →
    Calls P f cargs w (fun e w' => ∃ cv ι', e = .returned cv ∧ VR F ι' w v cv ∧ Eff F w ι ι' h h' (List.range h.length) w w')

def borB (Hb : Heap) (inv : Nat → Option Nat) (n : Nat) (b : Blk) : Blk := { b with cells := b.cells.map (bor Hb inv n) }
def shB (mm : Nat → Nat) (b : Blk) : Blk := { b with cells := shL mm b.cells }
def idx (m : List Nat) (id : Nat) : Option Nat := m.idxOf? id
def mmap (m : List Nat) (base j : Nat) : Nat := if j < m.length then m.getD j 0 else base + (j - m.length)
def fuel : Nat := 6
def setAll (mm : Nat → Nat) : Heap → List Nat → Heap → Heap
  | H, id :: m, b :: hs => setAll mm (H.set id (shB mm b)) m hs
  | H, _, _ => H
/-- The blocks behind a call. -/
def back (H : Heap) (m : List Nat) (h' : Heap) : Heap := setAll (mmap m H.length) H m h' ++ (h'.drop m.length).map (shB (mmap m H.length))

/-- A call that is shown to do something. m: the blocks that are handed over to be written. -/
structure CallOk (P : Program) (f : FuncId) (args : List AV) (H : Heap) (m : List Nat) (v : AV) (h' : Heap) (Hb : Heap) : Prop where
  nodup : m.Nodup
  live : ∀ id, id ∈ m → ∃ b, H[id]? = some b ∧ b.live = true
  sat : Sat P f (args.map (bor Hb (idx m) fuel)) (m.map fun id => borB Hb (idx m) fuel (H.getD id deadBlk)) v h'
  clean : ((∀ (id : Nat) b, Hb[id]? = some b → b.live = true → H[id]? = some b) ∧ noS v = true ∧ ∀ b, b ∈ h' → noSL b.cells = true) ∨ Hb = []
end
end Go.Proofs.Ytgddflnhibhacaa.AM
