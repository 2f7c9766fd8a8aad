/- The abstract machine, second part: its code, calls and loops, and that they are sound. No conditions. -/
import Derived.Test.YtgpjgljgplngpaaGreatDoorM1
set_option linter.unusedVariables false
set_option linter.unusedSimpArgs false
namespace Go.Proofs.YtgpjgljgplngpaaGreatDoor.AM
open Go
def bor (Hb : Heap) (inv : Nat → Option Nat) : Nat → AV → AV
 | 0, _ => .any
 | n + 1, x => match x with
  | .ptr id off => match inv id with
   | some j => .ptr j off
   | none => match Hb[id]? with
    | some b => if b.live = true then .sptr ((b.cells.drop off).map (bor Hb inv n)) else .any
    | none => .any
  | .slice id off len cap => match inv id with
   | some j => .slice j off len cap
   | none => match Hb[id]? with
    | some b => if b.live = true then .sl len len (((b.cells.drop off).take (len * b.sz)).map (bor Hb inv n)) else .any
    | none => .any
  | .agg cs => .agg (cs.map (bor Hb inv n))
  | .tuple cs => .tuple (cs.map (bor Hb inv n))
  | .func f a b => .func f (a.map (bor Hb inv n)) (b.map (bor Hb inv n))
  | .sptr cs => .sptr (cs.map (bor Hb inv n))
  | .sl len cap cs => .sl len cap (cs.map (bor Hb inv n))
  | .nnsl len cap cs => .nnsl len cap (cs.map (bor Hb inv n))
  | x => x
mutual
def sh (mm : Nat → Nat) : AV → AV
 | .ptr id off => .ptr (mm id) off
 | .slice id off len cap => .slice (mm id) off len cap
 | .sptr cs => .sptr (shL mm cs)
 | .sl len cap cs => .sl len cap (shL mm cs)
 | .nnsl len cap cs => .nnsl len cap (shL mm cs)
 | .func f a b => .func f (shL mm a) (shL mm b)
 | .agg cs => .agg (shL mm cs)
 | .tuple cs => .tuple (shL mm cs)
 | .any => .any
 | .bool b => .bool b
 | .int k n => .int k n
 | .str s => .str s
 | .nilp => .nilp
 | .esl => .esl
 | .nilsl => .nilsl
 | .nilfn => .nilfn
 | .someif => .someif
 | .nilif => .nilif
def shL (mm : Nat → Nat) : List AV → List AV
 | [] => []
 | x :: xs => sh mm x :: shL mm xs
end
mutual
def noS : AV → Bool
 | .sptr _ | .sl _ _ _ | .nnsl _ _ _ => false
 | .func _ a b => noSL a && noSL b
 | .agg cs => noSL cs
 | .tuple cs => noSL cs
 | .any => true
 | .bool _ => true
 | .int _ _ => true
 | .str _ => true
 | .nilp => true
 | .ptr _ _ => true
 | .esl => true
 | .nilsl => true
 | .slice _ _ _ _ => true
 | .nilfn => true
 | .someif => true
 | .nilif => true
def noSL : List AV → Bool
 | [] => true
 | x :: xs => noS x && noSL xs
end
section
variable {P : Program} {F Fc : Nat → Prop} {ι ιc : Inj} {w0 wc w : World} {Hb : Heap} {inv : Nat → Option Nat}
theorem VRL_map' {f : AV → AV} (hf : ∀ x v, VR F ι w0 x v → VR Fc ιc wc (f x) v) : ∀ {xs : List AV} {vs : List Value}, VRL F ι w0 xs vs → VRL Fc ιc wc (xs.map f) vs
 | [], vs, h => by rw [VRL_nil] at h; subst h; simp [VRL_nil]
 | x :: xs, vs, h => by
  obtain ⟨v, rest, rfl, h1, h2⟩ := VRL_cons.1 h
  exact VRL_cons.2 ⟨v, rest, rfl, hf x v h1, VRL_map' hf h2⟩
theorem bor_sound (hF : ∀ c, F c → Fc c) (hw : ∀ c, F c → wc.heap[c]? = w0.heap[c]?) (hinv : ∀ id j e, inv id = some j → ι id = some e → ιc j = some e)
 (hb : ∀ id b e, inv id = none → Hb[id]? = some b → b.live = true → ι id = some (some e) → Fc e.blk ∧ ∃ vs, VRL F ι w0 b.cells vs ∧ CellsAt wc e.blk 0 vs) :
 ∀ (n : Nat) (x : AV) (v : Value), VR F ι w0 x v → VR Fc ιc wc (bor Hb inv n x) v := by
 intro n
 induction n with
 | zero => intro x v _; simp [bor, VR]
 | succ n ih =>
  intro x v h
  cases x with
  | ptr id off =>
   simp only [bor]
   simp only [VR] at h
   obtain ⟨e, h1, h2⟩ := h
   cases hi : inv id with
   | some j => simp only [VR]; exact ⟨e, hinv id j _ hi h1, h2⟩
   | none =>
    simp only
    split
    ·rename_i b hbk
     split
     ·rename_i hl
      obtain ⟨g1, vs, g2, g3⟩ := hb id b e hi hbk hl h1
      simp only [VR]
      refine ⟨e.blk, off, vs.drop off, h2, g1, ?_, VRL_map' ih (g2.drop off)⟩
      simpa using g3.drop off
     ·simp [VR]
    ·simp [VR]
  | slice id off len cap =>
   simp only [bor]
   simp only [VR] at h
   cases hi : inv id with
   | some j =>
    simp only [VR]
    rcases h with ⟨c, ccap, off', h1, h2⟩ | ⟨h1, h2⟩
    ·exact Or.inl ⟨c, ccap, off', hinv id j _ hi h1, h2⟩
    ·exact Or.inr ⟨hinv id j _ hi h1, h2⟩
   | none =>
    simp only
    split
    ·rename_i b hbk
     split
     ·rename_i hl
      simp only [VR]
      rcases h with ⟨c, ccap, off', h1, rfl, h2, h3, h4, h5⟩ | ⟨h1, rfl, rfl, a, rfl⟩
      ·refine ⟨_, ccap, rfl, h3, h3, fun h => by simp at h, ?_⟩
       by_cases h0 : ccap = 0
       ·obtain rfl : len = 0 := by omega
        exact Or.inl ⟨by simp, rfl⟩
       ·obtain rfl : off' = off := by omega
        obtain ⟨g1, vs, g2, g3⟩ := hb id b c hi hbk hl h1
        have := (g3.drop off').take (len * b.sz)
        rw [Nat.zero_add] at this
        exact Or.inr ⟨c.blk, off', _, rfl, g1, this, VRL_map' ih ((g2.drop off').take _)⟩
      ·exact ⟨a, 0, rfl, Nat.le_refl _, Nat.le_refl _, fun _ => rfl, Or.inl ⟨by simp, rfl⟩⟩
     ·simp [VR]
    ·simp [VR]
  | agg cs =>
   simp only [bor]
   simp only [VR] at h ⊢
   obtain ⟨vs, h1, h2, h3⟩ := h
   exact ⟨vs, h1, VRL_map' ih h2, h3⟩
  | tuple cs =>
   simp only [bor]
   simp only [VR] at h ⊢
   obtain ⟨vs, h1, h2⟩ := h
   exact ⟨vs, h1, VRL_map' ih h2⟩
  | func f a b =>
   simp only [bor]
   simp only [VR] at h ⊢
   obtain ⟨fs, cs, h1, h2, h3⟩ := h
   exact ⟨fs, cs, h1, VRL_map' ih h2, VRL_map' ih h3⟩
  | sptr cs =>
   simp only [bor]
   simp only [VR] at h ⊢
   obtain ⟨c, off, vs, h1, h2, h3, h4⟩ := h
   exact ⟨c, off, vs, h1, hF c h2, h3.world (hw c h2), VRL_map' ih h4⟩
  | sl len cap cs =>
   simp only [bor]
   simp only [VR] at h ⊢
   obtain ⟨a, ccap, h1, h2, h3, hz, h4⟩ := h
   refine ⟨a, ccap, h1, h2, h3, hz, ?_⟩
   rcases h4 with ⟨rfl, h4⟩ | ⟨c, off, vs, h5, h6, h7, h8⟩
   ·exact Or.inl ⟨rfl, h4⟩
   ·exact Or.inr ⟨c, off, vs, h5, hF c h6, h7.world (hw c h6), VRL_map' ih h8⟩
  | nnsl len cap cs =>
   simp only [bor]
   simp only [VR] at h ⊢
   obtain ⟨a, ccap, h1, h2, h3, h4⟩ := h
   refine ⟨a, ccap, h1, h2, h3, ?_⟩
   rcases h4 with ⟨rfl, h4⟩ | ⟨c, off, vs, h5, h6, h7, h8⟩
   ·exact Or.inl ⟨rfl, h4⟩
   ·exact Or.inr ⟨c, off, vs, h5, hF c h6, h7.world (hw c h6), VRL_map' ih h8⟩
  | any => simp [bor, VR]
  | bool b => simpa [bor, VR] using h
  | int k n => simpa [bor, VR] using h
  | str s => simpa [bor, VR] using h
  | nilp => simpa [bor, VR] using h
  | esl => simpa [bor, VR] using h
  | nilsl => simpa [bor, VR] using h
  | nilfn => simpa [bor, VR] using h
  | someif => simpa [bor, VR] using h
  | nilif => simpa [bor, VR] using h
mutual
theorem sh_sound {mm : Nat → Nat} (hmm : ∀ j e, ιc j = some e → ι (mm j) = some e) (hF : ∀ c, Fc c → F c ∧ w0.heap[c]? = wc.heap[c]?) : ∀ (x : AV) (v : Value), VR Fc ιc wc x v → VR F ι w0 (sh mm x) v
 | .ptr id off, v, h => by
  simp only [sh, VR] at h ⊢
  obtain ⟨e, h1, h2⟩ := h
  exact ⟨e, hmm _ _ h1, h2⟩
 | .slice id off len cap, v, h => by
  simp only [sh, VR] at h ⊢
  rcases h with ⟨c, ccap, off', h1, h2⟩ | ⟨h1, h2⟩
  ·exact Or.inl ⟨c, ccap, off', hmm _ _ h1, h2⟩
  ·exact Or.inr ⟨hmm _ _ h1, h2⟩
 | .sptr cs, v, h => by
  simp only [sh, VR] at h ⊢
  obtain ⟨c, off, vs, h1, h2, h3, h4⟩ := h
  exact ⟨c, off, vs, h1, (hF c h2).1, h3.world (hF c h2).2, shL_sound hmm hF cs vs h4⟩
 | .sl len cap cs, v, h => by
  simp only [sh, VR] at h ⊢
  obtain ⟨a, ccap, h1, h2, h3, hz, h4⟩ := h
  refine ⟨a, ccap, h1, h2, h3, hz, ?_⟩
  rcases h4 with ⟨rfl, h4⟩ | ⟨c, off, vs, h5, h6, h7, h8⟩
  ·exact Or.inl ⟨rfl, h4⟩
  ·exact Or.inr ⟨c, off, vs, h5, (hF c h6).1, h7.world (hF c h6).2, shL_sound hmm hF cs vs h8⟩
 | .nnsl len cap cs, v, h => by
  simp only [sh, VR] at h ⊢
  obtain ⟨a, ccap, h1, h2, h3, h4⟩ := h
  refine ⟨a, ccap, h1, h2, h3, ?_⟩
  rcases h4 with ⟨rfl, h4⟩ | ⟨c, off, vs, h5, h6, h7, h8⟩
  ·exact Or.inl ⟨rfl, h4⟩
  ·exact Or.inr ⟨c, off, vs, h5, (hF c h6).1, h7.world (hF c h6).2, shL_sound hmm hF cs vs h8⟩
 | .func f a b, v, h => by
  simp only [sh, VR] at h ⊢
  obtain ⟨fs, cs, h1, h2, h3⟩ := h
  exact ⟨fs, cs, h1, shL_sound hmm hF a _ h2, shL_sound hmm hF b _ h3⟩
 | .agg cs, v, h => by
  simp only [sh, VR] at h ⊢
  obtain ⟨vs, h1, h2, h3⟩ := h
  exact ⟨vs, h1, shL_sound hmm hF cs _ h2, h3⟩
 | .tuple cs, v, h => by
  simp only [sh, VR] at h ⊢
  obtain ⟨vs, h1, h2⟩ := h
  exact ⟨vs, h1, shL_sound hmm hF cs _ h2⟩
 | .any, v, h => by simp [sh, VR]
 | .bool b, v, h => by simpa [sh, VR] using h
 | .int k n, v, h => by simpa [sh, VR] using h
 | .str s, v, h => by simpa [sh, VR] using h
 | .nilp, v, h => by simpa [sh, VR] using h
 | .esl, v, h => by simpa [sh, VR] using h
 | .nilsl, v, h => by simpa [sh, VR] using h
 | .nilfn, v, h => by simpa [sh, VR] using h
 | .someif, v, h => by simpa [sh, VR] using h
 | .nilif, v, h => by simpa [sh, VR] using h
theorem shL_sound {mm : Nat → Nat} (hmm : ∀ j e, ιc j = some e → ι (mm j) = some e) (hF : ∀ c, Fc c → F c ∧ w0.heap[c]? = wc.heap[c]?) : ∀ (xs : List AV) (vs : List Value), VRL Fc ιc wc xs vs → VRL F ι w0 (shL mm xs) vs
 | [], vs, h => by simpa [shL, VRL] using h
 | x :: xs, vs, h => by
  obtain ⟨v, rest, rfl, h1, h2⟩ := VRL_cons.1 h
  simp only [shL]
  exact VRL_cons.2 ⟨v, rest, rfl, sh_sound hmm hF x v h1, shL_sound hmm hF xs rest h2⟩
end
mutual
theorem noS_any {F' : Nat → Prop} {w' : World} : ∀ (x : AV) (v : Value), noS x = true → VR F ι w0 x v → VR F' ι w' x v
 | .sptr _, _, h, _ => by simp [noS] at h
 | .sl _ _ _, _, h, _ => by simp [noS] at h
 | .nnsl _ _ _, _, h, _ => by simp [noS] at h
 | .func f a b, v, h, hv => by
  simp only [noS, Bool.and_eq_true] at h
  simp only [VR] at hv ⊢
  obtain ⟨fs, cs, h1, h2, h3⟩ := hv
  exact ⟨fs, cs, h1, noSL_any a _ h.1 h2, noSL_any b _ h.2 h3⟩
 | .agg cs, v, h, hv => by
  simp only [noS] at h
  simp only [VR] at hv ⊢
  obtain ⟨vs, h1, h2, h3⟩ := hv
  exact ⟨vs, h1, noSL_any cs _ h h2, h3⟩
 | .tuple cs, v, h, hv => by
  simp only [noS] at h
  simp only [VR] at hv ⊢
  obtain ⟨vs, h1, h2⟩ := hv
  exact ⟨vs, h1, noSL_any cs _ h h2⟩
 | .ptr _ _, v, _, h => by simpa [VR] using h
 | .slice _ _ _ _, v, _, h => by simpa [VR] using h
 | .any, v, _, h => by simp [VR]
 | .bool b, v, _, h => by simpa [VR] using h
 | .int k n, v, _, h => by simpa [VR] using h
 | .str s, v, _, h => by simpa [VR] using h
 | .nilp, v, _, h => by simpa [VR] using h
 | .esl, v, _, h => by simpa [VR] using h
 | .nilsl, v, _, h => by simpa [VR] using h
 | .nilfn, v, _, h => by simpa [VR] using h
 | .someif, v, _, h => by simpa [VR] using h
 | .nilif, v, _, h => by simpa [VR] using h
theorem noSL_any {F' : Nat → Prop} {w' : World} : ∀ (xs : List AV) (vs : List Value), noSL xs = true → VRL F ι w0 xs vs → VRL F' ι w' xs vs
 | [], vs, _, h => by simpa [VRL] using h
 | x :: xs, vs, h, hv => by
  simp only [noSL, Bool.and_eq_true] at h
  obtain ⟨v, rest, rfl, h1, h2⟩ := VRL_cons.1 hv
  exact VRL_cons.2 ⟨v, rest, rfl, noS_any x v h.1 h1, noSL_any xs rest h.2 h2⟩
end
end
structure HS (F : Nat → Prop) (w0 : World) (ι : Inj) (M D : Nat → Prop) (H : Heap) (w : World) : Prop where
 br : ∀ id b e, D id → H[id]? = some b → b.live = true → ι id = some e → BRo F ι w0 b e w
 inj : ∀ id id' b b' c c', D id → D id' → H[id]? = some b → H[id']? = some b' → b.live = true → b'.live = true → ι id = some (some c) → ι id' = some (some c') → c.blk = c'.blk → id = id'
 own : ∀ id b c, D id → H[id]? = some b → b.live = true → ι id = some (some c) → ¬ F c.blk ∧ (M c.blk ∨ w0.heap.size ≤ c.blk)
structure WS (w0 : World) (M : Nat → Prop) (w : World) : Prop where
 agree : ∀ c, c < w0.heap.size → ¬ M c → w.heap[c]? = w0.heap[c]?
 os : w.os = w0.os
 tape : w.tape = w0.tape
 out : w.output = w0.output
 size : w0.heap.size ≤ w.heap.size
def GR (F : Nat → Prop) (w : World) : Prop := ∀ x ∈ gtab, F x.1 ∧ ∃ cs e fz, w.heap[x.1]? = some (.cells cs e fz) ∧ x.2 cs
theorem GR.mono {F F' : Nat → Prop} {w w' : World} (hF : ∀ c, F c → F' c) (hw : ∀ c, F c → w'.heap[c]? = w.heap[c]?) (h : GR F w) : GR F' w' := fun x hx => by
 obtain ⟨h1, cs, e, fz, h2, h3⟩ := h x hx
 exact ⟨hF _ h1, cs, e, fz, by rw [hw _ h1]; exact h2, h3⟩
def FS (F : Nat → Prop) (w0 : World) (M : Nat → Prop) : Prop := (∀ c, F c → c < w0.heap.size ∧ ¬ M c) ∧ GR F w0
section
variable {P : Program} {F : Nat → Prop} {ι ι' : Inj} {w0 w w' : World} {M D : Nat → Prop} {H H' : Heap} {W : List Nat}
theorem lt_of_heap {c : Nat} {o : Obj} (h : w.heap[c]? = some o) : c < w.heap.size := (Array.getElem?_eq_some_iff.1 h).1
theorem BR.lt {b : Blk} {c : Emb} (h : BR F ι w0 b c w) : c.blk < w.heap.size := by
 obtain ⟨arr, t, fz, h1, _⟩ := h
 exact lt_of_heap h1
theorem WS.step (hE : Eff F w0 ι ι' H H' W w w') (hS : HS F w0 ι M D H w) (hW : ∀ id, id ∈ W → D id ∧ ∃ b, H[id]? = some b ∧ b.live = true) (h : WS w0 M w) : WS w0 M w' := by
 refine ⟨fun c hc hm => ?_, hE.os.trans h.os, hE.tape.trans h.tape, hE.out.trans h.out, Nat.le_trans h.size hE.size⟩
 rw [hE.frame c (Nat.lt_of_lt_of_le hc h.size) ?_]
 ·exact h.agree c hc hm
 ·intro id e hid he heq
  obtain ⟨hd, b, hb, hl⟩ := hW id hid
  rcases (hS.own id b e hd hb hl he).2 with h1 | h1
  ·rw [heq] at h1
   exact hm h1
  ·omega
theorem HS.step (hE : Eff F w0 ι ι' H H' W w w') (hFS : FS F w0 M) (hsz : w0.heap.size ≤ w.heap.size) (hDl : ∀ id, D id → id < H.length) (hS : HS F w0 ι M D H w) (hW : ∀ id, id ∈ W → D id ∧ ∃ b, H[id]? = some b ∧ b.live = true) :
 HS F w0 ι' M (fun id => D id ∨ (H.length ≤ id ∧ id < H'.length)) H' w' := by
 -- an old block that still lives lived before
 have olive : ∀ id b, D id → H'[id]? = some b → b.live = true → ∃ b0, H[id]? = some b0 ∧ b0.live = true ∧ (id ∉ W → b0 = b) := by
  intro id b hd hb hl
  by_cases hw : id ∈ W
  ·obtain ⟨_, b0, h1, h2⟩ := hW id hw
   exact ⟨b0, h1, h2, fun h => absurd hw h⟩
  ·rw [hE.same id (hDl id hd) hw] at hb
   exact ⟨b, hb, hl, fun _ => rfl⟩
 have oold : ∀ id, D id → ι' id = ι id := fun id hd => hE.old id (Or.inl (hDl id hd))
 have newc : ∀ id c b, H.length ≤ id → id < H'.length → H'[id]? = some b → b.live = true → ι' id = some (some c) → ∀ id2 b2 c2, D id2 → H'[id2]? = some b2 → b2.live = true → ι id2 = some (some c2) → c.blk ≠ c2.blk := by
  intro id c b h1 h2 h3 h4 h5 id2 b2 c2 hd hb2 hl2 hc2 heq
  obtain ⟨b0, g1, g2, _⟩ := olive id2 b2 hd hb2 hl2
  rcases hE.newAt id c h1 h2 h5 with h6 | ⟨k, c', hk, hkc, hkb, hdead⟩
  ·have hlt : c2.blk < w.heap.size := BR.lt (hS.br id2 b0 (some c2) hd g1 g2 hc2)
   omega
  ·obtain ⟨hdk, bk, hbk, hlk⟩ := hW k hk
   have : id2 = k := hS.inj id2 k b0 bk c2 c' hd hdk g1 hbk g2 hlk hc2 hkc (by rw [hkb, heq])
   subst this
   rw [hdead b2 hb2] at hl2
   cases hl2
 refine ⟨?_, ?_, ?_⟩
 ·intro id b e hd hb hl he
  rcases hd with hd | ⟨h1, h2⟩
  ·rw [oold id hd] at he
   by_cases hw : id ∈ W
   ·exact hE.wr id b e hw hb hl he
   ·obtain ⟨b0, g1, g2, g3⟩ := olive id b hd hb hl
    obtain rfl := g3 hw
    have hbr := hS.br id b0 e hd g1 g2 he
    refine hbr.mono hE.le fun c hc => ?_
    subst hc
    refine hE.frame c.blk (BR.lt hbr) fun k e' hk hke heq => ?_
    obtain ⟨hdk, bk, hbk, hlk⟩ := hW k hk
    have := hS.inj k id bk b0 e' c hdk hd hbk g1 hlk g2 hke he heq
    subst this
    exact hw hk
  ·obtain ⟨e', h3, h4⟩ := hE.new id h1 h2
   rw [h3] at he
   obtain rfl := Option.some.inj he
   exact h4 b hb hl
 ·intro id id' b b' c c' hd hd' hb hb' hl hl' hc hc' heq
  rcases hd with hd | ⟨h1, h2⟩
  ·rcases hd' with hd' | ⟨h1', h2'⟩
   ·obtain ⟨b0, g1, g2, _⟩ := olive id b hd hb hl
    obtain ⟨b0', g1', g2', _⟩ := olive id' b' hd' hb' hl'
    rw [oold id hd] at hc
    rw [oold id' hd'] at hc'
    exact hS.inj id id' b0 b0' c c' hd hd' g1 g1' g2 g2' hc hc' heq
   ·rw [oold id hd] at hc
    exact absurd heq.symm (newc id' c' b' h1' h2' hb' hl' hc' id b c hd hb hl hc)
  ·rcases hd' with hd' | ⟨h1', h2'⟩
   ·rw [oold id' hd'] at hc'
    exact absurd heq (newc id c b h1 h2 hb hl hc id' b' c' hd' hb' hl' hc')
   ·exact hE.newInj id id' c c' h1 h2 h1' h2' hc hc' heq
 ·intro id b c hd hb hl hc
  rcases hd with hd | ⟨h1, h2⟩
  ·obtain ⟨b0, g1, g2, _⟩ := olive id b hd hb hl
   rw [oold id hd] at hc
   exact hS.own id b0 c hd g1 g2 hc
  ·rcases hE.newAt id c h1 h2 hc with h6 | ⟨k, c', hk, hkc, hkb, hdead⟩
   ·refine ⟨fun hf => ?_, Or.inr (by omega)⟩
    have := (hFS.1 c.blk hf).1
    omega
   ·obtain ⟨hdk, bk, hbk, hlk⟩ := hW k hk
    rw [← hkb]
    exact hS.own k bk c' hdk hbk hlk hkc
theorem HS.weaken {D' : Nat → Prop} (h : HS F w0 ι M D H w) (hd : ∀ id, D' id → D id) : HS F w0 ι M D' H w :=
 ⟨fun id b e hi => h.br id b e (hd id hi), fun id id' b b' c c' hi hi' => h.inj id id' b b' c c' (hd id hi) (hd id' hi'), fun id b c hi => h.own id b c (hd id hi)⟩
def Sat (P : Program) (f : FuncId) (args : List AV) (h : Heap) (v : AV) (h' : Heap) : Prop :=
 (∀ (as : Array Value) (w : World), (callFunc f as).run P w = .ok (.enter f as) w) ∧
 ∀ (F : Nat → Prop) (ι : Inj) (w : World) (cargs : Array Value),
  (∀ c, F c → c < w.heap.size) → GR F w → (∀ id, id < h.length → ι id ≠ none) → (∀ id, h.length ≤ id → ι id = none) →
  HS F w ι (fun c => ∃ id b e, h[id]? = some b ∧ b.live = true ∧ ι id = some (some e) ∧ e.blk = c) (fun id => id < h.length) h w →
  VRL F ι w args cargs.toList →
  Calls P f cargs w (fun e w' => ∃ cv ι', e = .returned cv ∧ VR F ι' w v cv ∧ Eff F w ι ι' h h' (List.range h.length) w w')
def borB (Hb : Heap) (inv : Nat → Option Nat) (n : Nat) (b : Blk) : Blk := { b with cells := b.cells.map (bor Hb inv n) }
def shB (mm : Nat → Nat) (b : Blk) : Blk := { b with cells := shL mm b.cells }
def idx (m : List Nat) (id : Nat) : Option Nat := m.idxOf? id
def mmap (m : List Nat) (base j : Nat) : Nat := if j < m.length then m.getD j 0 else base + (j - m.length)
def fuel : Nat := 6
def setAll (mm : Nat → Nat) : Heap → List Nat → Heap → Heap
 | H, id :: m, b :: hs => setAll mm (H.set id (shB mm b)) m hs
 | H, _, _ => H
def back (H : Heap) (m : List Nat) (h' : Heap) : Heap := setAll (mmap m H.length) H m h' ++ (h'.drop m.length).map (shB (mmap m H.length))
structure CallOk (P : Program) (f : FuncId) (args : List AV) (H : Heap) (m : List Nat) (v : AV) (h' : Heap) (Hb : Heap) : Prop where
 nodup : m.Nodup
 live : ∀ id, id ∈ m → ∃ b, H[id]? = some b ∧ b.live = true
 sat : Sat P f (args.map (bor Hb (idx m) fuel)) (m.map fun id => borB Hb (idx m) fuel (H.getD id deadBlk)) v h'
 clean : ((∀ (id : Nat) b, Hb[id]? = some b → b.live = true → H[id]? = some b) ∧ noS v = true ∧ ∀ b, b ∈ h' → noSL b.cells = true) ∨ Hb = []
end
section
variable {P : Program} {F : Nat → Prop} {ι ι' : Inj} {w0 w w' : World} {M D : Nat → Prop} {H H' : Heap}
theorem setAll_length (mm : Nat → Nat) : ∀ (m : List Nat) (hs H : Heap), (setAll mm H m hs).length = H.length
 | [], hs, H => by cases hs <;> rfl
 | id :: m, [], H => rfl
 | id :: m, b :: hs, H => by simp [setAll, setAll_length mm m hs]
theorem setAll_other (mm : Nat → Nat) : ∀ (m : List Nat) (hs H : Heap) (k : Nat), k ∉ m → (setAll mm H m hs)[k]? = H[k]?
 | [], hs, H, k, _ => by cases hs <;> rfl
 | id :: m, [], H, k, _ => rfl
 | id :: m, b :: hs, H, k, hk => by
  simp at hk
  simp only [setAll]
  rw [setAll_other mm m hs _ k hk.2, List.getElem?_set_ne (fun e => hk.1 e.symm)]
theorem setAll_at (mm : Nat → Nat) : ∀ (m : List Nat) (hs H : Heap) (j id : Nat) (b : Blk), m.Nodup → m[j]? = some id → hs[j]? = some b → id < H.length → (setAll mm H m hs)[id]? = some (shB mm b)
 | [], hs, H, j, id, b, _, h, _, _ => by simp at h
 | id' :: m, [], H, j, id, b, _, _, h, _ => by simp at h
 | id' :: m, b' :: hs, H, 0, id, b, hn, h1, h2, hl => by
  simp at h1 h2
  subst h1 h2
  simp only [setAll]
  rw [setAll_other mm m hs _ id' (by simpa using (List.nodup_cons.1 hn).1)]
  simp [hl]
 | id' :: m, b' :: hs, H, j + 1, id, b, hn, h1, h2, hl => by
  simp only [setAll]
  exact setAll_at mm m hs _ j id b (List.nodup_cons.1 hn).2 (by simpa using h1) (by simpa using h2) (by simpa using hl)
theorem idx_some {m : List Nat} (hn : m.Nodup) {id j : Nat} (h : idx m id = some j) : m[j]? = some id := by
 unfold idx at h
 have := List.idxOf?_eq_some_iff.1 h
 obtain ⟨h1, h2, _⟩ := this
 rw [List.getElem?_eq_getElem h1]
 simpa using h2
theorem idx_of {m : List Nat} (hn : m.Nodup) {id j : Nat} (h : m[j]? = some id) : idx m id = some j := by
 obtain ⟨hj, he⟩ := List.getElem?_eq_some_iff.1 h
 subst he
 unfold idx
 rw [List.idxOf?_eq_some_iff]
 refine ⟨hj, by simp, fun i hi => ?_⟩
 have := List.pairwise_iff_getElem.1 hn i j (by omega) hj hi
 simpa using this
theorem idx_none {m : List Nat} {id : Nat} (h : idx m id = none) : id ∉ m := by
 unfold idx at h
 simpa using h
theorem mmap_lt {m : List Nat} {base j id : Nat} (h : m[j]? = some id) : mmap m base j = id := by
 obtain ⟨hj, he⟩ := List.getElem?_eq_some_iff.1 h
 unfold mmap
 rw [if_pos hj, List.getD_eq_getElem?_getD, h]
 rfl
theorem mmap_ge {m : List Nat} {base j : Nat} (h : m.length ≤ j) : mmap m base j = base + (j - m.length) := by
 unfold mmap
 rw [if_neg (by omega)]
theorem BR_bor {Fc : Nat → Prop} {ιc : Inj} {wc : World} {Hb : Heap} {inv : Nat → Option Nat} {b : Blk} {c : Emb} {n : Nat} (hf : ∀ x v, VR F ι w0 x v → VR Fc ιc wc (bor Hb inv n x) v) (h : BR F ι w0 b c w) : BR Fc ιc wc (borB Hb inv n b) c w := by
 obtain ⟨arr, t, fz, h1, h2, h4, vs, rest, h5, h6, h7⟩ := h
 exact ⟨arr, t, fz, h1, h2, h4, vs, rest, h5, VRL_map' hf h6, h7⟩
theorem BRo_bor {Fc : Nat → Prop} {ιc : Inj} {wc : World} {Hb : Heap} {inv : Nat → Option Nat} {b : Blk} {e : Option Emb} {n : Nat} (hf : ∀ x v, VR F ι w0 x v → VR Fc ιc wc (bor Hb inv n x) v) (h : BRo F ι w0 b e w) : BRo Fc ιc wc (borB Hb inv n b) e w := by
 cases e with
 | none =>
  have h' : b.cells = [] := h
  show (borB Hb inv n b).cells = []
  simp [borB, h']
 | some c => exact BR_bor hf h
theorem BRo_sh {Fc : Nat → Prop} {ιc : Inj} {wc : World} {b : Blk} {e : Option Emb} {mm : Nat → Nat} (hf : ∀ vs, VRL Fc ιc wc b.cells vs → VRL F ι w0 (shL mm b.cells) vs) (h : BRo Fc ιc wc b e w) : BRo F ι w0 (shB mm b) e w := by
 cases e with
 | none =>
  have h' : b.cells = [] := h
  show shL mm b.cells = []
  rw [h']
  rfl
 | some c =>
  obtain ⟨arr, t, fz, h1, h2, h4, vs, rest, h5, h6, h7⟩ := h
  exact ⟨arr, t, fz, h1, h2, h4, vs, rest, h5, hf vs h6, h7⟩
theorem call_sound {f : FuncId} {args : List AV} {m : List Nat} {v : AV} {h' Hb : Heap} {cargs : Array Value} (hC : CallOk P f args H m v h' Hb) (hFS : FS F w0 M) (hWS : WS w0 M w) (hS : HS F w0 ι M D H w)
 (hDl : ∀ id, D id → id < H.length) (hDc : ∀ id, D id → ι id ≠ none) (hDm : ∀ id, id ∈ m → D id) (hDb : ∀ (id : Nat) b, Hb[id]? = some b → b.live = true → D id)
 (hnew : ∀ id, H.length ≤ id → id < (back H m h').length → ι id = none) (hargs : VRL F ι w0 args cargs.toList) :
 Calls P f cargs w (fun e w' => ∃ cv ι', e = .returned cv ∧ VR F ι' w0 (sh (mmap m H.length) v) cv ∧ Eff F w0 ι ι' H (back H m h') m w w') := by
 obtain ⟨hnd, hlive, hsat, hclean⟩ := hC
 -- what the callee only reads
 obtain ⟨Fc, hFc, hFcb⟩ : ∃ Fc : Nat → Prop, (∀ c, F c → Fc c) ∧ ((∀ c, Fc c → F c) ∧ Hb = [] ∨ ((∀ c, Fc c ↔ F c ∨ ∃ id b e, D id ∧ H[id]? = some b ∧ b.live = true ∧ id ∉ m ∧ ι id = some (some e) ∧ e.blk = c) ∧ (∀ (id : Nat) b, Hb[id]? = some b → b.live = true → H[id]? = some b) ∧ noS v = true ∧ ∀ b, b ∈ h' → noSL b.cells = true)) := by
  rcases hclean with hc | hc
  ·exact ⟨fun c => F c ∨ ∃ id b e, D id ∧ H[id]? = some b ∧ b.live = true ∧ id ∉ m ∧ ι id = some (some e) ∧ e.blk = c, fun c h => Or.inl h, Or.inr ⟨fun c => Iff.rfl, hc⟩⟩
  ·exact ⟨F, fun _ h => h, Or.inl ⟨fun _ h => h, hc⟩⟩
 let ιc : Inj := fun j => match m[j]? with
  | some id => ι id
  | none => none
 have hιc : ∀ j id, m[j]? = some id → ιc j = ι id := by
  intro j id hj
  show (match m[j]? with | some id => ι id | none => none) = ι id
  rw [hj]
 have hιn : ∀ j, m.length ≤ j → ιc j = none := by
  intro j hj
  show (match m[j]? with | some id => ι id | none => none) = none
  rw [List.getElem?_eq_none hj]
 have hag : ∀ c, F c → w.heap[c]? = w0.heap[c]? := fun c hc => hWS.agree c (hFS.1 c hc).1 (hFS.1 c hc).2
 have hbor : ∀ n x u, VR F ι w0 x u → VR Fc ιc w (bor Hb (idx m) n x) u := by
  intro n x u hx
  refine bor_sound hFc hag (fun id j e hi he => ?_) (fun id b e hi hb hl he => ?_) n x u hx
  ·rw [hιc j id (idx_some hnd hi)]; exact he
  ·have hd := hDb id b hb hl
   rcases hFcb with ⟨_, rfl⟩ | ⟨hiff, hsub, _⟩
   ·simp at hb
   ·have hbH := hsub id b hb hl
    refine ⟨(hiff e.blk).2 (Or.inr ⟨id, b, e, hd, hbH, hl, idx_none hi, he, rfl⟩), ?_⟩
    exact BR.cellsAt (hS.br id b (some e) hd hbH hl he)
 -- the callee's blocks
 have hget : ∀ (j : Nat) b, (m.map fun id => borB Hb (idx m) fuel (H.getD id deadBlk))[j]? = some b → ∃ id b0, m[j]? = some id ∧ H[id]? = some b0 ∧ b0.live = true ∧ b = borB Hb (idx m) fuel b0 := by
  intro j b hj
  rw [List.getElem?_map] at hj
  obtain ⟨id, h1, h2⟩ := Option.map_eq_some_iff.1 hj
  obtain ⟨b0, h3, h4⟩ := hlive id (List.mem_of_getElem? h1)
  refine ⟨id, b0, h1, h3, h4, ?_⟩
  rw [← h2, List.getD_eq_getElem?_getD, h3]
  rfl
 have hlen : (m.map fun id => borB Hb (idx m) fuel (H.getD id deadBlk)).length = m.length := by simp
 have hcalls := hsat.2 Fc ιc w cargs ?_ (hFS.2.mono hFc hag) ?_ ?_ ?_ (VRL_map' (hbor fuel) hargs)
 ·refine hcalls.mono ?_
  rintro e w' ⟨cv, ιc', rfl, hv, hE⟩
  rw [hlen] at hE
  have hk : m.length ≤ h'.length := by have := hE.len; rwa [hlen] at this
  have hbl : (back H m h').length = H.length + (h'.length - m.length) := by
   unfold back
   rw [List.length_append, setAll_length, List.length_map, List.length_drop]
  let ι' : Inj := fun id => if id < H.length then ι id else if id < H.length + (h'.length - m.length) then ιc' (id - H.length + m.length) else ι id
  have hι'o : ∀ id, id < H.length → ι' id = ι id := fun id h => by show (if _ then _ else _) = _; rw [if_pos h]
  have hι'n : ∀ id, H.length ≤ id → id < H.length + (h'.length - m.length) → ι' id = ιc' (id - H.length + m.length) := fun id h1 h2 => by
   show (if _ then _ else _) = _
   rw [if_neg (by omega), if_pos h2]
  have hle : Inj.le ι ι' := by
   intro id e he
   by_cases h1 : id < H.length
   ·rw [hι'o id h1]; exact he
   ·by_cases h2 : id < H.length + (h'.length - m.length)
    ·rw [hnew id (by omega) (by rw [hbl]; exact h2)] at he
     cases he
    ·show (if _ then _ else _) = _
     rw [if_neg h1, if_neg h2]
     exact he
  have hmm : ∀ j e, ιc' j = some e → ι' (mmap m H.length j) = some e := by
   intro j e he
   by_cases hj : j < m.length
   ·have h1 : m[j]? = some m[j] := List.getElem?_eq_getElem hj
    rw [mmap_lt h1]
    have h2 : ιc' j = ιc j := hE.old j (Or.inl (by rw [hlen]; exact hj))
    rw [hι'o _ (hDl _ (hDm _ (List.getElem_mem hj))), ← hιc j _ h1, ← h2]
    exact he
   ·rw [mmap_ge (by omega)]
    by_cases hj2 : j < h'.length
    ·rw [hι'n _ (by omega) (by omega)]
     rw [show H.length + (j - m.length) - H.length + m.length = j by omega]
     exact he
    ·have h2 : ιc' j = ιc j := hE.old j (Or.inr (by omega))
     rw [h2, hιn j (by omega)] at he
     cases he
  -- what comes back
  have hshv : VR F ι' w0 (sh (mmap m H.length) v) cv := by
   rcases hFcb with ⟨hF2, _⟩ | ⟨_, _, hns, _⟩
   ·exact sh_sound hmm (fun c hc => ⟨hF2 c hc, (hag c (hF2 c hc)).symm⟩) v cv hv
   ·exact sh_sound (Fc := F) (wc := w0) hmm (fun c hc => ⟨hc, rfl⟩) v cv (noS_any v cv hns hv)
  have hshb : ∀ (j : Nat) b, h'[j]? = some b → ∀ vs, VRL Fc ιc' w b.cells vs → VRL F ι' w0 (shL (mmap m H.length) b.cells) vs := by
   intro j b hb vs hvs
   rcases hFcb with ⟨hF2, _⟩ | ⟨_, _, _, hns⟩
   ·exact shL_sound hmm (fun c hc => ⟨hF2 c hc, (hag c (hF2 c hc)).symm⟩) b.cells vs hvs
   ·exact shL_sound (Fc := F) (wc := w0) hmm (fun c hc => ⟨hc, rfl⟩) b.cells vs (noSL_any b.cells vs (hns b (List.mem_of_getElem? hb)) hvs)
  have hbn : ∀ id, H.length ≤ id → (back H m h')[id]? = (h'[id - H.length + m.length]?).map (shB (mmap m H.length)) := by
   intro id h1
   unfold back
   rw [List.getElem?_append_right (by rw [setAll_length]; exact h1), setAll_length, List.getElem?_map, List.getElem?_drop]
   congr 2
   omega
  have hbo : ∀ id, id < H.length → (back H m h')[id]? = (setAll (mmap m H.length) H m h')[id]? := by
   intro id h1
   unfold back
   rw [List.getElem?_append_left (by rw [setAll_length]; exact h1)]
  refine ⟨cv, ι', rfl, hshv, ?_⟩
  refine ⟨by rw [hbl]; omega, hle, ?_, ?_, ?_, ?_, ?_, ?_, ?_, hE.os, hE.tape, hE.out, hE.size⟩
  ·intro id h
   rw [hbl] at h
   rcases h with h | h
   ·exact hι'o id h
   ·show (if _ then _ else _) = _
    rw [if_neg (by omega), if_neg (by omega)]
  ·intro id h1 h2
   rw [hbl] at h2
   obtain ⟨e, h3, h4⟩ := hE.new (id - H.length + m.length) (by rw [hlen]; omega) (by omega)
   refine ⟨e, by rw [hι'n id h1 h2]; exact h3, fun b hb hl => ?_⟩
   rw [hbn id h1] at hb
   obtain ⟨b0, h5, h6⟩ := Option.map_eq_some_iff.1 hb
   subst h6
   exact BRo_sh (hshb _ b0 h5) (h4 b0 h5 hl)
  ·intro id c h1 h2 h3
   rw [hbl] at h2
   rw [hι'n id h1 h2] at h3
   rcases hE.newAt (id - H.length + m.length) c (by rw [hlen]; omega) (by omega) h3 with h4 | ⟨k, c', hk, hkc, hkb, hdead⟩
   ·exact Or.inl h4
   ·rw [List.mem_range] at hk
    have hmk : m[k]? = some m[k] := List.getElem?_eq_getElem hk
    refine Or.inr ⟨m[k], c', List.getElem_mem hk, by rw [← hιc k _ hmk]; exact hkc, hkb, fun b hb => ?_⟩
    have hlk := hDl _ (hDm _ (List.getElem_mem hk))
    have hk' : k < h'.length := by omega
    rw [hbo _ hlk, setAll_at _ m h' H k m[k] h'[k] hnd hmk (List.getElem?_eq_getElem hk') hlk] at hb
    obtain rfl := Option.some.inj hb
    exact hdead h'[k] (List.getElem?_eq_getElem hk')
  ·intro id id' c c' h1 h2 h3 h4 h5 h6 h7
   rw [hbl] at h2 h4
   rw [hι'n id h1 h2] at h5
   rw [hι'n id' h3 h4] at h6
   have := hE.newInj _ _ c c' (by rw [hlen]; omega) (by omega) (by rw [hlen]; omega) (by omega) h5 h6 h7
   omega
  ·intro id b e hid hb hl he
   obtain ⟨k, hk⟩ := List.getElem?_of_mem hid
   have hkl : k < m.length := (List.getElem?_eq_some_iff.1 hk).1
   have hk' : k < h'.length := by omega
   have hlk := hDl _ (hDm _ hid)
   rw [hbo _ hlk, setAll_at _ m h' H k id h'[k] hnd hk (List.getElem?_eq_getElem hk') hlk] at hb
   obtain rfl := Option.some.inj hb
   exact BRo_sh (hshb k _ (List.getElem?_eq_getElem hk')) (hE.wr k h'[k] e (by simpa using hkl) (List.getElem?_eq_getElem hk') hl (by rw [hιc k id hk]; exact he))
  ·intro id h1 h2
   rw [hbo id h1, setAll_other _ m h' H id h2]
  ·intro c hc hno
   refine hE.frame c hc fun k e hk hke => ?_
   rw [List.mem_range] at hk
   have hmk : m[k]? = some m[k] := List.getElem?_eq_getElem hk
   rw [hιc k _ hmk] at hke
   exact hno m[k] e (List.getElem_mem hk) hke
 ·intro c hc
  rcases hFcb with ⟨hF2, _⟩ | ⟨hiff, _⟩
  ·exact Nat.lt_of_lt_of_le (hFS.1 c (hF2 c hc)).1 hWS.size
  ·rcases (hiff c).1 hc with h1 | ⟨id, b, e, hd, hb, hl, _, he, rfl⟩
   ·exact Nat.lt_of_lt_of_le (hFS.1 c h1).1 hWS.size
   ·exact BR.lt (hS.br id b (some e) hd hb hl he)
 ·intro j hj
  rw [hlen] at hj
  have hmj : m[j]? = some m[j] := List.getElem?_eq_getElem hj
  rw [hιc j _ hmj]
  exact hDc _ (hDm _ (List.getElem_mem hj))
 ·intro j hj
  rw [hlen] at hj
  exact hιn j hj
 ·refine ⟨?_, ?_, ?_⟩
  ·intro j b e _ hb hl he
   obtain ⟨id, b0, h1, h2, h3, rfl⟩ := hget j b hb
   rw [hιc j id h1] at he
   exact BRo_bor (hbor fuel) (hS.br id b0 e (hDm id (List.mem_of_getElem? h1)) h2 h3 he)
  ·intro j j' b b' c c' _ _ hb hb' _ _ hc hc' heq
   obtain ⟨id, b0, h1, h2, h3, rfl⟩ := hget j b hb
   obtain ⟨id', b0', h1', h2', h3', rfl⟩ := hget j' b' hb'
   rw [hιc j id h1] at hc
   rw [hιc j' id' h1'] at hc'
   have := hS.inj id id' b0 b0' c c' (hDm id (List.mem_of_getElem? h1)) (hDm id' (List.mem_of_getElem? h1')) h2 h2' h3 h3' hc hc' heq
   subst this
   have h4 := idx_of hnd h1
   rw [idx_of hnd h1'] at h4
   exact (Option.some.inj h4).symm
  ·intro j b c _ hb hl hc
   obtain ⟨id, b0, h1, h2, h3, rfl⟩ := hget j b hb
   have hc0 := hc
   rw [hιc j id h1] at hc
   have hd := hDm id (List.mem_of_getElem? h1)
   refine ⟨fun hf => ?_, Or.inl ⟨j, _, c, hb, h3, hc0, rfl⟩⟩
   have hnf := (hS.own id b0 c hd h2 h3 hc).1
   rcases hFcb with ⟨hF2, _⟩ | ⟨hiff, _⟩
   ·exact hnf (hF2 _ hf)
   ·rcases (hiff _).1 hf with h4 | ⟨id2, b2, e2, hd2, hb2, hl2, hm2, he2, heq⟩
    ·exact hnf h4
    ·have := hS.inj id2 id b2 b0 e2 c hd2 hd hb2 h2 hl2 h3 he2 hc heq
     subst this
     exact hm2 (List.mem_of_getElem? h1)
end
def upd (ρ : Env) (t : Nat) (v : AV) : Env := fun i => if i = t then v else ρ i
def updO (ρ : Env) (dst : Option Tmp) (v : AV) : Env := match dst with
 | some d => upd ρ d v
 | none => ρ
def goCall : Op → Option (Operand × List Operand)
 | .call c => match c.callee with
  | .value f => some (f, c.args.toList)
  | _ => none
 | _ => none
def aguard (ops : Array Oper) (ρ : Env) (o : Oper) : Option Bool := match o.guard with
 | none => some true
 | some (j, want) => match (ops[j]?).bind (·.dst) with
  | some t => match ρ t with
   | .bool b => some (b == want)
   | .tuple xs => match xs with
    | [] => some false
    | _ => none
   | _ => none
  | none => none
def callK (P : Program) (f : AV) (args : List AV) (H : Heap) (K : AV → Heap → Prop) : Prop :=
 match f with
 | .func f first cap => ∃ m v h' Hb, CallOk P f (first ++ args ++ cap) H m v h' Hb ∧ K (sh (mmap m H.length) v) (back H m h')
 | _ => False
def opK (P : Program) (ρ : Env) (H : Heap) (o : Oper) (K : Env → Heap → Prop) : Prop :=
 match goCall o.op with
 | some (f, args) => callK P (aeval ρ f) (args.map (aeval ρ)) H fun v H' => K (updO ρ o.dst v) H'
 | none => match aop P (aeval ρ) H o.op with
  | some (x, e) => K (updO ρ o.dst x) (e.app H)
  | none => False
def awpOps (P : Program) (ops : Array Oper) (K : Env → Heap → Prop) : List Oper → Env → Heap → Prop
 | [], ρ, H => K ρ H
 | o :: rest, ρ, H => match aguard ops ρ o with
  | some b => if b = true then opK P ρ H o (awpOps P ops K rest) else awpOps P ops K rest (updO ρ o.dst (.tuple [])) H
  | none => False
structure Foot where
 n0 : Nat
 n1 : Nat
 W : List Nat
 R : List Nat
def liveIds (Hb : Heap) : List Nat := (List.range Hb.length).filter fun id => match Hb[id]? with
 | some b => b.live
 | none => false
def uOf (o : Oper) (A : List Nat) : Nat := (o.after.toList.filter (Region.binds .any)).foldl (fun s e => s ||| 2 ^ e.on ||| A.getD e.on 0) 0
def clashB (ops : Array Oper) (fs : List Foot) (i j : Nat) : Bool := match ops[i]?, ops[j]?, fs[i]?, fs[j]? with
 | some oi, some oj, some fi, some fj => !(oi.apart ops oj) || fj.R.any (fun r => fi.W.contains r || (decide (fi.n0 ≤ r) && decide (r < fi.n1))) || fj.W.any (fun r => fi.R.contains r)
 | _, _, _, _ => false
def dOk (ops : Array Oper) (fs : List Foot) (A : List Nat) : Bool := (List.range ops.size).all fun j => (match ops[j]? with
 | some o => (o.after.toList.all fun e => !(Region.binds .any e) || decide (e.on < j)) && (A.getD j 0 ||| uOf o A == uOf o A)
 | none => true) && (List.range j).all fun i => (A.getD j 0).testBit i || !(clashB ops fs i j)
def awpD (P : Program) (ops : Array Oper) (K : Env → Heap → Prop) : List Oper → List Foot → Env → Heap → Prop
 | [], acc, ρ, H => (∃ A, dOk ops acc.reverse A = true) ∧ K ρ H
 | o :: rest, acc, ρ, H => match aguard ops ρ o with
  | none => False
  | some false => awpD P ops K rest (⟨H.length, H.length, [], []⟩ :: acc) (updO ρ o.dst (.tuple [])) H
  | some true => match goCall o.op with
   | some (f, args) => match aeval ρ f with
    | .func g first cap => ∃ m v h' Hb, CallOk P g (first ++ args.map (aeval ρ) ++ cap) H m v h' Hb ∧
     awpD P ops K rest (⟨H.length, (back H m h').length, m, m ++ liveIds Hb⟩ :: acc) (updO ρ o.dst (sh (mmap m H.length) v)) (back H m h')
    | _ => False
   | none => match aop P (aeval ρ) H o.op with
    | some (x, e) => awpD P ops K rest (⟨H.length, (e.app H).length, e.wr, (afoot (aeval ρ) o.op ++ e.wr).filter (· < H.length)⟩ :: acc) (updO ρ o.dst x) (e.app H)
    | none => False
def gcE (m : List Nat) (ρ : Env) : Env := fun t => bor [] (idx m) fuel (ρ t)
def gcH (m : List Nat) (H : Heap) : Heap := m.map fun id => borB [] (idx m) fuel (H.getD id deadBlk)
def GcOk (k : Nat) (m : List Nat) (H : Heap) : Prop := m.Nodup ∧ (∀ j, j < k → m[j]? = some j) ∧ ∀ id, id ∈ m → id < H.length
structure St (F : Nat → Prop) (w0 : World) (M : Nat → Prop) (k : Nat) (ι0 : Inj) (n : Nat) (ι : Inj) (ρ : Env) (H : Heap) (a : Act) (w : World) : Prop where
 defers : a.defers = []
 size : a.tmps.size = n
 env : ∀ t, VR F ι w0 (ρ t) (a.tmps.getD t undef)
 hs : HS F w0 ι M (fun id => id < H.length) H w
 cr : ∀ id, id < H.length → ι id ≠ none
 nw : ∀ id, H.length ≤ id → ι id = none
 ws : WS w0 M w
 par : ∀ id, id < k → ι id = ι0 id
 kle : k ≤ H.length
def Wk (k : Nat) (ρ : Env) (H : Heap) (ρ' : Env) (H' : Heap) : Prop :=
 ∀ (F : Nat → Prop) (w0 : World) (M : Nat → Prop) (ι0 : Inj) (n : Nat) (ι : Inj) (a : Act) (w : World), FS F w0 M → St F w0 M k ι0 n ι ρ H a w → ∃ ι', St F w0 M k ι0 n ι' ρ' H' a w
theorem Wk.refl {k : Nat} {ρ : Env} {H : Heap} : Wk k ρ H ρ H := fun _ _ _ _ _ ι _ _ _ h => ⟨ι, h⟩
theorem Wk.trans {k : Nat} {ρ ρ' ρ'' : Env} {H H' H'' : Heap} (h : Wk k ρ H ρ' H') (h' : Wk k ρ' H' ρ'' H'') : Wk k ρ H ρ'' H'' := fun F w0 M ι0 n ι a w hF hs => by
 obtain ⟨ι1, h1⟩ := h F w0 M ι0 n ι a w hF hs
 exact h' F w0 M ι0 n ι1 a w hF h1
def wkQ (k : Nat) (Q : Env → Heap → Prop) (ρ : Env) (H : Heap) : Prop := ∃ ρ' H', Wk k ρ H ρ' H' ∧ Q ρ' H'
theorem wkQ.mk {k : Nat} {Q : Env → Heap → Prop} {ρ : Env} {H : Heap} (h : Q ρ H) : wkQ k Q ρ H := ⟨ρ, H, .refl, h⟩
theorem wkQ.mono {k : Nat} {Q Q' : Env → Heap → Prop} {ρ : Env} {H : Heap} (h : wkQ k Q ρ H) (hQ : ∀ ρ H, Q ρ H → Q' ρ H) : wkQ k Q' ρ H := by
 obtain ⟨ρ', H', h1, h2⟩ := h
 exact ⟨ρ', H', h1, hQ _ _ h2⟩
def awp (P : Program) (k : Nat) : Code → (Exit → Env → Heap → Prop) → Env → Heap → Prop
 | .skip, Q => fun ρ H => Q .normal ρ H
 | .region _ ops draw, Q => fun ρ H => if draw = true then P.follows .mixedOrders = true ∧ awpD P ops (Q .normal) ops.toList [] ρ H else awpOps P ops (Q .normal) ops.toList ρ H
 | .seq a b, Q => awp P k a fun e ρ H => match e with
  | .normal => wkQ k (awp P k b Q) ρ H
  | e => Q e ρ H
 | .cond c a b, Q => fun ρ H => match aeval ρ c with
  | .bool t => if t = true then awp P k a Q ρ H else awp P k b Q ρ H
  | _ => False
 | .block id c, Q => awp P k c fun e ρ H => match e with
  | .exit i => if i = id then Q .normal ρ H else Q (.exit i) ρ H
  | e => Q e ρ H
 | .loop c, Q => fun ρ H => ∀ I : Env → Heap → Prop, (∀ ρ H, awp P k c (fun e ρ1 H1 => match e with
  | .normal => wkQ k I ρ1 H1
  | e => Q e ρ1 H1) ρ H → I ρ H) → I ρ H
 | .exit i, Q => fun ρ H => Q (.exit i) ρ H
 | .ret, Q => fun ρ H => Q .ret ρ H
 | _, _ => fun _ _ => False
def dstsOk (n : Nat) : Code → Bool
 | .region _ ops _ => ops.toList.all fun o => match o.dst with
  | some d => decide (d < n)
  | none => true
 | .seq a b => dstsOk n a && dstsOk n b
 | .cond _ a b => dstsOk n a && dstsOk n b
 | .block _ c => dstsOk n c
 | .loop c => dstsOk n c
 | _ => true
section
variable {P : Program} {F : Nat → Prop} {ι ι' ι0 : Inj} {w0 w w' : World} {M D : Nat → Prop} {H H' : Heap} {k n : Nat} {ρ : Env} {a : Act}
theorem St.aeval (hFS : FS F w0 M) (h : St F w0 M k ι0 n ι ρ H a w) (y : Operand) : VR F ι w0 (aeval ρ y) (a.eval y) := by
 cases y with
 | tmp t => exact h.env t
 | const v => exact VR_ofV v
 | global g => simp [AM.aeval, VR]
 | func f => simp [AM.aeval, VR, Act.eval, VRL]
theorem env_put {dst : Option Tmp} {x : AV} {v : Value} (h : ∀ t, VR F ι w0 (ρ t) (a.tmps.getD t undef)) (hx : VR F ι w0 x v) (hd : ∀ d, dst = some d → d < a.tmps.size) : ∀ t, VR F ι w0 (updO ρ dst x t) ((a.put dst v).tmps.getD t undef) := by
 intro t
 cases dst with
 | none => exact h t
 | some d =>
  have hd := hd d rfl
  simp only [updO, upd, Act.put]
  by_cases ht : t = d
  ·subst ht
   simpa [Array.getD, hd] using hx
  ·rw [if_neg ht]
   have := h t
   rw [Array.getD_eq_getD_getElem?] at this ⊢
   rw [Array.getElem?_setIfInBounds_ne (fun e => ht e.symm)]
   exact this
theorem St.step {W : List Nat} {dst : Option Tmp} {x : AV} {v : Value} (hFS : FS F w0 M) (h : St F w0 M k ι0 n ι ρ H a w) (hE : Eff F w0 ι ι' H H' W w w') (hW : ∀ id, id ∈ W → ∃ b, H[id]? = some b ∧ b.live = true) (hx : VR F ι' w0 x v) (hd : ∀ d, dst = some d → d < n) :
 St F w0 M k ι0 n ι' (updO ρ dst x) H' (a.put dst v) w' := by
 have hW' : ∀ id, id ∈ W → id < H.length ∧ ∃ b, H[id]? = some b ∧ b.live = true := fun id hi => ⟨by
  obtain ⟨b, hb, _⟩ := hW id hi
  exact (List.getElem?_eq_some_iff.1 hb).1, hW id hi⟩
 refine ⟨?_, ?_, ?_, ?_, ?_, ?_, h.ws.step hE h.hs hW', ?_, Nat.le_trans h.kle hE.len⟩
 ·cases dst <;> exact h.defers
 ·cases dst with
  | none => exact h.size
  | some d => simp [Act.put, h.size]
 ·exact env_put (fun t => VR.mono (fun _ h => h) hE.le (fun _ _ => rfl) _ (h.env t)) hx (by rw [h.size]; exact hd)
 ·refine (HS.step hE hFS h.ws.size (fun _ h => h) h.hs hW').weaken fun id hi => ?_
  by_cases hlt : id < H.length
  ·exact Or.inl hlt
  ·exact Or.inr ⟨by omega, hi⟩
 ·intro id hi
  by_cases hlt : id < H.length
  ·rw [hE.old id (Or.inl hlt)]
   exact h.cr id hlt
  ·obtain ⟨e, he, _⟩ := hE.new id (by omega) hi
   rw [he]
   simp
 ·intro id hi
  rw [hE.old id (Or.inr hi)]
  exact h.nw id (Nat.le_trans hE.len hi)
 ·intro id hi
  rw [hE.old id (Or.inl (Nat.lt_of_lt_of_le hi h.kle))]
  exact h.par id hi
theorem St.putUndef {dst : Option Tmp} (h : St F w0 M k ι0 n ι ρ H a w) (hd : ∀ d, dst = some d → d < n) : St F w0 M k ι0 n ι (updO ρ dst (.tuple [])) H (a.put dst undef) w := by
 refine ⟨?_, ?_, ?_, h.hs, h.cr, h.nw, h.ws, h.par, h.kle⟩
 ·cases dst <;> exact h.defers
 ·cases dst with
  | none => exact h.size
  | some d => simp [Act.put, h.size]
 ·exact env_put h.env (by simp [VR, VRL, undef]) (by rw [h.size]; exact hd)
theorem wanted_of {ops : Array Oper} {o : Oper} {b : Bool} (hg : aguard ops ρ o = some b) (h : ∀ t, VR F ι w0 (ρ t) (a.tmps.getD t undef)) : Region.wanted o (yielded ops a.tmps) = b := by
 unfold aguard at hg
 unfold Region.wanted
 split at hg
 ·rename_i hgd
  rw [hgd]
  obtain rfl := Option.some.inj hg
  rfl
 ·rename_i j want hgd
  rw [hgd]
  simp only
  split at hg
  ·rename_i t ht
   split at hg
   ·rename_i c hc
    obtain rfl := Option.some.inj hg
    have := h t
    rw [hc] at this
    have hv := VR_bool this
    have hy : yielded ops a.tmps j = some c := by
     unfold yielded
     rw [ht]
     have hlt : t < a.tmps.size := by
      by_cases hlt : t < a.tmps.size
      ·exact hlt
      ·rw [Array.getD, dif_neg hlt] at hv
       cases hv
     have h2 : a.tmps[t]? = some (.bool c) := by
      rw [Array.getD, dif_pos hlt] at hv
      rw [Array.getElem?_eq_getElem hlt]
      exact congrArg some hv
     simp [h2]
    rw [hy]
    cases c <;> cases want <;> rfl
   ·rename_i xs hc
    split at hg
    case h_2 => cases hg
    obtain rfl := Option.some.inj hg
    have := h t
    rw [hc] at this
    simp only [VR, VRL] at this
    obtain ⟨us, hv, hus⟩ := this
    have hy : yielded ops a.tmps j = none := by
     unfold yielded
     rw [ht]
     simp only [Option.bind_some]
     split
     ·rename_i b hb
      rw [Array.getD_eq_getD_getElem?, hb] at hv
      simp at hv
     ·rfl
    rw [hy]
    cases want <;> rfl
   ·cases hg
  ·cases hg
theorem aStore_wr {t : TypeId} {x y : AV} {e : AEff} (h : aStore P H t x y = some e) : ∀ id, id ∈ e.wr → ∃ b, H[id]? = some b ∧ b.live = true := by
 unfold aStore at h
 split at h
 case h_2 => cases h
 split at h
 case h_2 => cases h
 rename_i b cs n hb _ _
 split at h
 case isFalse => cases h
 rename_i hc
 obtain rfl := Option.some.inj h
 intro id hid
 simp [AEff.wr] at hid
 subst hid
 exact ⟨b, hb, hc.1⟩
theorem aClear_wr {t : TypeId} {x : AV} {e : AEff} (h : aClear P H t x = some e) : ∀ id, id ∈ e.wr → ∃ b, H[id]? = some b ∧ b.live = true := by
 unfold aClear at h
 split at h
 ·cases h
 split at h
 case h_2 => cases h
 split at h
 ·cases h
 split at h
 case h_2 => cases h
 try simp only at h
 split at h
 ·cases h
 rename_i b hb
 split at h
 case isFalse => cases h
 rename_i hc
 obtain rfl := Option.some.inj h
 intro id hid
 simp [AEff.wr] at hid
 subst hid
 exact ⟨b, hb, hc.1⟩
theorem aCopy_wr {t t' : TypeId} {s x y : AV} {e : AEff} (h : aCopy P H t t' s x = some (y, e)) : ∀ id, id ∈ e.wr → ∃ b, H[id]? = some b ∧ b.live = true := by
 unfold aCopy at h
 split at h
 ·cases h
 split at h
 case h_2 => cases h
 split at h
 ·cases h
 split at h
 ·cases h
 split at h
 case h_2 => cases h
 try simp only at h
 split at h
 ·cases h
 rename_i b hb
 split at h
 case isFalse => cases h
 rename_i hc
 obtain ⟨_, rfl⟩ := Prod.mk.inj (Option.some.inj h)
 intro id hid
 simp [AEff.wr] at hid
 subst hid
 exact ⟨b, hb, hc.1⟩
theorem aAppend_wr {t t' : TypeId} {s x y : AV} {e : AEff} (h : aAppend P H t t' s x = some (y, e)) : ∀ id, id ∈ e.wr → ∃ b, H[id]? = some b ∧ b.live = true := by
 unfold aAppend at h
 split at h
 ·cases h
 split at h
 case h_2 => cases h
 split at h
 ·cases h
 split at h
 ·cases h
 split at h
 ·split at h
  ·obtain ⟨_, rfl⟩ := Prod.mk.inj (Option.some.inj h)
   intro id hid
   simp [AEff.wr] at hid
  ·cases h
 ·split at h
  ·obtain ⟨_, rfl⟩ := Prod.mk.inj (Option.some.inj h)
   intro id hid
   simp [AEff.wr] at hid
  ·cases h
 ·split at h
  ·cases h
  rename_i b hb
  split at h
  case isFalse => cases h
  rename_i hc
  split at h
  ·obtain ⟨_, rfl⟩ := Prod.mk.inj (Option.some.inj h)
   intro id hid
   simp [AEff.wr] at hid
   subst hid
   exact ⟨b, hb, hc.1⟩
  ·obtain ⟨_, rfl⟩ := Prod.mk.inj (Option.some.inj h)
   intro id hid
   simp [AEff.wr] at hid
   subst hid
   exact ⟨b, hb, hc.1⟩
 ·cases h
theorem aAppMake_wr {t t' : TypeId} {s x y : AV} {e : AEff} (h : aAppMake P H t t' s x = some (y, e)) : e.wr = [] := by
 unfold aAppMake at h
 split at h
 case h_2 => cases h
 split at h
 case h_2 => cases h
 split at h
 case h_2 => cases h
 split at h
 case isFalse => cases h
 obtain ⟨_, rfl⟩ := Prod.mk.inj (Option.some.inj h)
 rfl
theorem aMake_wr {t : TypeId} {l c y : AV} {e : AEff} (h : aMake P H t l c = some (y, e)) : e.wr = [] := by
 unfold aMake at h
 split at h
 ·cases h
 split at h
 case h_2 => cases h
 split at h
 case h_2 => cases h
 split at h
 case isFalse => cases h
 obtain ⟨_, rfl⟩ := Prod.mk.inj (Option.some.inj h)
 rfl
theorem aop_wr {op : Op} {x : AV} {e : AEff} {f : Operand → AV} (h : aop P f H op = some (x, e)) : ∀ id, id ∈ e.wr → ∃ b, H[id]? = some b ∧ b.live = true := by
 have nil : e.wr = [] → ∀ id, id ∈ e.wr → ∃ b, H[id]? = some b ∧ b.live = true := fun h id hid => by rw [h] at hid; simp at hid
 have map : ∀ {o : Option AV}, (o.map fun v => (v, AEff.nil)) = some (x, e) → e.wr = [] := by
  intro o h
  obtain ⟨_, _, h2⟩ := Option.map_eq_some_iff.1 h
  obtain ⟨_, rfl⟩ := Prod.mk.inj h2
  rfl
 cases op with
 | store t y z =>
  simp only [aop] at h
  obtain ⟨e', h1, h2⟩ := Option.map_eq_some_iff.1 h
  obtain ⟨_, rfl⟩ := Prod.mk.inj h2
  exact aStore_wr h1
 | makeSlice t l c => exact nil (aMake_wr h)
 | call c =>
  simp only [aop] at h
  split at h
  ·rename_i b hb
   unfold aBuiltin at h
   split at h
   ·split at h
    ·exact nil (map h)
    ·cases h
   ·split at h
    ·exact nil (map h)
    ·cases h
   ·split at h
    ·split at h
     ·exact aAppend_wr h
     ·exact nil (aAppMake_wr h)
    ·cases h
   ·split at h
    ·exact aCopy_wr h
    ·cases h
   ·split at h
    ·obtain ⟨e', h1, h2⟩ := Option.map_eq_some_iff.1 h
     obtain ⟨_, rfl⟩ := Prod.mk.inj h2
     exact aClear_wr h1
    ·cases h
   ·split at h
    ·split at h
     ·obtain ⟨_, rfl⟩ := Prod.mk.inj (Option.some.inj h)
      exact nil rfl
     ·cases h
    ·cases h
   ·split at h
    ·split at h
     ·obtain ⟨_, rfl⟩ := Prod.mk.inj (Option.some.inj h)
      exact nil rfl
     ·cases h
    ·cases h
   ·cases h
  ·cases h
 | makeFunc g first cap =>
  refine nil ?_
  cases g <;> simp only [aop, Option.some.injEq, Prod.mk.injEq, reduceCtorEq] at h
  obtain ⟨_, rfl⟩ := h
  rfl
 | load t y => exact nil (map h)
 | unOp o t y => exact nil (map h)
 | slice t y lo hi mx => exact nil (map h)
 | fieldAddr s y f => exact nil (map h)
 | field s y f => exact nil (map h)
 | indexAddr t y i => exact nil (map h)
 | index t y i => exact nil (map h)
 | binOp o t y z t' =>
  simp only [aop] at h
  split at h
  ·exact nil (map h)
  ·cases h
 | extract y i =>
  simp only [aop] at h
  split at h
  ·exact nil (map h)
  ·cases h
 | move y =>
  simp only [aop, Option.some.injEq, Prod.mk.injEq] at h
  obtain ⟨_, rfl⟩ := h
  exact nil rfl
 | assign y =>
  simp only [aop, Option.some.injEq, Prod.mk.injEq] at h
  obtain ⟨_, rfl⟩ := h
  exact nil rfl
 | pick c y z =>
  simp only [aop] at h
  split at h
  ·obtain ⟨_, rfl⟩ := Prod.mk.inj (Option.some.inj h)
   exact nil rfl
  ·cases h
 | nilCheck y =>
  simp only [aop] at h
  split at h
  ·obtain ⟨_, rfl⟩ := Prod.mk.inj (Option.some.inj h)
   exact nil rfl
  ·obtain ⟨_, rfl⟩ := Prod.mk.inj (Option.some.inj h)
   exact nil rfl
  ·cases h
 | alloc t =>
  simp only [aop] at h
  split at h
  ·split at h
   ·obtain ⟨_, rfl⟩ := Prod.mk.inj (Option.some.inj h)
    exact nil rfl
   ·cases h
  ·cases h
 | box t y =>
  simp only [aop] at h
  split at h
  ·obtain ⟨_, rfl⟩ := Prod.mk.inj (Option.some.inj h)
   exact nil rfl
  ·cases h
 | build t ps =>
  simp only [aop] at h
  split at h
  ·split at h
   ·obtain ⟨_, rfl⟩ := Prod.mk.inj (Option.some.inj h)
    exact nil rfl
   ·cases h
  ·cases h
 | buildSlice t m ps =>
  simp only [aop] at h
  split at h
  ·split at h
   ·obtain ⟨_, rfl⟩ := Prod.mk.inj (Option.some.inj h)
    exact nil rfl
   ·split at h
    ·split at h
     ·obtain ⟨_, rfl⟩ := Prod.mk.inj (Option.some.inj h)
      exact nil rfl
     ·cases h
    ·cases h
  ·cases h
 | convert s d y =>
  simp only [aop] at h
  split at h
  ·unfold aSelf at h
   split at h
   case h_2 => cases h
   split at h
   case h_2 => cases h
   rename_i b _ hb
   split at h
   case isFalse => cases h
   rename_i hc
   obtain ⟨_, rfl⟩ := Prod.mk.inj (Option.some.inj h)
   intro id hid
   simp [AEff.wr] at hid
   subst hid
   exact ⟨b, hb, hc.1⟩
  split at h
  ·split at h
   ·obtain ⟨_, rfl⟩ := Prod.mk.inj (Option.some.inj h)
    exact nil rfl
   ·cases h
  ·split at h
   ·split at h
    ·obtain ⟨_, rfl⟩ := Prod.mk.inj (Option.some.inj h)
     exact nil rfl
    ·cases h
   ·cases h
  ·split at h
   ·split at h
    ·obtain ⟨_, rfl⟩ := Prod.mk.inj (Option.some.inj h)
     exact nil rfl
    ·cases h
   ·cases h
 | _ => simp [aop] at h
theorem opK_sound {o : Oper} {K : Env → Heap → Prop} {KC : Act → World → Prop} {Q : Exit → Act → World → Prop} (hFS : FS F w0 M) (h : St F w0 M k ι0 n ι ρ H a w) (hd : ∀ d, o.dst = some d → d < n) (hop : opK P ρ H o K)
 (hK : ∀ ρ' H' ι' a' w', K ρ' H' → St F w0 M k ι0 n ι' ρ' H' a' w' → KC a' w') : o.wp P a w KC Q := by
 unfold opK at hop
 cases hg : goCall o.op with
 | some fa =>
  obtain ⟨f, args⟩ := fa
  rw [hg] at hop
  simp only at hop
  unfold callK at hop
  split at hop
  case h_2 => exact hop.elim
  rename_i g first cap hf
  obtain ⟨m, v, h', Hb, hC, hKv⟩ := hop
  obtain ⟨dst, op, ty, pos, after, guard⟩ := o
  simp only at hg hd hKv
  have hcall : ∃ ts : Array TypeId, op = .call ⟨.value f, ⟨args⟩, ts⟩ := by
   cases op with
   | call c =>
    obtain ⟨callee, as, ts⟩ := c
    cases callee with
    | value f' =>
     simp only [goCall, Option.some.injEq, Prod.mk.injEq] at hg
     obtain ⟨rfl, rfl⟩ := hg
     exact ⟨ts, rfl⟩
    | _ => simp [goCall] at hg
   | _ => simp [goCall] at hg
  obtain ⟨ts, rfl⟩ := hcall
  have hfv := h.aeval hFS f
  rw [hf] at hfv
  simp only [VR] at hfv
  obtain ⟨fs, cs, h1, h2, h3⟩ := hfv
  have hargs : VRL F ι w0 (first ++ args.map (AM.aeval ρ) ++ cap) (fs ++ (⟨args⟩ : Array Operand).map a.eval ++ cs).toList := by
   simp only [Array.toList_append, Array.toList_map]
   exact (h2.append (VRL_map (h.aeval hFS))).append h3
  have hcs := call_sound hC hFS h.ws h.hs (fun _ hi => hi) h.cr (fun id hid => by
   obtain ⟨b, hb, _⟩ := hC.live id hid
   exact (List.getElem?_eq_some_iff.1 hb).1) (fun id b hb hl => by
   rcases hC.clean with ⟨hs, _⟩ | rfl
   ·exact (List.getElem?_eq_some_iff.1 (hs id b hb hl)).1
   ·simp at hb) (fun id h1 _ => h.nw id h1) hargs
  unfold Oper.wp
  have hrun : (execOp a.eval ⟨dst, .call ⟨.value f, ⟨args⟩, ts⟩, ty, pos, after, guard⟩).run P w = .ok (.enter g (fs ++ (⟨args⟩ : Array Operand).map a.eval ++ cs)) w := by
   have : execOp a.eval ⟨dst, .call ⟨.value f, ⟨args⟩, ts⟩, ty, pos, after, guard⟩ = callFunc g (fs ++ (⟨args⟩ : Array Operand).map a.eval ++ cs) := by
    simp [execOp, resolve, h1, Deferred.ofValue, invoke]
   rw [this]
   exact hC.sat.1 _ w
  rw [hrun]
  simp only [Oper.upon_enter]
  refine hcs.mono ?_
  rintro e w' ⟨cv, ι', rfl, hv, hE⟩
  exact hK _ _ ι' _ _ hKv (h.step hFS hE hC.live hv hd)
 | none =>
  rw [hg] at hop
  simp only at hop
  split at hop
  case h_2 => exact hop.elim
  rename_i x e hx
  obtain ⟨v, w', ι', hr, hxv, hE⟩ := aop_sound hx (h.aeval hFS) (fun c hc => h.ws.agree c (hFS.1 c hc).1 (hFS.1 c hc).2) (fun id b e _ hb hl he => h.hs.br id b e (List.getElem?_eq_some_iff.1 hb).1 hb hl he) (fun _ => h.nw _ (Nat.le_refl _))
  have hW : ∀ id, id ∈ e.wr → ∃ b, H[id]? = some b ∧ b.live = true := aop_wr hx
  have hst := h.step hFS hE hW hxv hd
  unfold Oper.wp
  rcases hr with hr | ⟨hr, rfl⟩
  ·rw [hr]
   simp only [Oper.upon_value]
   exact hK _ _ ι' _ _ hop hst
  ·rw [hr]
   simp only [Oper.upon_skip]
   exact hK _ _ ι' _ _ hop hst
end
mutual
inductive Ref (lo hi : Nat) : AV → AV → Prop
 | refl (x : AV) : Ref lo hi x x
 | any (x : AV) : Ref lo hi x .any
 | nil (id : Nat) (h : lo ≤ id ∧ id < hi) : Ref lo hi .nilsl (.slice id 0 0 0)
 | esl (id : Nat) (h : lo ≤ id ∧ id < hi) : Ref lo hi .esl (.slice id 0 0 0)
 | cap (id off len c c' : Nat) (h : c' ≤ c) : Ref lo hi (.slice id off len c) (.slice id off len c')
 | agg {xs ys : List AV} (h : RefL lo hi xs ys) : Ref lo hi (.agg xs) (.agg ys)
 | tuple {xs ys : List AV} (h : RefL lo hi xs ys) : Ref lo hi (.tuple xs) (.tuple ys)
inductive RefL (lo hi : Nat) : List AV → List AV → Prop
 | same (xs : List AV) : RefL lo hi xs xs
 | cons {x y : AV} {xs ys : List AV} (h : Ref lo hi x y) (t : RefL lo hi xs ys) : RefL lo hi (x :: xs) (y :: ys)
end
section
variable {P : Program} {F : Nat → Prop} {ι ι' ι0 : Inj} {w0 w w' : World} {M D : Nat → Prop} {H H' : Heap} {k n lo hi : Nat} {ρ ρ' : Env} {a : Act}
mutual
theorem Ref.sound (hn : ∀ id, lo ≤ id → id < hi → ι id = some none) : ∀ {x y : AV}, Ref lo hi x y → ∀ {v : Value}, VR F ι w0 x v → VR F ι w0 y v
 | _, _, .refl _, _, h => h
 | _, _, .any _, _, _ => by simp [VR]
 | _, _, .nil id hid, v, h => by
  simp only [VR] at h ⊢
  exact Or.inr ⟨hn id hid.1 hid.2, trivial, trivial, none, h⟩
 | _, _, .esl id hid, v, h => by
  simp only [VR] at h ⊢
  exact Or.inr ⟨hn id hid.1 hid.2, trivial, trivial, h⟩
 | _, _, .cap id off len c c' hc, v, h => by
  simp only [VR] at h ⊢
  rcases h with ⟨e, cc, off', h1, h2, h3, h4⟩ | ⟨h1, h2, h3, h4⟩
  ·exact Or.inl ⟨e, cc, off', h1, h2, Nat.le_trans hc h3, h4⟩
  ·exact Or.inr ⟨h1, h2, by omega, h4⟩
 | _, _, .agg hl, v, h => by
  simp only [VR] at h ⊢
  obtain ⟨vs, h1, h2, h3⟩ := h
  exact ⟨vs, h1, RefL.sound hn hl h2, h3⟩
 | _, _, .tuple hl, v, h => by
  simp only [VR] at h ⊢
  obtain ⟨vs, h1, h2⟩ := h
  exact ⟨vs, h1, RefL.sound hn hl h2⟩
theorem RefL.sound (hn : ∀ id, lo ≤ id → id < hi → ι id = some none) : ∀ {xs ys : List AV}, RefL lo hi xs ys → ∀ {vs : List Value}, VRL F ι w0 xs vs → VRL F ι w0 ys vs
 | _, _, .same _, _, h => h
 | _, _, .cons hx hl, vs, h => by
  obtain ⟨v, rest, rfl, h1, h2⟩ := VRL_cons.1 h
  exact VRL_cons.2 ⟨v, rest, rfl, Ref.sound hn hx h1, RefL.sound hn hl h2⟩
end
def RefE (lo hi : Nat) (ρ ρ' : Env) : Prop := ∀ t, Ref lo hi (ρ t) (ρ' t)
theorem RefE.refl : RefE lo hi ρ ρ := fun _ => .refl _
theorem RefE.upd {t : Tmp} {x y : AV} (h : RefE lo hi ρ ρ') (ht : ρ t = x) (hr : Ref lo hi x y) : RefE lo hi ρ (upd ρ' t y) := by
 intro u
 unfold AM.upd
 split
 ·rename_i hu
  subst hu
  rw [ht]
  exact hr
 ·exact h u
theorem St.norm (szs : List Nat) (hr : RefE H.length (H.length + szs.length) ρ ρ') (h : St F w0 M k ι0 n ι ρ H a w) :
 ∃ ι' : Inj, Inj.le ι ι' ∧ (∀ id, H.length ≤ id → id < H.length + szs.length → ι' id = some none) ∧ St F w0 M k ι0 n ι' ρ' (H ++ szs.map fun s => ⟨s, [], true, false⟩) a w := by
 let ι' : Inj := fun id => if H.length ≤ id ∧ id < H.length + szs.length then some none else ι id
 have hle : Inj.le ι ι' := by
  intro id e he
  show (if _ then _ else _) = _
  rw [if_neg]
  ·exact he
  ·rintro ⟨h1, _⟩
   rw [h.nw id h1] at he
   cases he
 have hold : ∀ id, id < H.length → ι' id = ι id := fun id hid => by
  show (if _ then _ else _) = _
  rw [if_neg (by omega)]
 have hnew : ∀ id, H.length ≤ id → id < H.length + szs.length → ι' id = some none := fun id h1 h2 => by
  show (if _ then _ else _) = _
  rw [if_pos ⟨h1, h2⟩]
 have hout : ∀ id, H.length + szs.length ≤ id → ι' id = none := fun id h1 => by
  show (if _ then _ else _) = _
  rw [if_neg (by omega)]
  exact h.nw id (by omega)
 have hlen : (H ++ szs.map fun s => (⟨s, [], true, false⟩ : Blk)).length = H.length + szs.length := by simp
 refine ⟨ι', hle, hnew, h.defers, h.size, fun t => Ref.sound hnew (hr t) (VR.mono (fun _ h => h) hle (fun _ _ => rfl) _ (h.env t)), ⟨?_, ?_, ?_⟩, ?_, ?_, h.ws, ?_, ?_⟩
 ·intro id b e hd hb hl he
  by_cases hid : id < H.length
  ·rw [List.getElem?_append_left hid] at hb
   rw [hold id hid] at he
   exact (h.hs.br id b e hid hb hl he).mono hle fun _ _ => rfl
  ·rw [hlen] at hd
   rw [hnew id (by omega) hd] at he
   obtain rfl := Option.some.inj he
   rw [List.getElem?_append_right (by omega), List.getElem?_map] at hb
   obtain ⟨s, _, rfl⟩ := Option.map_eq_some_iff.1 hb
   rfl
 ·intro id id' b b' c c' hd hd' hb hb' hl hl' hc hc' heq
  rw [hlen] at hd hd'
  have hlt : id < H.length := by
   by_cases hid : id < H.length
   ·exact hid
   ·rw [hnew id (by omega) hd] at hc; simp at hc
  have hlt' : id' < H.length := by
   by_cases hid : id' < H.length
   ·exact hid
   ·rw [hnew id' (by omega) hd'] at hc'; simp at hc'
  rw [List.getElem?_append_left hlt] at hb
  rw [List.getElem?_append_left hlt'] at hb'
  rw [hold _ hlt] at hc
  rw [hold _ hlt'] at hc'
  exact h.hs.inj id id' b b' c c' hlt hlt' hb hb' hl hl' hc hc' heq
 ·intro id b c hd hb hl hc
  rw [hlen] at hd
  have hlt : id < H.length := by
   by_cases hid : id < H.length
   ·exact hid
   ·rw [hnew id (by omega) hd] at hc; simp at hc
  rw [List.getElem?_append_left hlt] at hb
  rw [hold _ hlt] at hc
  exact h.hs.own id b c hlt hb hl hc
 ·intro id hid
  rw [hlen] at hid
  by_cases hlt : id < H.length
  ·rw [hold id hlt]; exact h.cr id hlt
  ·rw [hnew id (by omega) hid]; simp
 ·intro id hid
  rw [hlen] at hid
  exact hout id hid
 ·intro id hid
  rw [hold id (Nat.lt_of_lt_of_le hid h.kle)]
  exact h.par id hid
 ·rw [hlen]
  exact Nat.le_trans h.kle (Nat.le_add_right _ _)
theorem Wk.norm (szs : List Nat) (hr : RefE H.length (H.length + szs.length) ρ ρ') : Wk k ρ H ρ' (H ++ szs.map fun s => ⟨s, [], true, false⟩) := fun F w0 M ι0 n ι a w _ h => by
 obtain ⟨ι', _, _, h'⟩ := h.norm szs hr
 exact ⟨ι', h'⟩
end
def aRes (P : Program) (H : Heap) (ρ : Env) : List ResultVar → Option (List AV)
 | [] => some []
 | .tmp t :: rest => match aRes P H ρ rest with
  | some vs => some (ρ t :: vs)
  | none => none
 | .cell a t :: rest => match aLoad P H t (ρ a), aRes P H ρ rest with
  | some v, some vs => some (v :: vs)
  | _, _ => none
def aResult : List AV → AV
 | [v] => v
 | vs => .tuple vs
def endQ (k : Nat) (Q : AV → Heap → Prop) (v : AV) (H : Heap) : Prop := ∃ keep, GcOk k (List.range k ++ keep) H ∧ (∀ id, id ∈ keep → ∃ b, H[id]? = some b ∧ b.live = true) ∧ Q (bor [] (idx (List.range k ++ keep)) fuel v) (gcH (List.range k ++ keep) H)
def retQ (P : Program) (rs : List ResultVar) (k : Nat) (Q : AV → Heap → Prop) (e : Exit) (ρ : Env) (H : Heap) : Prop :=
 match e with
 | .normal | .ret => wkQ k (fun ρ H => ∃ vs, aRes P H ρ rs = some vs ∧ ∃ (szs : List Nat) (v : AV), Ref H.length (H.length + szs.length) (aResult vs) v ∧ endQ k Q v (H ++ szs.map fun s => ⟨s, [], true, false⟩)) ρ H
 | _ => False
def argEnv (args : List AV) : Env := fun t => args.getD t .any
section
variable {P : Program} {F : Nat → Prop} {ι ι' ι0 : Inj} {w0 w w' : World} {M D : Nat → Prop} {H H' : Heap} {k n : Nat} {ρ : Env} {a : Act}
theorem callK_mono {f : AV} {args : List AV} {K K' : AV → Heap → Prop} (h : callK P f args H K) (hK : ∀ v H, K v H → K' v H) : callK P f args H K' := by
 unfold callK at *
 split at h
 ·obtain ⟨m, v, h', Hb, hC, hk⟩ := h
  exact ⟨m, v, h', Hb, hC, hK _ _ hk⟩
 ·exact h
theorem opK_mono {o : Oper} {K K' : Env → Heap → Prop} (h : opK P ρ H o K) (hK : ∀ ρ H, K ρ H → K' ρ H) : opK P ρ H o K' := by
 unfold opK at *
 split at h
 ·exact callK_mono h fun v H hk => hK _ _ hk
 ·split at h
  ·exact hK _ _ h
  ·exact h
theorem awpOps_mono {ops : Array Oper} {K K' : Env → Heap → Prop} (hK : ∀ ρ H, K ρ H → K' ρ H) : ∀ (l : List Oper) (ρ : Env) (H : Heap), awpOps P ops K l ρ H → awpOps P ops K' l ρ H
 | [], ρ, H, h => hK ρ H h
 | o :: rest, ρ, H, h => by
  simp only [awpOps] at h ⊢
  split at h
  ·split at h
   ·rename_i hb
    rw [if_pos hb]
    exact opK_mono h fun ρ H hk => awpOps_mono hK rest ρ H hk
   ·rename_i hb
    rw [if_neg hb]
    exact awpOps_mono hK rest _ _ h
  ·exact h
theorem awpD_mono {ops : Array Oper} {K K' : Env → Heap → Prop} (hK : ∀ ρ H, K ρ H → K' ρ H) : ∀ (l : List Oper) (acc : List Foot) (ρ : Env) (H : Heap), awpD P ops K l acc ρ H → awpD P ops K' l acc ρ H
 | [], acc, ρ, H, h => ⟨h.1, hK ρ H h.2⟩
 | o :: rest, acc, ρ, H, h => by
  simp only [awpD] at h ⊢
  split at h
  ·exact h
  ·exact awpD_mono hK rest _ _ _ h
  ·split at h
   ·split at h
    ·obtain ⟨m, v, h', Hb, hC, hk⟩ := h
     exact ⟨m, v, h', Hb, hC, awpD_mono hK rest _ _ _ hk⟩
    ·exact h
   ·split at h
    ·exact awpD_mono hK rest _ _ _ h
    ·exact h
theorem awpD_det {ops : Array Oper} {K : Env → Heap → Prop} : ∀ (l : List Oper) (acc : List Foot) (ρ : Env) (H : Heap), awpD P ops K l acc ρ H → ∃ ρ' H', K ρ' H' ∧ awpD P ops (fun ρ2 H2 => ρ2 = ρ' ∧ H2 = H') l acc ρ H
 | [], acc, ρ, H, h => ⟨ρ, H, h.2, h.1, rfl, rfl⟩
 | o :: rest, acc, ρ, H, h => by
  simp only [awpD] at h ⊢
  split at h
  ·exact h.elim
  ·exact awpD_det rest _ _ _ h
  ·split at h
   ·split at h
    ·obtain ⟨m, v, h', Hb, hC, hk⟩ := h
     obtain ⟨ρ', H', h1, h2⟩ := awpD_det rest _ _ _ hk
     exact ⟨ρ', H', h1, m, v, h', Hb, hC, h2⟩
    ·exact h.elim
   ·split at h
    ·exact awpD_det rest _ _ _ h
    ·exact h.elim
theorem awp_mono (c : Code) : ∀ {Q Q' : Exit → Env → Heap → Prop} {ρ : Env} {H : Heap}, awp P k c Q ρ H → (∀ e ρ H, Q e ρ H → Q' e ρ H) → awp P k c Q' ρ H := by
 induction c with
 | skip => intro Q Q' ρ H h hQ; exact hQ _ _ _ h
 | region id ops draw =>
  intro Q Q' ρ H h hQ
  simp only [awp] at h ⊢
  split at h
  ·rename_i hd; rw [if_pos hd]; exact ⟨h.1, awpD_mono (fun ρ H => hQ _ ρ H) _ _ _ _ h.2⟩
  ·rename_i hd; rw [if_neg hd]; exact awpOps_mono (fun ρ H => hQ _ ρ H) _ _ _ h
 | seq x y ihx ihy =>
  intro Q Q' ρ H h hQ
  refine ihx h fun e ρ H he => ?_
  cases e <;> first | exact wkQ.mono he fun ρ H he => ihy he hQ | exact hQ _ _ _ he
 | cond c x y ihx ihy =>
  intro Q Q' ρ H h hQ
  simp only [awp] at h ⊢
  split at h
  ·split at h
   ·rename_i ht; rw [if_pos ht]; exact ihx h hQ
   ·rename_i ht; rw [if_neg ht]; exact ihy h hQ
  ·exact h
 | block id c ih =>
  intro Q Q' ρ H h hQ
  refine ih h fun e ρ H he => ?_
  cases e with
  | exit i =>
   simp only at he ⊢
   split at he
   ·rename_i hi; rw [if_pos hi]; exact hQ _ _ _ he
   ·rename_i hi; rw [if_neg hi]; exact hQ _ _ _ he
  | _ => exact hQ _ _ _ he
 | loop c ih =>
  intro Q Q' ρ H h hQ I hI
  refine h I fun ρ H hb => hI ρ H (ih hb fun e ρ H he => ?_)
  cases e <;> first | exact he | exact hQ _ _ _ he
 | exit i => intro Q Q' ρ H h hQ; exact hQ _ _ _ h
 | ret => intro Q Q' ρ H h hQ; exact hQ _ _ _ h
 | _ => intro Q Q' ρ H h hQ; exact h.elim
theorem awpOps_det {ops : Array Oper} {K : Env → Heap → Prop} : ∀ (l : List Oper) (ρ : Env) (H : Heap), awpOps P ops K l ρ H → ∃ ρ' H', K ρ' H' ∧ awpOps P ops (fun ρ2 H2 => ρ2 = ρ' ∧ H2 = H') l ρ H
 | [], ρ, H, h => ⟨ρ, H, h, rfl, rfl⟩
 | o :: rest, ρ, H, h => by
  simp only [awpOps] at h ⊢
  split at h
  ·split at h
   ·rename_i hb
    unfold opK callK at h ⊢
    split at h
    ·split at h
     ·obtain ⟨m, v, h', Hb, hC, hk⟩ := h
      obtain ⟨ρ', H', h1, h2⟩ := awpOps_det rest _ _ hk
      refine ⟨ρ', H', h1, ?_⟩
      rw [if_pos hb]
      exact ⟨m, v, h', Hb, hC, h2⟩
     ·exact h.elim
    ·split at h
     ·obtain ⟨ρ', H', h1, h2⟩ := awpOps_det rest _ _ h
      refine ⟨ρ', H', h1, ?_⟩
      rw [if_pos hb]
      exact h2
     ·exact h.elim
   ·rename_i hb
    obtain ⟨ρ', H', h1, h2⟩ := awpOps_det rest _ _ h
    exact ⟨ρ', H', h1, by rw [if_neg hb]; exact h2⟩
  ·exact h.elim
theorem awp_det (c : Code) : ∀ {Q : Exit → Env → Heap → Prop} {ρ : Env} {H : Heap}, awp P k c Q ρ H → ∃ e ρ' H', Q e ρ' H' ∧ awp P k c (fun e2 ρ2 H2 => e2 = e ∧ ρ2 = ρ' ∧ H2 = H') ρ H := by
 induction c with
 | skip => intro Q ρ H h; exact ⟨.normal, ρ, H, h, rfl, rfl, rfl⟩
 | region id ops draw =>
  intro Q ρ H h
  simp only [awp] at h ⊢
  split at h
  ·rename_i hd
   obtain ⟨ρ', H', h1, h2⟩ := awpD_det _ _ _ _ h.2
   refine ⟨.normal, ρ', H', h1, ?_⟩
   rw [if_pos hd]
   exact ⟨h.1, awpD_mono (fun ρ H hk => ⟨rfl, hk.1, hk.2⟩) _ _ _ _ h2⟩
  ·rename_i hd
   obtain ⟨ρ', H', h1, h2⟩ := awpOps_det _ _ _ h
   refine ⟨.normal, ρ', H', h1, ?_⟩
   rw [if_neg hd]
   exact awpOps_mono (fun ρ H hk => ⟨rfl, hk.1, hk.2⟩) _ _ _ h2
 | seq x y ihx ihy =>
  intro Q ρ H h
  obtain ⟨e, ρ1, H1, h1, h2⟩ := ihx h
  cases e with
  | normal =>
   obtain ⟨ρw, Hw, hw, h1⟩ := h1
   obtain ⟨e', ρ', H', h3, h4⟩ := ihy h1
   refine ⟨e', ρ', H', h3, awp_mono x h2 ?_⟩
   rintro e2 ρ2 H2 ⟨rfl, rfl, rfl⟩
   exact ⟨ρw, Hw, hw, h4⟩
  | _ =>
   refine ⟨_, ρ1, H1, h1, awp_mono x h2 ?_⟩
   rintro e2 ρ2 H2 ⟨rfl, rfl, rfl⟩
   exact ⟨rfl, rfl, rfl⟩
 | cond c x y ihx ihy =>
  intro Q ρ H h
  simp only [awp] at h ⊢
  split at h
  ·split at h
   ·rename_i ht
    obtain ⟨e, ρ', H', h1, h2⟩ := ihx h
    exact ⟨e, ρ', H', h1, by rw [if_pos ht]; exact h2⟩
   ·rename_i ht
    obtain ⟨e, ρ', H', h1, h2⟩ := ihy h
    exact ⟨e, ρ', H', h1, by rw [if_neg ht]; exact h2⟩
  ·exact h.elim
 | block id c ih =>
  intro Q ρ H h
  obtain ⟨e, ρ1, H1, h1, h2⟩ := ih h
  cases e with
  | exit i =>
   simp only at h1
   by_cases hi : i = id
   ·rw [if_pos hi] at h1
    refine ⟨.normal, ρ1, H1, h1, awp_mono c h2 ?_⟩
    rintro e2 ρ2 H2 ⟨rfl, rfl, rfl⟩
    simp [hi]
   ·rw [if_neg hi] at h1
    refine ⟨.exit i, ρ1, H1, h1, awp_mono c h2 ?_⟩
    rintro e2 ρ2 H2 ⟨rfl, rfl, rfl⟩
    simp [hi]
  | _ =>
   refine ⟨_, ρ1, H1, h1, awp_mono c h2 ?_⟩
   rintro e2 ρ2 H2 ⟨rfl, rfl, rfl⟩
   exact ⟨rfl, rfl, rfl⟩
 | loop c ih =>
  intro Q ρ H h
  refine h (fun ρ H => ∃ e ρ' H', Q e ρ' H' ∧ awp P k (.loop c) (fun e2 ρ2 H2 => e2 = e ∧ ρ2 = ρ' ∧ H2 = H') ρ H) fun ρ H hb => ?_
  obtain ⟨e, ρ1, H1, h1, h2⟩ := ih hb
  cases e with
  | normal =>
   obtain ⟨ρw, Hw, hw, e, ρ', H', h3, h4⟩ := h1
   refine ⟨e, ρ', H', h3, fun J hJ => hJ ρ H (awp_mono c h2 ?_)⟩
   rintro e2 ρ2 H2 ⟨rfl, rfl, rfl⟩
   exact ⟨ρw, Hw, hw, h4 J hJ⟩
  | _ =>
   refine ⟨_, ρ1, H1, h1, fun J hJ => hJ ρ H (awp_mono c h2 ?_)⟩
   rintro e2 ρ2 H2 ⟨rfl, rfl, rfl⟩
   exact ⟨rfl, rfl, rfl⟩
 | exit i => intro Q ρ H h; exact ⟨_, ρ, H, h, rfl, rfl, rfl⟩
 | ret => intro Q ρ H h; exact ⟨_, ρ, H, h, rfl, rfl, rfl⟩
 | _ => intro Q ρ H h; exact h.elim
end
section
variable {P : Program} {F : Nat → Prop} {ι ι' ι0 : Inj} {w0 w w' : World} {M D : Nat → Prop} {H H' : Heap} {k n : Nat} {ρ : Env} {a : Act}
theorem VR_aeval (hG : GR F w0) (h : ∀ t, VR F ι w0 (ρ t) (a.tmps.getD t undef)) (y : Operand) : VR F ι w0 (aeval ρ y) (a.eval y) := by
 cases y with
 | tmp t => exact h t
 | const v => exact VR_ofV v
 | global g => simp [aeval, VR]
 | func f => simp [AM.aeval, VR, Act.eval, VRL]
theorem aop_congr {op : Op} {f g : Operand → AV} (h : ∀ y, y ∈ op.operands.toList → f y = g y) : aop P f H op = aop P g H op ∧ afoot f op = afoot g op := by
 have pairs : ∀ ps : Array (Nat × Operand), (∀ y, y ∈ ps.toList.map (·.2) → f y = g y) → (ps.toList.map fun p => (p.1, f p.2)) = (ps.toList.map fun p => (p.1, g p.2)) := fun ps hp =>
  List.map_congr_left fun p hm => by rw [hp p.2 (List.mem_map.2 ⟨p, hm, rfl⟩)]
 have maps : ∀ xs : List Operand, (∀ y, y ∈ xs → f y = g y) → xs.map f = xs.map g := fun xs hx => List.map_congr_left hx
 have flat : ∀ xs : List Operand, (∀ y, y ∈ xs → f y = g y) → (xs.flatMap fun x => (f x).ids) = (xs.flatMap fun x => (g x).ids) := by
  intro xs hx
  rw [List.flatMap_def, List.flatMap_def]
  congr 1
  exact List.map_congr_left fun y hy => by rw [hx y hy]
 have opts : ∀ o : Option Operand, (∀ y, o = some y → f y = g y) → o.map f = o.map g := by
  intro o ho
  cases o with
  | none => rfl
  | some y => simp [ho y rfl]
 cases op with
 | build t ps => simp only [aop, afoot, pairs ps (fun y hy => h y (by simpa [Op.operands] using hy)), and_self]
 | buildSlice t n ps => simp only [aop, afoot, pairs ps (fun y hy => h y (by simpa [Op.operands] using hy)), and_self]
 | makeFunc fn first cap =>
  have h1 := maps first.toList (fun y hy => h y (by simp [Op.operands]; left; simpa using hy))
  have h2 := maps cap.toList (fun y hy => h y (by simp [Op.operands]; right; simpa using hy))
  cases fn <;> simp only [aop, afoot, h1, h2, and_self]
 | call c =>
  obtain ⟨callee, xs, ts⟩ := c
  have h1 := maps xs.toList (fun y hy => h y (by simp [Op.operands, Call.operands]; right; simpa using hy))
  have h2 := flat xs.toList (fun y hy => h y (by simp [Op.operands, Call.operands]; right; simpa using hy))
  cases callee <;> simp only [aop, afoot, h1, h2, and_self]
 | slice t x lo hi mx =>
  have h0 := h x (by simp [Op.operands])
  have h1 := opts lo (fun y hy => h y (by subst hy; simp [Op.operands]))
  have h2 := opts hi (fun y hy => h y (by subst hy; simp [Op.operands]))
  have h3 := opts mx (fun y hy => h y (by subst hy; simp [Op.operands]))
  simp only [aop, afoot, h0, h1, h2, h3, and_self]
 | pick c x y =>
  have h0 := h c (by simp [Op.operands]); have h1 := h x (by simp [Op.operands]); have h2 := h y (by simp [Op.operands])
  simp only [aop, afoot, h0, h1, h2, and_self]
 | store t x y => have h0 := h x (by simp [Op.operands]); have h1 := h y (by simp [Op.operands]); simp only [aop, afoot, h0, h1, and_self]
 | binOp o t x y t' => have h0 := h x (by simp [Op.operands]); have h1 := h y (by simp [Op.operands]); simp only [aop, afoot, h0, h1, and_self]
 | makeSlice t x y => have h0 := h x (by simp [Op.operands]); have h1 := h y (by simp [Op.operands]); simp only [aop, afoot, h0, h1, and_self]
 | indexAddr t x y => have h0 := h x (by simp [Op.operands]); have h1 := h y (by simp [Op.operands]); simp only [aop, afoot, h0, h1, and_self]
 | index t x y => have h0 := h x (by simp [Op.operands]); have h1 := h y (by simp [Op.operands]); simp only [aop, afoot, h0, h1, and_self]
 | move x => have h0 := h x (by simp [Op.operands]); simp only [aop, afoot, h0, and_self]
 | assign x => have h0 := h x (by simp [Op.operands]); simp only [aop, afoot, h0, and_self]
 | box t x => have h0 := h x (by simp [Op.operands]); simp only [aop, afoot, h0, and_self]
 | load t x => have h0 := h x (by simp [Op.operands]); simp only [aop, afoot, h0, and_self]
 | nilCheck x => have h0 := h x (by simp [Op.operands]); simp only [aop, afoot, h0, and_self]
 | unOp o t x => have h0 := h x (by simp [Op.operands]); simp only [aop, afoot, h0, and_self]
 | convert s d x => have h0 := h x (by simp [Op.operands]); simp only [aop, afoot, h0, and_self]
 | fieldAddr s x i => have h0 := h x (by simp [Op.operands]); simp only [aop, afoot, h0, and_self]
 | field s x i => have h0 := h x (by simp [Op.operands]); simp only [aop, afoot, h0, and_self]
 | extract x i => have h0 := h x (by simp [Op.operands]); simp only [aop, afoot, h0, and_self]
 | _ => exact ⟨rfl, rfl⟩
inductive SStep (P : Program) (ops : Array Oper) (o : Oper) (ρ : Env) (H : Heap) : AV → Heap → List Nat → List Nat → Prop
 | skip (hg : aguard ops ρ o = some false) : SStep P ops o ρ H (.tuple []) H [] []
 | call {f : Operand} {args : List Operand} {g : FuncId} {first cap : List AV} {m : List Nat} {v : AV} {h' Hb : Heap} (hg : aguard ops ρ o = some true) (hc : goCall o.op = some (f, args)) (hf : aeval ρ f = .func g first cap)
  (hC : CallOk P g (first ++ args.map (aeval ρ) ++ cap) H m v h' Hb) : SStep P ops o ρ H (sh (mmap m H.length) v) (back H m h') m (m ++ liveIds Hb)
 | op {x : AV} {e : AEff} (hg : aguard ops ρ o = some true) (hc : goCall o.op = none) (hx : aop P (aeval ρ) H o.op = some (x, e)) : SStep P ops o ρ H x (e.app H) e.wr ((afoot (aeval ρ) o.op ++ e.wr).filter (· < H.length))
def onlyE (L : List Tmp) (ρ : Env) : Env := fun t => if L.contains t then ρ t else .any
theorem SStep.only {ops : Array Oper} {o : Oper} {x : AV} {W R : List Nat} (h : SStep P ops o ρ H x H' W R) : SStep P ops o (onlyE (o.looksAt ops) ρ) H x H' W R := by
 have hev : ∀ y, y ∈ o.op.operands.toList → aeval (AM.onlyE (o.looksAt ops) ρ) y = aeval ρ y := by
  intro y hy
  cases y with
  | tmp t =>
   show AM.onlyE (o.looksAt ops) ρ t = ρ t
   unfold AM.onlyE
   rw [if_pos]
   rw [List.contains_iff_mem]
   exact List.mem_append_left _ (List.mem_filterMap.2 ⟨.tmp t, hy, rfl⟩)
  | _ => rfl
 have hgd : aguard ops (AM.onlyE (o.looksAt ops) ρ) o = aguard ops ρ o := by
  unfold aguard
  cases hg : o.guard with
  | none => rfl
  | some jw =>
   obtain ⟨j, want⟩ := jw
   simp only
   cases ht : (ops[j]?).bind (·.dst) with
   | none => rfl
   | some t =>
    simp only
    have : AM.onlyE (o.looksAt ops) ρ t = ρ t := by
     unfold AM.onlyE
     rw [if_pos]
     rw [List.contains_iff_mem]
     simp [Oper.looksAt, hg, ht]
    rw [this]
 cases h with
 | skip hg => exact .skip (by rw [hgd]; exact hg)
 | @call f args g first cap m v h' Hb hg hc hf hC =>
  have hcall : o.op.operands.toList = f :: args := by
   obtain ⟨dst, op, ty, pos, after, guard⟩ := o
   simp only at hc
   cases op with
   | call c =>
    obtain ⟨callee, as, ts⟩ := c
    cases callee with
    | value f' =>
     simp only [goCall, Option.some.injEq, Prod.mk.injEq] at hc
     obtain ⟨rfl, rfl⟩ := hc
     simp [Op.operands, Call.operands]
    | _ => simp [goCall] at hc
   | _ => simp [goCall] at hc
  refine .call (by rw [hgd]; exact hg) hc (by rw [hev f (by rw [hcall]; simp)]; exact hf) ?_
  rw [show args.map (aeval (AM.onlyE (o.looksAt ops) ρ)) = args.map (aeval ρ) from List.map_congr_left fun y hy => hev y (by rw [hcall]; simp [hy])]
  exact hC
 | op hg hc hx =>
  obtain ⟨h1, h2⟩ := aop_congr (P := P) (H := H) hev
  rw [← h2]
  exact .op (by rw [hgd]; exact hg) hc (by rw [h1]; exact hx)
theorem SStep.facts {ops : Array Oper} {o : Oper} {x : AV} {W R : List Nat} (h : SStep P ops o ρ H x H' W R) :
 H.length ≤ H'.length ∧ (∀ id, id < H.length → id ∉ W → H'[id]? = H[id]?) ∧ (∀ id, id ∈ W → id ∈ R ∧ ∃ b, H[id]? = some b ∧ b.live = true) ∧ (∀ id, id ∈ R → id < H.length) := by
 cases h with
 | skip hg => exact ⟨Nat.le_refl _, fun _ _ _ => rfl, fun _ h => by simp at h, fun _ h => by simp at h⟩
 | @call f args g first cap m v h' Hb hg hc hf hC =>
  refine ⟨?_, ?_, fun id h => ⟨List.mem_append_left _ h, hC.live id h⟩, ?_⟩
  ·unfold back
   rw [List.length_append, setAll_length]
   omega
  ·intro id h1 h2
   unfold back
   rw [List.getElem?_append_left (by rw [setAll_length]; exact h1), setAll_other _ _ h' H id h2]
  ·intro id hid
   rcases List.mem_append.1 hid with h | h
   ·obtain ⟨b, hb, _⟩ := hC.live id h
    exact (List.getElem?_eq_some_iff.1 hb).1
   ·unfold liveIds at h
    obtain ⟨_, h2⟩ := List.mem_filter.1 h
    split at h2
    ·rename_i b hb
     rcases hC.clean with ⟨hs, _⟩ | rfl
     ·exact (List.getElem?_eq_some_iff.1 (hs id b hb h2)).1
     ·simp at hb
    ·cases h2
 | @op x e hg hc hx =>
  have hwr := aop_wr hx
  have hlt : ∀ id, id ∈ e.wr → id < H.length := fun id hid => by
   obtain ⟨b, hb, _⟩ := hwr id hid
   exact (List.getElem?_eq_some_iff.1 hb).1
  refine ⟨?_, ?_, fun id h => ⟨?_, hwr id h⟩, fun id h => ?_⟩
  ·cases e <;> simp [AEff.app]
  ·intro id h1 h2
   cases e with
   | nil => rfl
   | new b => simp [AEff.app, List.getElem?_append_left h1]
   | set i b =>
    simp [AEff.wr] at h2
    simp [AEff.app, List.getElem?_set_ne (Ne.symm h2)]
   | move i b =>
    simp [AEff.wr] at h2
    simp only [AEff.app]
    rw [List.getElem?_append_left (by simpa using h1), List.getElem?_set_ne (Ne.symm h2)]
  ·exact List.mem_filter.2 ⟨List.mem_append_right _ h, by simpa using hlt id h⟩
  ·simpa using (List.mem_filter.1 h).2
theorem HS.congr {H2 : Heap} (h : HS F w0 ι M D H w) (he : ∀ id, D id → H2[id]? = H[id]?) : HS F w0 ι M D H2 w :=
 ⟨fun id b e hd hb => h.br id b e hd (by rw [← he id hd]; exact hb), fun id id' b b' c c' hd hd' hb hb' => h.inj id id' b b' c c' hd hd' (by rw [← he id hd]; exact hb) (by rw [← he id' hd']; exact hb'),
  fun id b c hd hb => h.own id b c hd (by rw [← he id hd]; exact hb)⟩
theorem SStep.sound {ops : Array Oper} {o : Oper} {x : AV} {W R : List Nat} {KC : Act → World → Prop} {Q : Exit → Act → World → Prop} (h : SStep P ops o ρ H x H' W R) (hFS : FS F w0 M) (hWS : WS w0 M w)
 (hρ : ∀ t, t ∈ o.looksAt ops → VR F ι w0 (ρ t) (a.tmps.getD t undef)) (hS : HS F w0 ι M (· ∈ R) H w) (hcr : ∀ id, id ∈ R → ι id ≠ none) (hnew : ∀ id, H.length ≤ id → id < H'.length → ι id = none)
 (hK : ∀ v w' ι', VR F ι' w0 x v → Eff F w0 ι ι' H H' W w w' → KC (a.put o.dst v) w') :
 if Region.wanted o (yielded ops a.tmps) then o.wp P a w KC Q else KC (a.put o.dst undef) w := by
 have hf := h.facts
 have h := h.only
 have hρ' : ∀ t, VR F ι w0 (onlyE (o.looksAt ops) ρ t) (a.tmps.getD t undef) := by
  intro t
  unfold onlyE
  split
  ·rename_i ht
   exact hρ t (List.contains_iff_mem.1 ht)
  ·simp [VR]
 generalize onlyE (o.looksAt ops) ρ = σ at h hρ'
 cases h with
 | skip hg =>
  rw [wanted_of hg hρ']
  exact hK undef w ι (by simp [VR, VRL, undef]) (Eff.refl F w0 ι H w)
 | @call f args g first cap m v h' Hb hg hc hfn hC =>
  rw [wanted_of hg hρ', if_pos rfl]
  obtain ⟨dst, op, ty, pos, after, guard⟩ := o
  simp only at hc
  have hcall : ∃ ts : Array TypeId, op = .call ⟨.value f, ⟨args⟩, ts⟩ := by
   cases op with
   | call c =>
    obtain ⟨callee, as, ts⟩ := c
    cases callee with
    | value f' =>
     simp only [goCall, Option.some.injEq, Prod.mk.injEq] at hc
     obtain ⟨rfl, rfl⟩ := hc
     exact ⟨ts, rfl⟩
    | _ => simp [goCall] at hc
   | _ => simp [goCall] at hc
  obtain ⟨ts, rfl⟩ := hcall
  have hfv := VR_aeval hFS.2 hρ' f
  rw [hfn] at hfv
  simp only [VR] at hfv
  obtain ⟨fs, cs, h1, h2, h3⟩ := hfv
  have hargs : VRL F ι w0 (first ++ args.map (AM.aeval σ) ++ cap) (fs ++ (⟨args⟩ : Array Operand).map a.eval ++ cs).toList := by
   simp only [Array.toList_append, Array.toList_map]
   exact (h2.append (VRL_map (VR_aeval hFS.2 hρ'))).append h3
  have hcs := call_sound hC hFS hWS hS hf.2.2.2 hcr (fun id hid => List.mem_append_left _ hid) (fun id b hb hl => by
   refine List.mem_append_right _ (List.mem_filter.2 ⟨List.mem_range.2 (List.getElem?_eq_some_iff.1 hb).1, ?_⟩)
   simp [hb, hl]) hnew hargs
  unfold Oper.wp
  have hrun : (execOp a.eval ⟨dst, .call ⟨.value f, ⟨args⟩, ts⟩, ty, pos, after, guard⟩).run P w = .ok (.enter g (fs ++ (⟨args⟩ : Array Operand).map a.eval ++ cs)) w := by
   have : execOp a.eval ⟨dst, .call ⟨.value f, ⟨args⟩, ts⟩, ty, pos, after, guard⟩ = callFunc g (fs ++ (⟨args⟩ : Array Operand).map a.eval ++ cs) := by
    simp [execOp, resolve, h1, Deferred.ofValue, invoke]
   rw [this]
   exact hC.sat.1 _ w
  rw [hrun]
  simp only [Oper.upon_enter]
  refine hcs.mono ?_
  rintro e w' ⟨cv, ι', rfl, hv, hE⟩
  exact hK cv w' ι' hv hE
 | @op x e hg hc hx =>
  rw [wanted_of hg hρ', if_pos rfl]
  obtain ⟨v, w', ι', hr, hxv, hE⟩ := aop_sound hx (VR_aeval hFS.2 hρ') (fun c hc => hWS.agree c (hFS.1 c hc).1 (hFS.1 c hc).2) (fun id b e' hid hb hl he => hS.br id b e' (List.mem_filter.2 ⟨List.mem_append_left _ hid, by simpa using (List.getElem?_eq_some_iff.1 hb).1⟩) hb hl he)
   (fun hne => hnew _ (Nat.le_refl _) (by have := hf.1; omega))
  unfold Oper.wp
  rcases hr with hr | ⟨hr, rfl⟩
  ·rw [hr]
   simp only [Oper.upon_value]
   exact hK v w' ι' hxv hE
  ·rw [hr]
   simp only [Oper.upon_skip]
   exact hK undef w' ι' hxv hE
end
section
variable {P : Program} {F : Nat → Prop} {ι ι' ι0 : Inj} {w0 w w' : World} {M D : Nat → Prop} {H H' : Heap} {k n : Nat} {ρ : Env} {a : Act}
theorem updO_app' {d : Option Tmp} {v : AV} {t : Nat} : updO ρ d v t = if d = some t then v else ρ t := by
 cases d with
 | none => simp [updO]
 | some u =>
  simp only [updO, upd, Option.some.injEq]
  by_cases h : t = u
  ·simp [h]
  ·rw [if_neg h, if_neg (fun e => h e.symm)]
theorem HS.stepC {G G' : Heap} {W : List Nat} (hE : Eff F w0 ι ι' H H' W w w') (hFS : FS F w0 M) (hsz : w0.heap.size ≤ w.heap.size) (hS : HS F w0 ι M D G w)
 (hW : ∀ id, id ∈ W → D id ∧ id < H.length ∧ ∃ b, H[id]? = some b ∧ b.live = true ∧ G[id]? = some b) (hD : ∀ id, D id → ¬ (H.length ≤ id ∧ id < H'.length))
 (h1 : ∀ id, id ∈ W ∨ (H.length ≤ id ∧ id < H'.length) → G'[id]? = H'[id]?) (h2 : ∀ id, D id → id ∉ W → G'[id]? = G[id]?) :
 HS F w0 ι' M (fun id => D id ∨ (H.length ≤ id ∧ id < H'.length)) G' w' := by
 have olive : ∀ id b, D id → G'[id]? = some b → b.live = true → ∃ b0, G[id]? = some b0 ∧ b0.live = true ∧ (id ∉ W → b0 = b) := by
  intro id b hd hb hl
  by_cases hw : id ∈ W
  ·obtain ⟨_, _, b0, _, g2, g3⟩ := hW id hw
   exact ⟨b0, g3, g2, fun h => absurd hw h⟩
  ·rw [h2 id hd hw] at hb
   exact ⟨b, hb, hl, fun _ => rfl⟩
 have oold : ∀ id, D id → ι' id = ι id := fun id hd => hE.old id (by
  have := hD id hd
  omega)
 have newc : ∀ id c, H.length ≤ id → id < H'.length → ι' id = some (some c) → ∀ id2 b2 c2, D id2 → G'[id2]? = some b2 → b2.live = true → ι id2 = some (some c2) → c.blk ≠ c2.blk := by
  intro id c g1 g2 h5 id2 b2 c2 hd hb2 hl2 hc2 heq
  obtain ⟨b0, q1, q2, _⟩ := olive id2 b2 hd hb2 hl2
  rcases hE.newAt id c g1 g2 h5 with h6 | ⟨k, c', hk, hkc, hkb, hdead⟩
  ·have hlt : c2.blk < w.heap.size := BR.lt (hS.br id2 b0 (some c2) hd q1 q2 hc2)
   omega
  ·obtain ⟨hdk, _, bk, _, hlk, hbk⟩ := hW k hk
   have : id2 = k := hS.inj id2 k b0 bk c2 c' hd hdk q1 hbk q2 hlk hc2 hkc (by rw [hkb, heq])
   subst this
   rw [h1 id2 (Or.inl hk)] at hb2
   rw [hdead b2 hb2] at hl2
   cases hl2
 refine ⟨?_, ?_, ?_⟩
 ·intro id b e hd hb hl he
  rcases hd with hd | ⟨g1, g2⟩
  ·rw [oold id hd] at he
   by_cases hw : id ∈ W
   ·rw [h1 id (Or.inl hw)] at hb
    exact hE.wr id b e hw hb hl he
   ·obtain ⟨b0, q1, q2, q3⟩ := olive id b hd hb hl
    obtain rfl := q3 hw
    have hbr := hS.br id b0 e hd q1 q2 he
    refine hbr.mono hE.le fun c hc => ?_
    subst hc
    refine hE.frame c.blk (BR.lt hbr) fun k e' hk hke heq => ?_
    obtain ⟨hdk, _, bk, _, hlk, hbk⟩ := hW k hk
    have := hS.inj k id bk b0 e' c hdk hd hbk q1 hlk q2 hke he heq
    subst this
    exact hw hk
  ·obtain ⟨e', h3, h4⟩ := hE.new id g1 g2
   rw [h3] at he
   obtain rfl := Option.some.inj he
   rw [h1 id (Or.inr ⟨g1, g2⟩)] at hb
   exact h4 b hb hl
 ·intro id id' b b' c c' hd hd' hb hb' hl hl' hc hc' heq
  rcases hd with hd | ⟨g1, g2⟩
  ·rcases hd' with hd' | ⟨g1', g2'⟩
   ·obtain ⟨b0, q1, q2, _⟩ := olive id b hd hb hl
    obtain ⟨b0', q1', q2', _⟩ := olive id' b' hd' hb' hl'
    rw [oold id hd] at hc
    rw [oold id' hd'] at hc'
    exact hS.inj id id' b0 b0' c c' hd hd' q1 q1' q2 q2' hc hc' heq
   ·rw [oold id hd] at hc
    exact absurd heq.symm (newc id' c' g1' g2' hc' id b c hd hb hl hc)
  ·rcases hd' with hd' | ⟨g1', g2'⟩
   ·rw [oold id' hd'] at hc'
    exact absurd heq (newc id c g1 g2 hc id' b' c' hd' hb' hl' hc')
   ·exact hE.newInj id id' c c' g1 g2 g1' g2' hc hc' heq
 ·intro id b c hd hb hl hc
  rcases hd with hd | ⟨g1, g2⟩
  ·obtain ⟨b0, q1, q2, _⟩ := olive id b hd hb hl
   rw [oold id hd] at hc
   exact hS.own id b0 c hd q1 q2 hc
  ·rcases hE.newAt id c g1 g2 hc with h6 | ⟨k, c', hk, hkc, hkb, hdead⟩
   ·refine ⟨fun hf => ?_, Or.inr (by omega)⟩
    have := (hFS.1 c.blk hf).1
    omega
   ·obtain ⟨hdk, _, bk, _, hlk, hbk⟩ := hW k hk
    rw [← hkb]
    exact hS.own k bk c' hdk hbk hlk hkc
theorem uOf_bit {A : List Nat} {i : Nat} : ∀ (l : List Edge) (s : Nat), (l.foldl (fun s e => s ||| 2 ^ e.on ||| A.getD e.on 0) s).testBit i = true → s.testBit i = true ∨ ∃ e, e ∈ l ∧ (e.on = i ∨ (A.getD e.on 0).testBit i = true)
 | [], s, h => Or.inl h
 | e :: l, s, h => by
  rcases uOf_bit l _ h with h1 | ⟨e', h1, h2⟩
  ·rw [Nat.testBit_or, Nat.testBit_or, Bool.or_eq_true, Bool.or_eq_true, Nat.testBit_two_pow, decide_eq_true_eq] at h1
   rcases h1 with (h1 | h1) | h1
   ·exact Or.inl h1
   ·exact Or.inr ⟨e, by simp, Or.inl h1⟩
   ·exact Or.inr ⟨e, by simp, Or.inr h1⟩
  ·exact Or.inr ⟨e', by simp [h1], h2⟩
theorem ancT_closed {ops : Array Oper} {fs : List Foot} {A : List Nat} (hA : dOk ops fs A = true) {S : Nat → Prop} (hS : ∀ j o e, ops[j]? = some o → e ∈ o.after → Region.binds .any e = true → S j → S e.on) : ∀ (j i : Nat), j < ops.size → (A.getD j 0).testBit i = true → S j → S i := by
 intro j
 induction j using Nat.strongRecOn with
 | _ j ih =>
  intro i hlt hb hj
  have h1 := List.all_eq_true.1 hA j (List.mem_range.2 hlt)
  rw [Array.getElem?_eq_getElem hlt] at h1
  simp only [Bool.and_eq_true, beq_iff_eq] at h1
  obtain ⟨⟨h2, h3⟩, _⟩ := h1
  have h4 : (uOf ops[j] A).testBit i = true := by
   rw [← h3, Nat.testBit_or, hb]
   rfl
  rcases uOf_bit _ _ h4 with h5 | ⟨e, h5, h6⟩
  ·simp at h5
  ·obtain ⟨h7, h8⟩ := List.mem_filter.1 h5
   have hon := hS j ops[j] e (Array.getElem?_eq_getElem hlt) (by simpa using h7) h8 hj
   rcases h6 with rfl | h6
   ·exact hon
   ·have h9 := List.all_eq_true.1 h2 e h7
    rw [h8] at h9
    simp at h9
    exact ih e.on h9 i (by omega) h6 hon
def CE (dst : Nat → Option Tmp) (X : Nat → AV) (E0 : Env) (S : Nat → Bool) : Nat → Env
 | 0 => E0
 | j + 1 => if S j = true then updO (CE dst X E0 S j) (dst j) (X j) else CE dst X E0 S j
def CH (G : Nat → Heap) (W : Nat → List Nat) (S : Nat → Bool) : Nat → Nat → Option Blk
 | 0, id => (G 0)[id]?
 | j + 1, id => if S j = true ∧ (id ∈ W j ∨ ((G j).length ≤ id ∧ id < (G (j + 1)).length)) then (G (j + 1))[id]? else CH G W S j id
variable {dst : Nat → Option Tmp} {X : Nat → AV} {E : Nat → Env} {G : Nat → Heap} {W R : Nat → List Nat} {N : Nat} {S : Nat → Bool}
theorem CE_at (hE : ∀ j, j < N → E (j + 1) = updO (E j) (dst j) (X j)) {t : Nat} : ∀ i, i ≤ N → (∀ j, j < i → dst j = some t → S j = true) → CE dst X (E 0) S i t = E i t
 | 0, _, _ => rfl
 | i + 1, hi, h => by
  have ih := CE_at hE i (by omega) fun j hj => h j (by omega)
  rw [hE i (by omega), updO_app']
  simp only [CE]
  split
  ·rw [updO_app', ih]
  ·rename_i hs
   rw [if_neg (fun hd => hs (h i (by omega) hd)), ih]
theorem CE_after {t : Nat} {i : Nat} : ∀ m, i ≤ m → (∀ j, i ≤ j → j < m → S j = true → dst j ≠ some t) → CE dst X (E 0) S m t = CE dst X (E 0) S i t
 | 0, hm, _ => by
  obtain rfl : i = 0 := by omega
  rfl
 | m + 1, hm, h => by
  by_cases he : i = m + 1
  ·rw [he]
  ·rw [← CE_after m (by omega) fun j h1 h2 => h j h1 (by omega)]
   simp only [CE]
   split
   ·rename_i hs
    rw [updO_app', if_neg (h m (by omega) (by omega) hs)]
   ·rfl
theorem CE_congr {S' : Nat → Bool} : ∀ m, (∀ j, j < m → S' j = S j) → CE dst X (E 0) S' m = CE dst X (E 0) S m
 | 0, _ => rfl
 | m + 1, h => by
  simp only [CE]
  rw [h m (by omega), CE_congr m fun j hj => h j (by omega)]
theorem G_none (hG : ∀ j, j < N → (G j).length ≤ (G (j + 1)).length ∧ (∀ id, id < (G j).length → id ∉ W j → (G (j + 1))[id]? = (G j)[id]?)) {j id : Nat} (hj : j < N) (h : ¬ (id ∈ W j ∨ ((G j).length ≤ id ∧ id < (G (j + 1)).length))) : (G (j + 1))[id]? = (G j)[id]? := by
 by_cases h1 : id < (G j).length
 ·exact (hG j hj).2 id h1 (fun hw => h (Or.inl hw))
 ·rw [List.getElem?_eq_none (by omega), List.getElem?_eq_none (by omega)]
theorem CH_at (hG : ∀ j, j < N → (G j).length ≤ (G (j + 1)).length ∧ (∀ id, id < (G j).length → id ∉ W j → (G (j + 1))[id]? = (G j)[id]?)) {id : Nat} : ∀ i, i ≤ N → (∀ j, j < i → (id ∈ W j ∨ ((G j).length ≤ id ∧ id < (G (j + 1)).length)) → S j = true) → CH G W S i id = (G i)[id]?
 | 0, _, _ => rfl
 | i + 1, hi, h => by
  have ih := CH_at hG i (by omega) fun j hj => h j (by omega)
  simp only [CH]
  split
  ·rfl
  ·rename_i hs
   rw [ih, G_none hG (by omega)]
   intro hw
   exact hs ⟨h i (by omega) hw, hw⟩
theorem CH_after {id i : Nat} : ∀ m, i ≤ m → (∀ j, i ≤ j → j < m → S j = true → ¬ (id ∈ W j ∨ ((G j).length ≤ id ∧ id < (G (j + 1)).length))) → CH G W S m id = CH G W S i id
 | 0, hm, _ => by
  obtain rfl : i = 0 := by omega
  rfl
 | m + 1, hm, h => by
  by_cases he : i = m + 1
  ·rw [he]
  ·rw [← CH_after m (by omega) fun j h1 h2 => h j h1 (by omega)]
   simp only [CH]
   split
   ·rename_i hs
    exact absurd hs.2 (h m (by omega) (by omega) hs.1)
   ·rfl
theorem CH_congr {S' : Nat → Bool} {id : Nat} : ∀ m, (∀ j, j < m → S' j = S j) → CH G W S' m id = CH G W S m id
 | 0, _ => rfl
 | m + 1, h => by
  simp only [CH]
  rw [h m (by omega), CH_congr m fun j hj => h j (by omega)]
theorem G_mono (hG : ∀ j, j < N → (G j).length ≤ (G (j + 1)).length ∧ (∀ id, id < (G j).length → id ∉ W j → (G (j + 1))[id]? = (G j)[id]?)) {i : Nat} : ∀ m, i ≤ m → m ≤ N → (G i).length ≤ (G m).length
 | 0, hm, _ => by
  obtain rfl : i = 0 := by omega
  exact Nat.le_refl _
 | m + 1, hm, hN => by
  by_cases he : i = m + 1
  ·rw [he]; exact Nat.le_refl _
  ·exact Nat.le_trans (G_mono hG m (by omega) (by omega)) (hG m (by omega)).1
def crt (G : Nat → Heap) (N : Nat) (S : Nat → Bool) (id : Nat) : Prop := id < (G 0).length ∨ ∃ j, j < N ∧ S j = true ∧ (G j).length ≤ id ∧ id < (G (j + 1)).length
def CHL (G : Nat → Heap) (W : Nat → List Nat) (N : Nat) (S : Nat → Bool) : Heap := (List.range (G N).length).map fun id => (CH G W S N id).getD deadBlk
theorem CHL_get {id : Nat} {b : Blk} (h : CH G W S N id = some b) (hid : id < (G N).length) : (CHL G W N S)[id]? = some b := by
 unfold CHL
 rw [List.getElem?_map, List.getElem?_range hid]
 simp [h]
theorem CHL_congr {S' : Nat → Bool} {id : Nat} (h : CH G W S' N id = CH G W S N id) : (CHL G W N S')[id]? = (CHL G W N S)[id]? := by
 unfold CHL
 rw [List.getElem?_map, List.getElem?_map]
 by_cases hid : id < (G N).length
 ·rw [List.getElem?_range hid]
  simp [h]
 ·rw [List.getElem?_eq_none (by simpa using hid)]
  rfl
structure Inv (F : Nat → Prop) (w0 : World) (M : Nat → Prop) (k : Nat) (ι0 : Inj) (n : Nat) (dst : Nat → Option Tmp) (X : Nat → AV) (E0 : Env) (G : Nat → Heap) (W : Nat → List Nat) (N : Nat) (S : Nat → Bool) (ι : Inj) (a : Act) (w : World) : Prop where
 defers : a.defers = []
 size : a.tmps.size = n
 env : ∀ t, VR F ι w0 (CE dst X E0 S N t) (a.tmps.getD t undef)
 hs : HS F w0 ι M (crt G N S) (CHL G W N S) w
 cr : ∀ id, crt G N S id → ι id ≠ none
 nw : ∀ id, ¬ crt G N S id → ι id = none
 ws : WS w0 M w
 par : ∀ id, id < k → ι id = ι0 id
theorem Inv.step {ops : Array Oper} {i : Nat} {o : Oper} {S' : Nat → Bool} {KC : Act → World → Prop} {Q : Exit → Act → World → Prop} (hFS : FS F w0 M) (hN : N = ops.size) (hdst : ∀ j, dst j = (ops[j]?).bind (·.dst))
 (hstep : ∀ j o, ops[j]? = some o → SStep P ops o (E j) (G j) (X j) (G (j + 1)) (W j) (R j)) (hE : ∀ j, j < N → E (j + 1) = updO (E j) (dst j) (X j)) (hk : k ≤ (G 0).length)
 (hd : ∀ d, o.dst = some d → d < n) (hi : ops[i]? = some o) (hSi : S i = false) (hS' : ∀ j, S' j = if j = i then true else S j)
 (hlo : ∀ j oj, j < i → ops[j]? = some oj → S j = false → oj.apart ops o = true ∧ ∀ r, r ∈ R i → ¬ (r ∈ W j ∨ ((G j).length ≤ r ∧ r < (G (j + 1)).length)))
 (hhi : ∀ j oj, i < j → ops[j]? = some oj → S j = true → o.apart ops oj = true ∧ (∀ r, r ∈ R j → ¬ (r ∈ W i ∨ ((G i).length ≤ r ∧ r < (G (i + 1)).length))) ∧ ∀ r, r ∈ W j → r ∉ R i)
 (h : Inv F w0 M k ι0 n dst X (E 0) G W N S ι a w) (hK : ∀ a' w' ι', Inv F w0 M k ι0 n dst X (E 0) G W N S' ι' a' w' → KC a' w') :
 if Region.wanted o (yielded ops a.tmps) then o.wp P a w KC Q else KC (a.put o.dst undef) w := by
 have hiN : i < N := by rw [hN]; exact (Array.getElem?_eq_some_iff.1 hi).1
 have hop : ∀ j, j < N → ∃ oj, ops[j]? = some oj := fun j hj => ⟨ops[j]'(by omega), Array.getElem?_eq_getElem (by omega)⟩
 have hG : ∀ j, j < N → (G j).length ≤ (G (j + 1)).length ∧ (∀ id, id < (G j).length → id ∉ W j → (G (j + 1))[id]? = (G j)[id]?) := by
  intro j hj
  obtain ⟨oj, hoj⟩ := hop j hj
  have := (hstep j oj hoj).facts
  exact ⟨this.1, this.2.1⟩
 have hf := (hstep i o hi).facts
 have mono : ∀ i m, i ≤ m → m ≤ N → (G i).length ≤ (G m).length := fun i m => G_mono hG m
 have hdi : dst i = o.dst := by rw [hdst, hi]; rfl
 -- what is looked at
 have henv : ∀ t, t ∈ o.looksAt ops → CE dst X (E 0) S N t = E i t := by
  intro t ht
  rw [CE_after N (by omega) (i := i), CE_at hE i (by omega)]
  ·intro j hj hdj
   cases hs : S j with
   | true => rfl
   | false =>
    obtain ⟨oj, hoj⟩ := hop j (by omega)
    have := (Oper.apart_spec (hlo j oj hj hoj hs).1).1 t (by rw [hdst, hoj] at hdj; exact hdj)
    exact absurd ht this
  ·intro j h1 h2 hs hdj
   by_cases he : j = i
   ·subst he; rw [hSi] at hs; cases hs
   ·obtain ⟨oj, hoj⟩ := hop j h2
    have := (Oper.apart_spec (hhi j oj (by omega) hoj hs).1).2.2 t (by rw [hdst, hoj] at hdj; exact hdj)
    exact this ht
 have hblk : ∀ id, id ∈ R i → CH G W S N id = (G i)[id]? := by
  intro id hid
  rw [CH_after N (by omega) (i := i), CH_at hG i (by omega)]
  ·intro j hj hw
   cases hs : S j with
   | true => rfl
   | false =>
    obtain ⟨oj, hoj⟩ := hop j (by omega)
    exact absurd hw ((hlo j oj hj hoj hs).2 id hid)
  ·intro j h1 h2 hs hw
   by_cases he : j = i
   ·subst he; rw [hSi] at hs; cases hs
   ·obtain ⟨oj, hoj⟩ := hop j h2
    rcases hw with hw | ⟨hw, _⟩
    ·exact (hhi j oj (by omega) hoj hs).2.2 id hw hid
    ·have := hf.2.2.2 id hid
     have := mono i j (by omega) (by omega)
     omega
 have hcrt : ∀ id, id ∈ R i → crt G N S id := by
  intro id hid
  have hlt := hf.2.2.2 id hid
  have : ∀ m, m ≤ i → id < (G m).length → crt G N S id := by
   intro m
   induction m with
   | zero => intro _ h; exact Or.inl h
   | succ m ih =>
    intro hm h
    by_cases hmm : id < (G m).length
    ·exact ih (by omega) hmm
    ·refine Or.inr ⟨m, by omega, ?_, by omega, h⟩
     cases hs : S m with
     | true => rfl
     | false =>
      obtain ⟨oj, hoj⟩ := hop m (by omega)
      exact absurd (Or.inr ⟨by omega, h⟩) ((hlo m oj (by omega) hoj hs).2 id hid)
  exact this i (Nat.le_refl _) hlt
 have hget : ∀ id, id ∈ R i → (CHL G W N S)[id]? = (G i)[id]? := by
  intro id hid
  have hlt := hf.2.2.2 id hid
  have := mono i N (by omega) (Nat.le_refl _)
  rw [List.getElem?_eq_getElem hlt]
  exact CHL_get (by rw [hblk id hid, List.getElem?_eq_getElem hlt]) (by omega)
 have hnewS : ∀ id, (G i).length ≤ id → id < (G (i + 1)).length → ¬ crt G N S id := by
  rintro id h1 h2 (h3 | ⟨j, hj, hs, h3, h4⟩)
  ·have := mono 0 i (by omega) (by omega)
   omega
  ·by_cases he : j = i
   ·subst he; rw [hSi] at hs; cases hs
   ·rcases Nat.lt_or_gt_of_ne he with hlt | hgt
    ·have := mono (j + 1) i (by omega) (by omega)
     omega
    ·have := mono (i + 1) j (by omega) (by omega)
     omega
 have hcrt' : ∀ id, crt G N S' id ↔ crt G N S id ∨ ((G i).length ≤ id ∧ id < (G (i + 1)).length) := by
  intro id
  constructor
  ·rintro (h1 | ⟨j, hj, hs, h1⟩)
   ·exact Or.inl (Or.inl h1)
   ·rw [hS'] at hs
    by_cases he : j = i
    ·subst he; exact Or.inr h1
    ·rw [if_neg he] at hs
     exact Or.inl (Or.inr ⟨j, hj, hs, h1⟩)
  ·rintro ((h1 | ⟨j, hj, hs, h1⟩) | h1)
   ·exact Or.inl h1
   ·refine Or.inr ⟨j, hj, ?_, h1⟩
    rw [hS']
    split
    ·rfl
    ·exact hs
   ·exact Or.inr ⟨i, hiN, by rw [hS', if_pos rfl], h1⟩
 have hsub : HS F w0 ι M (· ∈ R i) (G i) w := (h.hs.weaken hcrt).congr fun id hid => (hget id hid).symm
 refine (hstep i o hi).sound hFS h.ws (fun t ht => by rw [← henv t ht]; exact h.env t) hsub (fun id hid => h.cr id (hcrt id hid)) (fun id h1 h2 => h.nw id (hnewS id h1 h2)) ?_
 intro v w' ι' hv hEf
 -- behind it
 have hCE : ∀ t, CE dst X (E 0) S' N t = if o.dst = some t then X i else CE dst X (E 0) S N t := by
  intro t
  have hlow : ∀ j, j < i → S' j = S j := fun j hj => by rw [hS', if_neg (by omega)]
  have key : ∀ m, i + 1 ≤ m → m ≤ N → CE dst X (E 0) S' m t = if o.dst = some t then X i else CE dst X (E 0) S m t := by
   intro m
   induction m with
   | zero => intro h; omega
   | succ m ih =>
    intro h1 h2
    by_cases he : m = i
    ·subst he
     simp only [CE]
     rw [hS', if_pos rfl, if_pos rfl, hSi, CE_congr m hlow, updO_app', hdi]
     simp
    ·have ih := ih (by omega) (by omega)
     simp only [CE]
     rw [hS', if_neg he]
     by_cases hs : S m = true
     ·rw [if_pos hs, if_pos hs, updO_app', updO_app', ih]
      by_cases hdm : dst m = some t
      ·rw [if_pos hdm, if_pos hdm, if_neg]
       intro hot
       obtain ⟨om, hom⟩ := hop m (by omega)
       rw [hdst, hom] at hdm
       exact (Oper.apart_spec (hhi m om (by omega) hom hs).1).2.1 t hot hdm
      ·rw [if_neg hdm, if_neg hdm]
     ·rw [if_neg hs, if_neg hs, ih]
  exact key N (by omega) (Nat.le_refl _)
 have hCH1 : ∀ id, id ∈ W i ∨ ((G i).length ≤ id ∧ id < (G (i + 1)).length) → CH G W S' N id = (G (i + 1))[id]? := by
  intro id hw
  rw [CH_after N (by omega) (i := i + 1)]
  ·simp only [CH]
   rw [if_pos ⟨by rw [hS', if_pos rfl], hw⟩]
  ·intro j h1 h2 hs hwj
   obtain ⟨oj, hoj⟩ := hop j h2
   rw [hS', if_neg (by omega)] at hs
   have hh := hhi j oj (by omega) hoj hs
   have hfj := (hstep j oj hoj).facts
   rcases hwj with hwj | ⟨hwj, _⟩
   ·exact hh.2.1 id (hfj.2.2.1 id hwj).1 hw
   ·have := mono (i + 1) j (by omega) (by omega)
    rcases hw with hw | hw
    ·have := hf.2.2.2 id (hf.2.2.1 id hw).1
     omega
    ·omega
 have hCH2 : ∀ id, ¬ (id ∈ W i ∨ ((G i).length ≤ id ∧ id < (G (i + 1)).length)) → CH G W S' N id = CH G W S N id := by
  intro id hw
  have hlow : ∀ j, j < i → S' j = S j := fun j hj => by rw [hS', if_neg (by omega)]
  have key : ∀ m, i + 1 ≤ m → m ≤ N → CH G W S' m id = CH G W S m id := by
   intro m
   induction m with
   | zero => intro h; omega
   | succ m ih =>
    intro h1 h2
    by_cases he : m = i
    ·subst he
     simp only [CH]
     rw [if_neg (fun x => hw x.2), if_neg (fun x => hw x.2)]
     exact CH_congr m hlow
    ·simp only [CH]
     rw [hS', if_neg he, ih (by omega) (by omega)]
  exact key N (by omega) (Nat.le_refl _)
 refine hK _ _ ι' ⟨?_, ?_, ?_, ?_, ?_, ?_, ?_, ?_⟩
 ·cases o.dst <;> exact h.defers
 ·cases o.dst with
  | none => exact h.size
  | some d => simp [Act.put, h.size]
 ·intro t
  rw [hCE]
  cases hod : o.dst with
  | none =>
   simp only [reduceCtorEq, if_false, Act.put]
   exact VR.mono (fun _ h => h) hEf.le (fun _ _ => rfl) _ (h.env t)
  | some d =>
   have hdl := hd d hod
   simp only [Act.put, Option.some.injEq]
   by_cases ht : d = t
   ·subst ht
    rw [if_pos rfl]
    have : d < a.tmps.size := by rw [h.size]; exact hdl
    simpa [Array.getD, this] using hv
   ·rw [if_neg ht]
    have := VR.mono (fun _ h => h) hEf.le (fun _ _ => rfl) _ (h.env t)
    rw [Array.getD_eq_getD_getElem?] at this ⊢
    rw [Array.getElem?_setIfInBounds_ne ht]
    exact this
 ·have := HS.stepC (G := CHL G W N S) (G' := CHL G W N S') hEf hFS h.ws.size h.hs (fun id hid => ?_) (fun id hc hn => hnewS id hn.1 hn.2 hc) (fun id hw => ?_) (fun id hc hw => ?_)
  ·exact this.weaken fun id hid => (hcrt' id).1 hid
  ·obtain ⟨h1, b, h2, h3⟩ := hf.2.2.1 id hid
   exact ⟨hcrt id h1, hf.2.2.2 id h1, b, h2, h3, by rw [hget id h1]; exact h2⟩
  ·have hlt : id < (G (i + 1)).length := by
    rcases hw with hw | hw
    ·have := hf.2.2.2 id (hf.2.2.1 id hw).1
     omega
    ·exact hw.2
   have := mono (i + 1) N (by omega) (Nat.le_refl _)
   rw [List.getElem?_eq_getElem hlt]
   exact CHL_get (by rw [hCH1 id hw, List.getElem?_eq_getElem hlt]) (by omega)
  ·exact CHL_congr (hCH2 id (by
    rintro (h1 | h1)
    ·exact hw h1
    ·exact hnewS id h1.1 h1.2 hc))
 ·intro id hc
  rcases (hcrt' id).1 hc with h1 | h1
  ·rw [hEf.old id (by
    by_cases h2 : id < (G i).length
    ·exact Or.inl h2
    ·refine Or.inr (Nat.le_of_not_lt fun h3 => hnewS id (by omega) h3 h1))]
   exact h.cr id h1
  ·obtain ⟨e, he, _⟩ := hEf.new id h1.1 h1.2
   rw [he]
   simp
 ·intro id hc
  have h1 : ¬ ((G i).length ≤ id ∧ id < (G (i + 1)).length) := fun h1 => hc ((hcrt' id).2 (Or.inr h1))
  rw [hEf.old id (by omega)]
  exact h.nw id fun h2 => hc ((hcrt' id).2 (Or.inl h2))
 ·exact h.ws.step hEf hsub fun id hid => hf.2.2.1 id hid
 ·intro id hid
  have := mono 0 i (by omega) (by omega)
  rw [hEf.old id (Or.inl (by omega))]
  exact h.par id hid
end
section
variable {P : Program} {F : Nat → Prop} {ι ι' ι0 : Inj} {w0 w w' : World} {M D : Nat → Prop} {H H' : Heap} {k n : Nat} {ρ : Env} {a : Act}
theorem awpD_chain {ops : Array Oper} {K : Env → Heap → Prop} : ∀ (l : List Oper) (acc : List Foot) (ρ : Env) (H : Heap), awpD P ops K l acc ρ H →
 ∃ (E : Nat → Env) (G : Nat → Heap) (X : Nat → AV) (W R : Nat → List Nat), E 0 = ρ ∧ G 0 = H ∧ (∀ j o, l[j]? = some o → SStep P ops o (E j) (G j) (X j) (G (j + 1)) (W j) (R j) ∧ E (j + 1) = updO (E j) o.dst (X j)) ∧
  (∃ A, dOk ops (acc.reverse ++ (List.range l.length).map fun j => ⟨(G j).length, (G (j + 1)).length, W j, R j⟩) A = true) ∧ K (E l.length) (G l.length)
 | [], acc, ρ, H, h => ⟨fun _ => ρ, fun _ => H, fun _ => .any, fun _ => [], fun _ => [], rfl, rfl, fun j o h => by simp at h, by simpa using h.1, h.2⟩
 | o :: rest, acc, ρ, H, h => by
  have key : ∃ x H' W R, SStep P ops o ρ H x H' W R ∧ awpD P ops K rest (⟨H.length, H'.length, W, R⟩ :: acc) (updO ρ o.dst x) H' := by
   simp only [awpD] at h
   split at h
   ·exact h.elim
   ·rename_i hg
    exact ⟨_, _, _, _, .skip hg, h⟩
   ·rename_i hg
    split at h
    ·rename_i f args hc
     split at h
     ·rename_i g first cap hf
      obtain ⟨m, v, h', Hb, hC, hk⟩ := h
      exact ⟨_, _, _, _, .call hg hc hf hC, hk⟩
     ·exact h.elim
    ·rename_i hc
     split at h
     ·rename_i x e hx
      exact ⟨_, _, _, _, .op hg hc hx, h⟩
     ·exact h.elim
  obtain ⟨x, H', W0, R0, hs, hr⟩ := key
  obtain ⟨E, G, X, W, R, h1, h2, h3, h4, h5⟩ := awpD_chain rest _ _ _ hr
  refine ⟨fun j => match j with | 0 => ρ | j + 1 => E j, fun j => match j with | 0 => H | j + 1 => G j, fun j => match j with | 0 => x | j + 1 => X j, fun j => match j with | 0 => W0 | j + 1 => W j, fun j => match j with | 0 => R0 | j + 1 => R j, rfl, rfl, ?_, ?_, ?_⟩
  ·intro j oj hj
   cases j with
   | zero =>
    simp at hj
    subst hj
    simp only [h1, h2]
    exact ⟨hs, trivial⟩
   | succ j => exact h3 j oj (by simpa using hj)
  ·rw [List.length_cons, List.range_succ_eq_map, List.map_cons, List.map_map]
   simp only [List.reverse_cons, List.append_assoc, List.singleton_append] at h4
   simp only [h2]
   exact h4
  ·simpa using h5
theorem awpD_sound {ops : Array Oper} {K : Env → Heap → Prop} {Q : Exit → Act → World → Prop} (hFS : FS F w0 M) (hQ : ∀ ρ' H' ι' a' w', K ρ' H' → St F w0 M k ι0 n ι' ρ' H' a' w' → Q .normal a' w')
 (hd : ∀ o, o ∈ ops → ∀ d, o.dst = some d → d < n) (hS : St F w0 M k ι0 n ι ρ H a w) (h : awpD P ops K ops.toList [] ρ H) : wpAny P .any ops Q ops.size (Array.replicate ops.size false) a w := by
 obtain ⟨E, G, X, W, R, hE0, hG0, hch, ⟨A, hok⟩, hK⟩ := awpD_chain _ _ _ _ h
 simp only [List.reverse_nil, List.nil_append, Array.length_toList] at hok hK
 have hch : ∀ j o, ops[j]? = some o → SStep P ops o (E j) (G j) (X j) (G (j + 1)) (W j) (R j) ∧ E (j + 1) = updO (E j) o.dst (X j) := fun j o hj => hch j o (by simpa using hj)
 have hop : ∀ j, j < ops.size → ∃ oj, ops[j]? = some oj := fun j hj => ⟨ops[j], Array.getElem?_eq_getElem hj⟩
 have hop' : ∀ (j : Nat) o, ops[j]? = some o → j < ops.size := fun j o h => (Array.getElem?_eq_some_iff.1 h).1
 -- what the check says
 have hacyc : ∀ j o e, ops[j]? = some o → e ∈ o.after → Region.binds .any e = true → e.on < j := by
  intro j o e hj he hb
  have := List.all_eq_true.1 hok j (List.mem_range.2 (hop' j o hj))
  rw [hj, Bool.and_eq_true, Bool.and_eq_true] at this
  have := List.all_eq_true.1 this.1.1 e (by simpa using he)
  simpa [hb] using this
 have hclash : ∀ i j oi oj, i < j → ops[i]? = some oi → ops[j]? = some oj → (A.getD j 0).testBit i = true ∨
  (oi.apart ops oj = true ∧ (∀ r, r ∈ R j → ¬ (r ∈ W i ∨ ((G i).length ≤ r ∧ r < (G (i + 1)).length))) ∧ ∀ r, r ∈ W j → r ∉ R i) := by
  intro i j oi oj hij hi hj
  have h1 := List.all_eq_true.1 hok j (List.mem_range.2 (hop' j oj hj))
  rw [hj, Bool.and_eq_true] at h1
  have h2 := List.all_eq_true.1 h1.2 i (List.mem_range.2 hij)
  rw [Bool.or_eq_true] at h2
  rcases h2.symm with h2 | h2
  ·right
   have fg : ∀ m, m < ops.size → (List.map (fun j => (⟨(G j).length, (G (j + 1)).length, W j, R j⟩ : Foot)) (List.range ops.size))[m]? = some ⟨(G m).length, (G (m + 1)).length, W m, R m⟩ := by
    intro m hm
    rw [List.getElem?_map, List.getElem?_range hm]
    rfl
   simp only [clashB, hi, hj, fg i (hop' i oi hi), fg j (hop' j oj hj), Bool.not_eq_true', Bool.or_eq_false_iff, Bool.not_eq_false', List.any_eq_false] at h2
   refine ⟨h2.1.1, fun r hr hw => ?_, fun r hr hm => ?_⟩
   ·have := h2.1.2 r hr
    simp only [Bool.or_eq_true, Bool.and_eq_true, decide_eq_true_eq, List.contains_iff_mem] at this
    exact this hw
   ·have := h2.2 r hr
    rw [List.contains_iff_mem] at this
    exact this hm
  ·exact Or.inl h2
 -- the invariant
 let dst : Nat → Option Tmp := fun j => (ops[j]?).bind (·.dst)
 have hstep : ∀ j o, ops[j]? = some o → SStep P ops o (E j) (G j) (X j) (G (j + 1)) (W j) (R j) := fun j o hj => (hch j o hj).1
 have hE : ∀ j, j < ops.size → E (j + 1) = updO (E j) (dst j) (X j) := by
  intro j hj
  obtain ⟨oj, hoj⟩ := hop j hj
  show E (j + 1) = updO (E j) ((ops[j]?).bind (·.dst)) (X j)
  rw [hoj]
  exact (hch j oj hoj).2
 have hG : ∀ j, j < ops.size → (G j).length ≤ (G (j + 1)).length ∧ (∀ id, id < (G j).length → id ∉ W j → (G (j + 1))[id]? = (G j)[id]?) := by
  intro j hj
  obtain ⟨oj, hoj⟩ := hop j hj
  have := (hstep j oj hoj).facts
  exact ⟨this.1, this.2.1⟩
 have main : ∀ (fuel : Nat) (L : List Nat) (listed : Array Bool) (ι : Inj) (a : Act) (w : World), L.length ≤ fuel → listed.size = ops.size → (∀ j, j < ops.size → listed.getD j false = false → j ∈ L) →
  (∀ j o e, ops[j]? = some o → e ∈ o.after → Region.binds .any e = true → listed.getD j false = true → listed.getD e.on false = true) →
  Inv F w0 M k ι0 n dst X (E 0) G W ops.size (fun j => listed.getD j false) ι a w → wpAny P .any ops Q fuel listed a w := by
  intro fuel
  have allDone : ∀ (listed : Array Bool) (ι : Inj) (a : Act) (w : World), listed.size = ops.size → Region.ready .any ops listed = [] → Inv F w0 M k ι0 n dst X (E 0) G W ops.size (fun j => listed.getD j false) ι a w → Q .normal a w := by
   intro listed ι a w hls hr hI
   have hall : ∀ j, j < ops.size → listed.getD j false = true := by
    intro j
    induction j using Nat.strongRecOn with
    | _ j ih =>
     intro hj
     cases hs : listed.getD j false with
     | true => rfl
     | false =>
      obtain ⟨oj, hoj⟩ := hop j hj
      have : j ∈ Region.ready .any ops listed := by
       refine mem_ready.2 ⟨?_, oj, hoj, fun e he hb => ?_⟩
       ·rw [Array.getD_eq_getD_getElem?] at hs ⊢
        rw [Array.getElem?_eq_getElem (by omega)] at hs ⊢
        exact hs
       ·have := hacyc j oj e hoj he hb
        exact ih e.on this (by omega)
      rw [hr] at this
      cases this
   refine hQ (E ops.size) (G ops.size) ι a w hK ?_
   have hce : ∀ t, CE dst X (E 0) (fun j => listed.getD j false) ops.size t = E ops.size t := fun t => CE_at hE ops.size (Nat.le_refl _) fun j hj _ => hall j hj
   have hcl : CHL G W ops.size (fun j => listed.getD j false) = G ops.size := by
    apply List.ext_getElem?
    intro id
    by_cases hid : id < (G ops.size).length
    ·rw [CHL_get (b := (G ops.size)[id]) (by rw [CH_at hG ops.size (Nat.le_refl _) fun j hj _ => hall j hj, List.getElem?_eq_getElem hid]) hid, List.getElem?_eq_getElem hid]
    ·rw [List.getElem?_eq_none (by simpa [CHL] using hid), List.getElem?_eq_none (by omega)]
   have hcr : ∀ id, crt G ops.size (fun j => listed.getD j false) id ↔ id < (G ops.size).length := by
    intro id
    constructor
    ·rintro (h1 | ⟨j, hj, _, h1, h2⟩)
     ·have := G_mono hG (i := 0) ops.size (by omega) (Nat.le_refl _)
      omega
     ·have := G_mono hG (i := j + 1) ops.size (by omega) (Nat.le_refl _)
      omega
    ·have : ∀ m, m ≤ ops.size → id < (G m).length → crt G ops.size (fun j => listed.getD j false) id := by
      intro m
      induction m with
      | zero => intro _ h; exact Or.inl h
      | succ m ih =>
       intro hm h
       by_cases hmm : id < (G m).length
       ·exact ih (by omega) hmm
       ·exact Or.inr ⟨m, by omega, hall m (by omega), by omega, h⟩
     exact this ops.size (Nat.le_refl _)
   refine ⟨hI.defers, hI.size, fun t => ?_, ?_, fun id hid => hI.cr id ((hcr id).2 hid), fun id hid => hI.nw id fun h => ?_, hI.ws, hI.par, ?_⟩
   ·have := hI.env t
    rw [hce] at this
    exact this
   ·have := hI.hs
    rw [hcl] at this
    exact this.weaken fun id hid => (hcr id).2 hid
   ·have := (hcr id).1 h
    omega
   ·have := G_mono hG (i := 0) ops.size (by omega) (Nat.le_refl _)
    rw [hG0] at this
    exact Nat.le_trans hS.kle this
  induction fuel with
  | zero =>
   intro L listed ι a w hL hls hun hcl hI
   have hr : Region.ready .any ops listed = [] := by
    rw [List.eq_nil_iff_forall_not_mem]
    intro j hj
    obtain ⟨h1, oj, hoj, _⟩ := mem_ready.1 hj
    have hlt := hop' j oj hoj
    have : j ∈ L := hun j hlt (by
     rw [Array.getD_eq_getD_getElem?] at h1 ⊢
     rw [Array.getElem?_eq_getElem (by omega)] at h1 ⊢
     exact h1)
    rw [List.eq_nil_of_length_eq_zero (Nat.le_zero.1 hL)] at this
    cases this
   exact ⟨hr, allDone listed ι a w hls hr hI⟩
  | succ fuel ih =>
   intro L listed ι a w hL hls hun hcl hI
   refine ⟨fun hr => allDone listed ι a w hls hr hI, fun i hi => ?_⟩
   obtain ⟨hi1, oi, hoi, hi2⟩ := mem_ready.1 hi
   have hlt := hop' i oi hoi
   have hSi : listed.getD i false = false := by
    rw [Array.getD_eq_getD_getElem?] at hi1 ⊢
    rw [Array.getElem?_eq_getElem (by omega)] at hi1 ⊢
    exact hi1
   have hS' : ∀ j, (listed.setIfInBounds i true).getD j false = if j = i then true else listed.getD j false := by
    intro j
    by_cases he : j = i
    ·subst he
     rw [if_pos rfl, Array.getD_eq_getD_getElem?, Array.getElem?_setIfInBounds_self_of_lt (by omega)]
     rfl
    ·rw [if_neg he]
     exact getD_set_ne false (fun e => he e.symm)
   have hcl' : ∀ j o e, ops[j]? = some o → e ∈ o.after → Region.binds .any e = true → (listed.setIfInBounds i true).getD j false = true → (listed.setIfInBounds i true).getD e.on false = true := by
    intro j o e hj he hb hs
    rw [hS'] at hs
    by_cases hji : j = i
    ·subst hji
     rw [hoi] at hj
     obtain rfl := Option.some.inj hj
     exact getD_set_true (hi2 e he hb)
    ·rw [if_neg hji] at hs
     exact getD_set_true (hcl j o e hj he hb hs)
   unfold wpOp
   rw [hoi]
   have hst := Inv.step (P := P) (ops := ops) (S' := fun j => (listed.setIfInBounds i true).getD j false) (KC := wpAny P .any ops Q fuel (listed.setIfInBounds i true)) (Q := Q) hFS rfl (fun j => rfl) hstep hE (by rw [hG0]; exact hS.kle) (hd oi (Array.mem_of_getElem? hoi)) hoi hSi hS' ?_ ?_ hI ?_
   ·simp only
    split at hst
    ·rename_i hw
     rw [if_pos hw]
     exact Or.inl hst
    ·rename_i hw
     rw [if_neg hw]
     exact hst
   ·intro j oj hj hoj hs
    rcases hclash j i oj oi hj hoj hoi with h1 | h1
    ·have := ancT_closed hok (S := fun j => (listed.setIfInBounds i true).getD j false = true) (fun j o e h1 h2 h3 h4 => hcl' j o e h1 h2 h3 h4) _ _ (by assumption) h1 (by rw [hS', if_pos rfl])
     rw [hS', if_neg (by omega), hs] at this
     cases this
    ·exact ⟨h1.1, h1.2.1⟩
   ·intro j oj hj hoj hs
    rcases hclash i j oi oj hj hoi hoj with h1 | h1
    ·have := ancT_closed hok (S := fun j => listed.getD j false = true) (fun j o e h1 h2 h3 h4 => hcl j o e h1 h2 h3 h4) _ _ (hop' _ _ (by assumption)) h1 hs
     rw [hSi] at this
     cases this
    ·exact h1
   ·intro a' w' ι' hI'
    refine ih (L.erase i) (listed.setIfInBounds i true) ι' a' w' ?_ (by simpa using hls) ?_ hcl' hI'
    ·rw [List.length_erase_of_mem (hun i hlt hSi)]
     omega
    ·intro j hj hs
     rw [hS'] at hs
     by_cases he : j = i
     ·rw [if_pos he] at hs; cases hs
     ·rw [if_neg he] at hs
      exact (List.mem_erase_of_ne he).2 (hun j hj hs)
 refine main ops.size (List.range ops.size) _ ι a w (by simp) (by simp) (fun j hj _ => List.mem_range.2 hj) ?_ ?_
 ·intro j o e _ _ _ h
  rw [Array.getD_eq_getD_getElem?, Array.getElem?_replicate] at h
  split at h <;> simp at h
 ·have hS0 : ∀ j, (Array.replicate ops.size false).getD j false = false := by
   intro j
   rw [Array.getD_eq_getD_getElem?, Array.getElem?_replicate]
   split <;> rfl
  have hce : ∀ m, CE dst X (E 0) (fun j => (Array.replicate ops.size false).getD j false) m = E 0 := by
   intro m
   induction m with
   | zero => rfl
   | succ m ih =>
    simp only [CE]
    rw [if_neg (by rw [hS0]; simp)]
    exact ih
  have hchh : ∀ m id, CH G W (fun j => (Array.replicate ops.size false).getD j false) m id = (G 0)[id]? := by
   intro m id
   induction m with
   | zero => rfl
   | succ m ih =>
    simp only [CH]
    rw [if_neg (by rw [hS0]; simp)]
    exact ih
  have hcr : ∀ id, crt G ops.size (fun j => (Array.replicate ops.size false).getD j false) id ↔ id < H.length := by
   intro id
   rw [← hG0]
   constructor
   ·rintro (h1 | ⟨j, _, hs, _⟩)
    ·exact h1
    ·simp only [hS0] at hs
     cases hs
   ·exact Or.inl
  have hm := G_mono hG (i := 0) ops.size (by omega) (Nat.le_refl _)
  refine ⟨hS.defers, hS.size, fun t => ?_, ?_, fun id hid => hS.cr id ((hcr id).1 hid), fun id hid => hS.nw id (Nat.le_of_not_lt fun h => hid ((hcr id).2 h)), hS.ws, hS.par⟩
  ·rw [hce, hE0]
   exact hS.env t
  ·refine (hS.hs.weaken fun id hid => (hcr id).1 hid).congr fun id hid => ?_
   have hlt := (hcr id).1 hid
   rw [List.getElem?_eq_getElem hlt]
   refine CHL_get ?_ (by rw [hG0] at hm; omega)
   rw [hchh, hG0, List.getElem?_eq_getElem hlt]
theorem St.drawn {w2 : World} (h : St F w0 M k ι0 n ι ρ H a w) (h1 : w2.heap = w.heap) (h2 : w2.os = w.os) (h3 : w2.tape = w.tape) (h4 : w2.output = w.output) : St F w0 M k ι0 n ι ρ H a w2 := by
 refine ⟨h.defers, h.size, h.env, ⟨?_, h.hs.inj, h.hs.own⟩, h.cr, h.nw, ⟨?_, ?_, ?_, ?_, ?_⟩, h.par, h.kle⟩
 ·intro id b e hd hb hl he
  exact (h.hs.br id b e hd hb hl he).mono (Inj.le_refl _) fun c _ => by rw [h1]
 ·intro c hc hm; rw [h1]; exact h.ws.agree c hc hm
 ·rw [h2]; exact h.ws.os
 ·rw [h3]; exact h.ws.tape
 ·rw [h4]; exact h.ws.out
 ·rw [h1]; exact h.ws.size
end
end Go.Proofs.YtgpjgljgplngpaaGreatDoor.AM
