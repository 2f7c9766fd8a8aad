/- The abstract machine, part 11: values handed on to a call, and what comes back; what is dropped. No conditions. -/
import Derived.Test.YtgddflnhibhacaaAm10
set_option linter.unusedVariables false
set_option linter.unusedSimpArgs false
namespace Go.Proofs.Ytgddflnhibhacaa.AM
open Go

/-- A value as a callee (or a later stretch) sees it: blocks that 'inv' names are its own under the number told; others are read only, with what lies in Hb, or forgotten. -/
def bor (Hb : Heap) (inv : Nat → Option Nat) : Nat → AV → AV
  | 0, _ => .any
  | n + 1, x => match x with
    | .ptr id off => match inv id with
      | some j => .ptr j off
      | none => match Hb[id]? with
        | some b => if b.live = true then .sptr ((b.cells.drop off).map (bor Hb inv n)) else .any
        | none => .any
    | .slice id off len cap => match inv id with
      | some j => .slice j off len cap
      | none => match Hb[id]? with
        | some b => if b.live = true then .sl len len (((b.cells.drop off).take (len * b.sz)).map (bor Hb inv n)) else .any
        | none => .any
    | .agg cs => .agg (cs.map (bor Hb inv n))
    | .tuple cs => .tuple (cs.map (bor Hb inv n))
    | .func f a b => .func f (a.map (bor Hb inv n)) (b.map (bor Hb inv n))
    | .sptr cs => .sptr (cs.map (bor Hb inv n))
    | .sl len cap cs => .sl len cap (cs.map (bor Hb inv n))
    | .nnsl len cap cs => .nnsl len cap (cs.map (bor Hb inv n))
    | x => x

mutual
/-- The blocks get other numbers. -/
def sh (mm : Nat → Nat) : AV → AV
  | .ptr id off => .ptr (mm id) off
  | .slice id off len cap => .slice (mm id) off len cap
  | .sptr cs => .sptr (shL mm cs)
  | .sl len cap cs => .sl len cap (shL mm cs)
  | .nnsl len cap cs => .nnsl len cap (shL mm cs)
  | .func f a b => .func f (shL mm a) (shL mm b)
  | .agg cs => .agg (shL mm cs)
  | .tuple cs => .tuple (shL mm cs)
  | .any => .any
  | .bool b => .bool b
  | .int k n => .int k n
  | .str s => .str s
  | .nilp => .nilp
  | .esl => .esl
  | .nilsl => .nilsl
  | .nilfn => .nilfn
  | .someif => .someif
  | .nilif => .nilif
def shL (mm : Nat → Nat) : List AV → List AV
  | [] => []
  | x :: xs => sh mm x :: shL mm xs
end
mutual
/-- No part is a view of memory that is only read. -/
def noS : AV → Bool
  | .sptr _ | .sl _ _ _ | .nnsl _ _ _ => false
  | .func _ a b => noSL a && noSL b
  | .agg cs => noSL cs
  | .tuple cs => noSL cs
  | .any => true
  | .bool _ => true
  | .int _ _ => true
  | .str _ => true
  | .nilp => true
  | .ptr _ _ => true
  | .esl => true
  | .nilsl => true
  | .slice _ _ _ _ => true
  | .nilfn => true
  | .someif => true
  | .nilif => true
def noSL : List AV → Bool
  | [] => true
  | x :: xs => noS x && noSL xs
end

section
variable {P : Program} {F Fc : Nat → Prop} {ι ιc : Inj} {w0 wc w : World} {Hb : Heap} {inv : Nat → Option Nat}

theorem VRL_map' {f : AV → AV} (hf : ∀ x v, VR F ι w0 x v → VR Fc ιc wc (f x) v) : ∀ {xs : List AV} {vs : List Value}, VRL F ι w0 xs vs → VRL Fc ιc wc (xs.map f) vs
  | [], vs, h => by rw [VRL_nil] at h; subst h; simp [VRL_nil]
  | x :: xs, vs, h => by
    obtain ⟨v, rest, rfl, h1, h2⟩ := VRL_cons.1 h
    exact VRL_cons.2 ⟨v, rest, rfl, hf x v h1, VRL_map' hf h2⟩

theorem bor_sound (hF : ∀ c, F c → Fc c) (hw : ∀ c, F c → wc.heap[c]? = w0.heap[c]?) (hinv : ∀ id j e, inv id = some j → ι id = some e → ιc j = some e)
    (hb : ∀ id b e, inv id = none → Hb[id]? = some b → b.live = true → ι id = some (some e) → Fc e.blk ∧ ∃ vs, VRL F ι w0 b.cells vs ∧ CellsAt wc e.blk 0 vs) :
    ∀ (n : Nat) (x : AV) (v : Value), VR F ι w0 x v → VR Fc ιc wc (bor Hb inv n x) v := by
  intro n
  induction n with
  | zero => intro x v _; simp [bor, VR]
  | succ n ih =>
    intro x v h
    cases x with
    | ptr id off =>
      simp only [bor]
      simp only [VR] at h
      obtain ⟨e, h1, h2⟩ := h
      cases hi : inv id with
      | some j => simp only [VR]; exact ⟨e, hinv id j _ hi h1, h2⟩
      | none =>
        simp only
        split
        · rename_i b hbk
          split
          · rename_i hl
            obtain ⟨g1, vs, g2, g3⟩ := hb id b e hi hbk hl h1
            simp only [VR]
            refine ⟨e.blk, off, vs.drop off, h2, g1, ?_, VRL_map' ih (g2.drop off)⟩
            simpa using g3.drop off
          · simp [VR]
        · simp [VR]
    | slice id off len cap =>
      simp only [bor]
      simp only [VR] at h
      cases hi : inv id with
      | some j =>
        simp only [VR]
        rcases h with ⟨c, ccap, off', h1, h2⟩ | ⟨h1, h2⟩
        · exact Or.inl ⟨c, ccap, off', hinv id j _ hi h1, h2⟩
        · exact Or.inr ⟨hinv id j _ hi h1, h2⟩
      | none =>
        simp only
        split
        · rename_i b hbk
          split
          · rename_i hl
            simp only [VR]
            rcases h with ⟨c, ccap, off', h1, rfl, h2, h3, h4, h5⟩ | ⟨h1, rfl, rfl, a, rfl⟩
            · refine ⟨_, ccap, rfl, h3, h3, fun h => by simp at h, ?_⟩
              by_cases h0 : ccap = 0
              · obtain rfl : len = 0 := by omega
                exact Or.inl ⟨by simp, rfl⟩
              · obtain rfl : off' = off := by omega
                obtain ⟨g1, vs, g2, g3⟩ := hb id b c hi hbk hl h1
                have := (g3.drop off').take (len * b.sz)
                rw [Nat.zero_add] at this
                exact Or.inr ⟨c.blk, off', _, rfl, g1, this, VRL_map' ih ((g2.drop off').take _)⟩
            · exact ⟨a, 0, rfl, Nat.le_refl _, Nat.le_refl _, fun _ => rfl, Or.inl ⟨by simp, rfl⟩⟩
          · simp [VR]
        · simp [VR]
    | agg cs =>
      simp only [bor]
      simp only [VR] at h ⊢
      obtain ⟨vs, h1, h2, h3⟩ := h
      exact ⟨vs, h1, VRL_map' ih h2, h3⟩
    | tuple cs =>
      simp only [bor]
      simp only [VR] at h ⊢
      obtain ⟨vs, h1, h2⟩ := h
      exact ⟨vs, h1, VRL_map' ih h2⟩
    | func f a b =>
      simp only [bor]
      simp only [VR] at h ⊢
      obtain ⟨fs, cs, h1, h2, h3⟩ := h
      exact ⟨fs, cs, h1, VRL_map' ih h2, VRL_map' ih h3⟩
    | sptr cs =>
      simp only [bor]
      simp only [VR] at h ⊢
      obtain ⟨c, off, vs, h1, h2, h3, h4⟩ := h
      exact ⟨c, off, vs, h1, hF c h2, h3.world (hw c h2), VRL_map' ih h4⟩
    | sl len cap cs =>
      simp only [bor]
      simp only [VR] at h ⊢
      obtain ⟨a, ccap, h1, h2, h3, hz, h4⟩ := h
      refine ⟨a, ccap, h1, h2, h3, hz, ?_⟩
      rcases h4 with ⟨rfl, h4⟩ | ⟨c, off, vs, h5, h6, h7, h8⟩
      · exact Or.inl ⟨rfl, h4⟩
      · exact Or.inr ⟨c, off, vs, h5, hF c h6, h7.world (hw c h6), VRL_map' ih h8⟩
    | nnsl len cap cs =>
      simp only [bor]
      simp only [VR] at h ⊢
      obtain ⟨a, ccap, h1, h2, h3, h4⟩ := h
      refine ⟨a, ccap, h1, h2, h3, ?_⟩
      rcases h4 with ⟨rfl, h4⟩ | ⟨c, off, vs, h5, h6, h7, h8⟩
      · exact Or.inl ⟨rfl, h4⟩
      · exact Or.inr ⟨c, off, vs, h5, hF c h6, h7.world (hw c h6), VRL_map' ih h8⟩
    | any => simp [bor, VR]
    | bool b => simpa [bor, VR] using h
    | int k n => simpa [bor, VR] using h
    | str s => simpa [bor, VR] using h
    | nilp => simpa [bor, VR] using h
    | esl => simpa [bor, VR] using h
    | nilsl => simpa [bor, VR] using h
    | nilfn => simpa [bor, VR] using h
    | someif => simpa [bor, VR] using h
    | nilif => simpa [bor, VR] using h

mutual
/-- What comes back: nothing in it is a view, or what is only read by the callee was so already. -/
theorem sh_sound {mm : Nat → Nat} (hmm : ∀ j e, ιc j = some e → ι (mm j) = some e) (hF : ∀ c, Fc c → F c ∧ w0.heap[c]? = wc.heap[c]?) : ∀ (x : AV) (v : Value), VR Fc ιc wc x v → VR F ι w0 (sh mm x) v
  | .ptr id off, v, h => by
    simp only [sh, VR] at h ⊢
    obtain ⟨e, h1, h2⟩ := h
    exact ⟨e, hmm _ _ h1, h2⟩
  | .slice id off len cap, v, h => by
    simp only [sh, VR] at h ⊢
    rcases h with ⟨c, ccap, off', h1, h2⟩ | ⟨h1, h2⟩
    · exact Or.inl ⟨c, ccap, off', hmm _ _ h1, h2⟩
    · exact Or.inr ⟨hmm _ _ h1, h2⟩
  | .sptr cs, v, h => by
    simp only [sh, VR] at h ⊢
    obtain ⟨c, off, vs, h1, h2, h3, h4⟩ := h
    exact ⟨c, off, vs, h1, (hF c h2).1, h3.world (hF c h2).2, shL_sound hmm hF cs vs h4⟩
  | .sl len cap cs, v, h => by
    simp only [sh, VR] at h ⊢
    obtain ⟨a, ccap, h1, h2, h3, hz, h4⟩ := h
    refine ⟨a, ccap, h1, h2, h3, hz, ?_⟩
    rcases h4 with ⟨rfl, h4⟩ | ⟨c, off, vs, h5, h6, h7, h8⟩
    · exact Or.inl ⟨rfl, h4⟩
    · exact Or.inr ⟨c, off, vs, h5, (hF c h6).1, h7.world (hF c h6).2, shL_sound hmm hF cs vs h8⟩
  | .nnsl len cap cs, v, h => by
    simp only [sh, VR] at h ⊢
    obtain ⟨a, ccap, h1, h2, h3, h4⟩ := h
    refine ⟨a, ccap, h1, h2, h3, ?_⟩
    rcases h4 with ⟨rfl, h4⟩ | ⟨c, off, vs, h5, h6, h7, h8⟩
    · exact Or.inl ⟨rfl, h4⟩
    · exact Or.inr ⟨c, off, vs, h5, (hF c h6).1, h7.world (hF c h6).2, shL_sound hmm hF cs vs h8⟩
  | .func f a b, v, h => by
    simp only [sh, VR] at h ⊢
    obtain ⟨fs, cs, h1, h2, h3⟩ := h
    exact ⟨fs, cs, h1, shL_sound hmm hF a _ h2, shL_sound hmm hF b _ h3⟩
  | .agg cs, v, h => by
    simp only [sh, VR] at h ⊢
    obtain ⟨vs, h1, h2, h3⟩ := h
    exact ⟨vs, h1, shL_sound hmm hF cs _ h2, h3⟩
  | .tuple cs, v, h => by
    simp only [sh, VR] at h ⊢
    obtain ⟨vs, h1, h2⟩ := h
    exact ⟨vs, h1, shL_sound hmm hF cs _ h2⟩
  | .any, v, h => by simp [sh, VR]
  | .bool b, v, h => by simpa [sh, VR] using h
  | .int k n, v, h => by simpa [sh, VR] using h
  | .str s, v, h => by simpa [sh, VR] using h
  | .nilp, v, h => by simpa [sh, VR] using h
  | .esl, v, h => by simpa [sh, VR] using h
  | .nilsl, v, h => by simpa [sh, VR] using h
  | .nilfn, v, h => by simpa [sh, VR] using h
  | .someif, v, h => by simpa [sh, VR] using h
  | .nilif, v, h => by simpa [sh, VR] using h
theorem shL_sound {mm : Nat → Nat} (hmm : ∀ j e, ιc j = some e → ι (mm j) = some e) (hF : ∀ c, Fc c → F c ∧ w0.heap[c]? = wc.heap[c]?) : ∀ (xs : List AV) (vs : List Value), VRL Fc ιc wc xs vs → VRL F ι w0 (shL mm xs) vs
  | [], vs, h => by simpa [shL, VRL] using h
  | x :: xs, vs, h => by
    obtain ⟨v, rest, rfl, h1, h2⟩ := VRL_cons.1 h
    simp only [shL]
    exact VRL_cons.2 ⟨v, rest, rfl, sh_sound hmm hF x v h1, shL_sound hmm hF xs rest h2⟩
end
mutual
/-- A value without views hangs on no memory that is only read. -/
theorem noS_any {F' : Nat → Prop} {w' : World} : ∀ (x : AV) (v : Value), noS x = true → VR F ι w0 x v → VR F' ι w' x v
  | .sptr _, _, h, _ => by simp [noS] at h
  | .sl _ _ _, _, h, _ => by simp [noS] at h
  | .nnsl _ _ _, _, h, _ => by simp [noS] at h
  | .func f a b, v, h, hv => by
    simp only [noS, Bool.and_eq_true] at h
    simp only [VR] at hv ⊢
    obtain ⟨fs, cs, h1, h2, h3⟩ := hv
    exact ⟨fs, cs, h1, noSL_any a _ h.1 h2, noSL_any b _ h.2 h3⟩
  | .agg cs, v, h, hv => by
    simp only [noS] at h
    simp only [VR] at hv ⊢
    obtain ⟨vs, h1, h2, h3⟩ := hv
    exact ⟨vs, h1, noSL_any cs _ h h2, h3⟩
  | .tuple cs, v, h, hv => by
    simp only [noS] at h
    simp only [VR] at hv ⊢
    obtain ⟨vs, h1, h2⟩ := hv
    exact ⟨vs, h1, noSL_any cs _ h h2⟩
  | .ptr _ _, v, _, h => by simpa [VR] using h
  | .slice _ _ _ _, v, _, h => by simpa [VR] using h
  | .any, v, _, h => by simp [VR]
  | .bool b, v, _, h => by simpa [VR] using h
  | .int k n, v, _, h => by simpa [VR] using h
  | .str s, v, _, h => by simpa [VR] using h
  | .nilp, v, _, h => by simpa [VR] using h
  | .esl, v, _, h => by simpa [VR] using h
  | .nilsl, v, _, h => by simpa [VR] using h
  | .nilfn, v, _, h => by simpa [VR] using h
  | .someif, v, _, h => by simpa [VR] using h
  | .nilif, v, _, h => by simpa [VR] using h
theorem noSL_any {F' : Nat → Prop} {w' : World} : ∀ (xs : List AV) (vs : List Value), noSL xs = true → VRL F ι w0 xs vs → VRL F' ι w' xs vs
  | [], vs, _, h => by simpa [VRL] using h
  | x :: xs, vs, h, hv => by
    simp only [noSL, Bool.and_eq_true] at h
    obtain ⟨v, rest, rfl, h1, h2⟩ := VRL_cons.1 hv
    exact VRL_cons.2 ⟨v, rest, rfl, noS_any x v h.1 h1, noSL_any xs rest h.2 h2⟩
end
end
end Go.Proofs.Ytgddflnhibhacaa.AM
