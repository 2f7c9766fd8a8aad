/- The abstract machine, part 23: a slice that may be nil. No conditions. -/
import Derived.Test.YtgddflnhibhacaaAm22
set_option linter.unusedVariables false
set_option linter.unusedSimpArgs false
namespace Go.Proofs.Ytgddflnhibhacaa.AM
open Go
section
variable {P : Program}
/-- A slice is nil, or it is not. -/
theorem VR_sl_cases {F : Nat → Prop} {ι : Inj} {w : World} {len cap : Nat} {cs : List AV} {v : Value} (h : VR F ι w (.sl len cap cs) v) : (len = 0 ∧ cs = [] ∧ VR F ι w .nilsl v) ∨ VR F ι w (.nnsl len cap cs) v := by
  simp only [VR] at h ⊢
  obtain ⟨a, ccap, rfl, h2, h3, hz, h4⟩ := h
  cases a with
  | none =>
    left
    obtain rfl := hz rfl
    obtain rfl : len = 0 := by omega
    rcases h4 with ⟨rfl, _⟩ | ⟨c, off, vs, h5, _⟩
    · exact ⟨rfl, rfl, rfl⟩
    · simp at h5
  | some a =>
    right
    refine ⟨a, ccap, rfl, h2, h3, ?_⟩
    rcases h4 with h4 | ⟨c, off, vs, h5, h6⟩
    · exact Or.inl h4
    · exact Or.inr ⟨c, off, vs, by simpa using h5, h6⟩
theorem sat_sl {f : FuncId} {len cap : Nat} {cs rest : List AV} {h h' : Heap} {v : AV} (h1 : len = 0 → cs = [] → Sat P f (.nilsl :: rest) h v h') (h2 : Sat P f (.nnsl len cap cs :: rest) h v h') : Sat P f (.sl len cap cs :: rest) h v h' := by
  refine ⟨h2.1, fun F ι w cargs a1 a2 a3 a4 a5 => ?_⟩
  obtain ⟨u, us, hu, hv, hr⟩ := VRL_cons.1 a5
  rcases VR_sl_cases hv with ⟨g1, g2, g3⟩ | g3
  · exact (h1 g1 g2).2 F ι w cargs a1 a2 a3 a4 (VRL_cons.2 ⟨u, us, hu, g3, hr⟩)
  · exact h2.2 F ι w cargs a1 a2 a3 a4 (VRL_cons.2 ⟨u, us, hu, g3, hr⟩)
/-- A nil slice that comes back is a slice of an empty block. -/
theorem sat_nil_back {f : FuncId} {args : List AV} {h : Heap} {sz : Nat} (hs : Sat P f args h .nilsl h) : Sat P f args h (.slice h.length 0 0 0) (h ++ [⟨sz, [], true, false⟩]) := by
  refine ⟨hs.1, fun F ι w cargs a1 a2 a3 a4 a5 => ?_⟩
  refine (hs.2 F ι w cargs a1 a2 a3 a4 a5).mono ?_
  rintro e w' ⟨cv, ι', rfl, hv, hE⟩
  have hn : ι' h.length = none := by rw [hE.old h.length (Or.inr (Nat.le_refl _))]; exact a3 _ (Nat.le_refl _)
  have hle := Inj.le_set (e := (none : Option Emb)) hn
  refine ⟨cv, ι'.set h.length none, rfl, ?_, ?_⟩
  · simp only [VR] at hv ⊢
    subst hv
    exact Or.inr ⟨by simp [Inj.set], by simp⟩
  · have hold : ∀ id, id ≠ h.length → (ι'.set h.length none) id = ι' id := fun id hid => by simp [Inj.set, hid]
    refine ⟨by simp, Inj.le_trans hE.le hle, ?_, ?_, ?_, ?_, ?_, ?_, hE.frame, hE.os, hE.tape, hE.out, hE.size⟩
    · intro id hid
      have hne : id ≠ h.length := by
        rintro rfl
        simp at hid
        omega
      rw [hold id hne]
      refine hE.old id ?_
      simp at hid
      omega
    · intro id g1 g2
      simp at g2
      obtain rfl : id = h.length := by omega
      refine ⟨none, by simp [Inj.set], fun b hb _ => ?_⟩
      simp at hb
      subst hb
      rfl
    · intro id c g1 g2 g3
      simp at g2
      obtain rfl : id = h.length := by omega
      simp [Inj.set] at g3
    · intro id id' c c' g1 g2 g3 g4 g5 g6
      simp at g2
      obtain rfl : id = h.length := by omega
      simp [Inj.set] at g5
    · intro id b e g1 g2 g3 g4
      have hlt : id < h.length := by simpa using g1
      rw [List.getElem?_append_left hlt] at g2
      have := hE.wr id b e g1 g2 g3 g4
      cases e with
      | none => exact this
      | some c => exact BR.mono this hle rfl
    · intro id g1 g2
      rw [List.getElem?_append_left g1]
end
end Go.Proofs.Ytgddflnhibhacaa.AM
