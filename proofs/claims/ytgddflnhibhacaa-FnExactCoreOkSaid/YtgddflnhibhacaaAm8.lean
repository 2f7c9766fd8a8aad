/- The abstract machine, part 8: its operations are sound: literals, new blocks, copies. No conditions. -/
import Derived.Test.YtgddflnhibhacaaAm7
import Derived.Great.FillDense
set_option linter.unusedVariables false
set_option linter.unusedSimpArgs false
namespace Go.Proofs.Ytgddflnhibhacaa.AM
open Go

section
variable {P : Program} {F : Nat → Prop} {ι ι' : Inj} {w0 w : World} {a : Act} {ρ : Operand → AV} {H : Heap}

theorem foldl_splice (off : Nat) (l : List Value) : ∀ (s : Nat) (cs : Array Value), off + s + l.length ≤ cs.size →
    ((l.toArray.zipIdx s).foldl (init := cs) fun cs (c, j) => cs.setIfInBounds (off + j) c) = (cs.toList.take (off + s) ++ l ++ cs.toList.drop (off + s + l.length)).toArray := by
  intro s cs h
  rw [← Array.foldl_toList]
  simp only [Array.toList_zipIdx]
  induction l generalizing s cs with
  | nil => simp
  | cons x xs ih =>
    simp only [List.zipIdx_cons, List.foldl_cons]
    rw [ih (s + 1) _ (by simp at h ⊢; omega)]
    apply Array.ext'
    simp only [Array.toList_setIfInBounds, List.length_cons, ← Nat.add_assoc]
    have hlt : off + s < cs.toList.length := by simp at h ⊢; omega
    rw [List.take_set, List.drop_set]
    rw [if_pos (by omega)]
    have e1 : (List.take (off + s + 1) cs.toList).set (off + s) x = cs.toList.take (off + s) ++ [x] := by
      rw [List.take_succ_eq_append_getElem hlt, List.set_append_right _ _ (by simp; omega)]
      have hlt' : off + s < cs.size := by simpa using hlt
      simp [Nat.min_eq_left (Nat.le_of_lt hlt')]
    rw [e1]
    simp [show off + s + xs.length + 1 = off + s + (xs.length + 1) by omega, show off + s + 1 + xs.length = off + s + (xs.length + 1) by omega]

theorem fill_one {place : Nat → Option (Nat × Nat)} {cells : Array Value} {i off : Nat} {v : Value} {rest : List (Nat × Value)} (hp : place i = some (off, v.cells.size)) (hl : off + v.cells.size ≤ cells.size) :
    Instr.fill place cells ((i, v) :: rest) = Instr.fill place (cells.toList.take off ++ v.cells.toList ++ cells.toList.drop (off + v.cells.size)).toArray rest := by
  have h := foldl_splice off v.cells.toList 0 cells (by simpa using hl)
  simp only [Array.toArray_toList, Nat.add_zero, Array.length_toList] at h
  conv => lhs; unfold Instr.fill
  simp only [hp]
  rw [if_neg (by simp; omega), h]

theorem fill_sound {t : TypeId} {fs : Array Field} {places : Array (Nat × Nat)} (hu : P.underlying t = some (.struct fs)) (hpl : ∀ (i o : Nat) ft n, tField P t i = some (o, ft) → tSize P ft = some n → places[i]? = some (o, n)) :
    ∀ (ps : List (Nat × AV)) (qs : List (Nat × Value)) (cs0 cs : List AV) (cells : Array Value), ps.map (·.1) = qs.map (·.1) → (∀ (k : Nat) p q, ps[k]? = some p → qs[k]? = some q → VR F ι w0 p.2 q.2) →
      VRL F ι w0 cs0 cells.toList → (∀ u ∈ cells.toList, u.oneCell' = true) → aFill P t cs0 ps = some cs →
      ∃ cells', Instr.fill (places[·]?) cells qs = some cells' ∧ VRL F ι w0 cs cells'.toList ∧ ∀ u ∈ cells'.toList, u.oneCell' = true
  | [], [], cs0, cs, cells, _, _, h1, h2, h => by
    simp only [aFill, Option.some.injEq] at h
    subst h
    exact ⟨cells, rfl, h1, h2⟩
  | [], _ :: _, _, _, _, hm, _, _, _, _ => by simp at hm
  | _ :: _, [], _, _, _, hm, _, _, _, _ => by simp at hm
  | (i, x) :: ps, (j, v) :: qs, cs0, cs, cells, hm, hv, h1, h2, h => by
    simp only [List.map_cons, List.cons.injEq] at hm
    obtain ⟨rfl, hm⟩ := hm
    simp only [aFill] at h
    split at h
    case h_2 => cases h
    rename_i o ft vs hf hc
    split at h
    case isFalse => cases h
    rename_i hcd
    have hx : VR F ι w0 x v := hv 0 (i, x) (i, v) rfl rfl
    obtain ⟨hr, ho⟩ := hx.cells hc
    have hl := hr.length
    have hl1 := h1.length
    simp only [Array.length_toList] at hl hl1
    have hpi := hpl i o ft _ hf hcd.1
    have hstep := fill_one (place := (places[·]?)) (cells := cells) (i := i) (off := o) (v := v) (rest := qs) (by rw [hpi, hl]) (by omega)
    obtain ⟨cells', g1, g2, g3⟩ := fill_sound hu hpl ps qs _ cs (cells.toList.take o ++ v.cells.toList ++ cells.toList.drop (o + v.cells.size)).toArray hm
      (fun k p q hp hq => hv (k + 1) p q (by simpa using hp) (by simpa using hq)) (by
        have := h1.putAt (off := o) hr
        simpa using this) (by
        intro u hu
        simp only [List.mem_append] at hu
        rcases hu with (hu | hu) | hu
        · exact h2 u (List.mem_of_mem_take hu)
        · exact ho u hu
        · exact h2 u (List.mem_of_mem_drop hu)) h
    exact ⟨cells', by rw [hstep]; exact g1, g2, g3⟩

theorem row_sound {sz : Nat} : ∀ (ps : List (Nat × AV)) (qs : List (Nat × Value)) (k : Nat) (cs : List AV), ps.map (·.1) = qs.map (·.1) → (∀ (k : Nat) p q, ps[k]? = some p → qs[k]? = some q → VR F ι w0 p.2 q.2) → aRow sz k ps = some cs →
    VRL F ι w0 cs (qs.flatMap fun q => q.2.cells.toList) ∧ (∀ u ∈ qs.flatMap (fun q => q.2.cells.toList), u.oneCell' = true) ∧ (∀ q ∈ qs, q.2.cells.size = sz) ∧ qs = ((qs.map (·.2)).zipIdx k).map fun x => (x.2, x.1)
  | [], [], k, cs, _, _, h => by
    simp only [aRow, Option.some.injEq] at h
    subst h
    simp [VRL_nil]
  | [], _ :: _, _, _, hm, _, _ => by simp at hm
  | _ :: _, [], _, _, hm, _, _ => by simp at hm
  | (i, x) :: ps, (j, v) :: qs, k, cs, hm, hv, h => by
    simp only [List.map_cons, List.cons.injEq] at hm
    obtain ⟨rfl, hm⟩ := hm
    simp only [aRow] at h
    split at h
    case h_2 => cases h
    rename_i vs hc
    split at h
    case isFalse => cases h
    rename_i hcd
    obtain ⟨rfl, hsz⟩ := hcd
    obtain ⟨rs, h1, h2⟩ := Option.map_eq_some_iff.1 h
    subst h2
    have hx : VR F ι w0 x v := hv 0 (i, x) (i, v) rfl rfl
    obtain ⟨hr, ho⟩ := hx.cells hc
    have hl := hr.length
    obtain ⟨g1, g2, g3, g4⟩ := row_sound ps qs (i + 1) rs hm (fun k p q hp hq => hv (k + 1) p q (by simpa using hp) (by simpa using hq)) h1
    refine ⟨?_, ?_, ?_, ?_⟩
    · simp only [List.flatMap_cons]
      exact hr.append g1
    · intro u hu
      simp only [List.flatMap_cons, List.mem_append] at hu
      rcases hu with hu | hu
      · exact ho u hu
      · exact g2 u hu
    · intro q hq
      rcases List.mem_cons.1 hq with rfl | hq
      · simp only [Array.length_toList] at hl
        simp only
        omega
      · exact g3 q hq
    · simp only [List.map_cons, List.zipIdx_cons]
      rw [← g4]

theorem zip_rel {ps : List (Nat × Operand)} (hρ : ∀ y, VR F ι w0 (ρ y) (a.eval y)) :
    (ps.map fun p => (p.1, ρ p.2)).map (·.1) = (ps.map fun p => (p.1, a.eval p.2)).map (·.1) ∧ ∀ (k : Nat) p q, (ps.map fun p => (p.1, ρ p.2))[k]? = some p → (ps.map fun p => (p.1, a.eval p.2))[k]? = some q → VR F ι w0 p.2 q.2 := by
  constructor
  · simp
  · intro k p q hp hq
    rw [List.getElem?_map] at hp hq
    cases hk : ps[k]? with
    | none => rw [hk] at hp; cases hp
    | some y =>
      rw [hk] at hp hq
      simp at hp hq
      subst hp hq
      exact hρ _
end
end Go.Proofs.Ytgddflnhibhacaa.AM
