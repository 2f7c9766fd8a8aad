/- The abstract machine: less is said of values; empty blocks. No conditions. -/
import Derived.Test.YtgddflnhibhacaaAm14
set_option linter.unusedVariables false
set_option linter.unusedSimpArgs false
namespace Go.Proofs.Ytgddflnhibhacaa.AM
open Go

mutual
/-- One value says less than the other. A nil slice is a slice of an empty block (lo, hi: the numbers of the empty blocks). -/
inductive Ref (lo hi : Nat) : AV → AV → Prop
  | refl (x : AV) : Ref lo hi x x
  | any (x : AV) : Ref lo hi x .any
  | nil (id : Nat) (h : lo ≤ id ∧ id < hi) : Ref lo hi .nilsl (.slice id 0 0 0)
  | esl (id : Nat) (h : lo ≤ id ∧ id < hi) : Ref lo hi .esl (.slice id 0 0 0)
  | cap (id off len c c' : Nat) (h : c' ≤ c) : Ref lo hi (.slice id off len c) (.slice id off len c')
  | agg {xs ys : List AV} (h : RefL lo hi xs ys) : Ref lo hi (.agg xs) (.agg ys)
  | tuple {xs ys : List AV} (h : RefL lo hi xs ys) : Ref lo hi (.tuple xs) (.tuple ys)
inductive RefL (lo hi : Nat) : List AV → List AV → Prop
  | same (xs : List AV) : RefL lo hi xs xs
  | cons {x y : AV} {xs ys : List AV} (h : Ref lo hi x y) (t : RefL lo hi xs ys) : RefL lo hi (x :: xs) (y :: ys)
end

section
variable {P : Program} {F : Nat → Prop} {ι ι' ι0 : Inj} {w0 w w' : World} {M D : Nat → Prop} {H H' : Heap} {k n lo hi : Nat} {ρ ρ' : Env} {a : Act}

mutual
theorem Ref.sound (hn : ∀ id, lo ≤ id → id < hi → ι id = some none) : ∀ {x y : AV}, Ref lo hi x y → ∀ {v : Value}, VR F ι w0 x v → VR F ι w0 y v
  | _, _, .refl _, _, h => h
  | _, _, .any _, _, _ => by simp [VR]
  | _, _, .nil id hid, v, h => by
    simp only [VR] at h ⊢
    exact Or.inr ⟨hn id hid.1 hid.2, trivial, trivial, none, h⟩
  | _, _, .esl id hid, v, h => by
    simp only [VR] at h ⊢
    exact Or.inr ⟨hn id hid.1 hid.2, trivial, trivial, h⟩
  | _, _, .cap id off len c c' hc, v, h => by
    simp only [VR] at h ⊢
    rcases h with ⟨e, cc, off', h1, h2, h3, h4⟩ | ⟨h1, h2, h3, h4⟩
    · exact Or.inl ⟨e, cc, off', h1, h2, Nat.le_trans hc h3, h4⟩
    · exact Or.inr ⟨h1, h2, by omega, h4⟩
  | _, _, .agg hl, v, h => by
    simp only [VR] at h ⊢
    obtain ⟨vs, h1, h2, h3⟩ := h
    exact ⟨vs, h1, RefL.sound hn hl h2, h3⟩
  | _, _, .tuple hl, v, h => by
    simp only [VR] at h ⊢
    obtain ⟨vs, h1, h2⟩ := h
    exact ⟨vs, h1, RefL.sound hn hl h2⟩
theorem RefL.sound (hn : ∀ id, lo ≤ id → id < hi → ι id = some none) : ∀ {xs ys : List AV}, RefL lo hi xs ys → ∀ {vs : List Value}, VRL F ι w0 xs vs → VRL F ι w0 ys vs
  | _, _, .same _, _, h => h
  | _, _, .cons hx hl, vs, h => by
    obtain ⟨v, rest, rfl, h1, h2⟩ := VRL_cons.1 h
    exact VRL_cons.2 ⟨v, rest, rfl, Ref.sound hn hx h1, RefL.sound hn hl h2⟩
end

/-- Temporaries that say less. -/
def RefE (lo hi : Nat) (ρ ρ' : Env) : Prop := ∀ t, Ref lo hi (ρ t) (ρ' t)
theorem RefE.refl : RefE lo hi ρ ρ := fun _ => .refl _
theorem RefE.upd {t : Tmp} {x y : AV} (h : RefE lo hi ρ ρ') (ht : ρ t = x) (hr : Ref lo hi x y) : RefE lo hi ρ (upd ρ' t y) := by
  intro u
  unfold AM.upd
  split
  · rename_i hu
    subst hu
    rw [ht]
    exact hr
  · exact h u

theorem setIf_ne {ι : Inj} {l m : Nat} : (fun id => if l ≤ id ∧ id < m then (some none : Option (Option Emb)) else ι id) = fun id => if l ≤ id ∧ id < m then some none else ι id := (rfl)
/-- Empty blocks are laid behind; temporaries say less. -/
theorem St.norm (szs : List Nat) (hr : RefE H.length (H.length + szs.length) ρ ρ') (h : St F w0 M k ι0 n ι ρ H a w) :
    ∃ ι' : Inj, Inj.le ι ι' ∧ (∀ id, H.length ≤ id → id < H.length + szs.length → ι' id = some none) ∧ St F w0 M k ι0 n ι' ρ' (H ++ szs.map fun s => ⟨s, [], true, false⟩) a w := by
  let ι' : Inj := fun id => if H.length ≤ id ∧ id < H.length + szs.length then some none else ι id
  have hle : Inj.le ι ι' := by
    intro id e he
    show (if _ then _ else _) = _
    rw [if_neg]
    · exact he
    · rintro ⟨h1, _⟩
      rw [h.nw id h1] at he
      cases he
  have hold : ∀ id, id < H.length → ι' id = ι id := fun id hid => by
    show (if _ then _ else _) = _
    rw [if_neg (by omega)]
  have hnew : ∀ id, H.length ≤ id → id < H.length + szs.length → ι' id = some none := fun id h1 h2 => by
    show (if _ then _ else _) = _
    rw [if_pos ⟨h1, h2⟩]
  have hout : ∀ id, H.length + szs.length ≤ id → ι' id = none := fun id h1 => by
    show (if _ then _ else _) = _
    rw [if_neg (by omega)]
    exact h.nw id (by omega)
  have hlen : (H ++ szs.map fun s => (⟨s, [], true, false⟩ : Blk)).length = H.length + szs.length := by simp
  refine ⟨ι', hle, hnew, h.defers, h.size, fun t => Ref.sound hnew (hr t) (VR.mono (fun _ h => h) hle (fun _ _ => rfl) _ (h.env t)), ⟨?_, ?_, ?_⟩, ?_, ?_, h.ws, ?_, ?_⟩
  · intro id b e hd hb hl he
    by_cases hid : id < H.length
    · rw [List.getElem?_append_left hid] at hb
      rw [hold id hid] at he
      exact (h.hs.br id b e hid hb hl he).mono hle fun _ _ => rfl
    · rw [hlen] at hd
      rw [hnew id (by omega) hd] at he
      obtain rfl := Option.some.inj he
      rw [List.getElem?_append_right (by omega), List.getElem?_map] at hb
      obtain ⟨s, _, rfl⟩ := Option.map_eq_some_iff.1 hb
      rfl
  · intro id id' b b' c c' hd hd' hb hb' hl hl' hc hc' heq
    rw [hlen] at hd hd'
    have hlt : id < H.length := by
      by_cases hid : id < H.length
      · exact hid
      · rw [hnew id (by omega) hd] at hc; simp at hc
    have hlt' : id' < H.length := by
      by_cases hid : id' < H.length
      · exact hid
      · rw [hnew id' (by omega) hd'] at hc'; simp at hc'
    rw [List.getElem?_append_left hlt] at hb
    rw [List.getElem?_append_left hlt'] at hb'
    rw [hold _ hlt] at hc
    rw [hold _ hlt'] at hc'
    exact h.hs.inj id id' b b' c c' hlt hlt' hb hb' hl hl' hc hc' heq
  · intro id b c hd hb hl hc
    rw [hlen] at hd
    have hlt : id < H.length := by
      by_cases hid : id < H.length
      · exact hid
      · rw [hnew id (by omega) hd] at hc; simp at hc
    rw [List.getElem?_append_left hlt] at hb
    rw [hold _ hlt] at hc
    exact h.hs.own id b c hlt hb hl hc
  · intro id hid
    rw [hlen] at hid
    by_cases hlt : id < H.length
    · rw [hold id hlt]; exact h.cr id hlt
    · rw [hnew id (by omega) hid]; simp
  · intro id hid
    rw [hlen] at hid
    exact hout id hid
  · intro id hid
    rw [hold id (Nat.lt_of_lt_of_le hid h.kle)]
    exact h.par id hid
  · rw [hlen]
    exact Nat.le_trans h.kle (Nat.le_add_right _ _)

theorem Wk.norm (szs : List Nat) (hr : RefE H.length (H.length + szs.length) ρ ρ') : Wk k ρ H ρ' (H ++ szs.map fun s => ⟨s, [], true, false⟩) := fun F w0 M ι0 n ι a w _ h => by
  obtain ⟨ι', _, _, h'⟩ := h.norm szs hr
  exact ⟨ι', h'⟩
end
end Go.Proofs.Ytgddflnhibhacaa.AM
