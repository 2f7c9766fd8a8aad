/- The abstract machine, part 24: less is said of a state. No conditions. -/
import Derived.Test.YtlkpicpeoimcjaaAm23
set_option linter.unusedVariables false
set_option linter.unusedSimpArgs false
namespace Go.Proofs.Ytlkpicpeoimcjaa.AM
open Go

section
variable {P : Program} {F : Nat → Prop} {ι ι' ι0 : Inj} {w0 w w' : World} {M D : Nat → Prop} {H H' : Heap} {k n lo hi : Nat} {ρ ρ' : Env} {a : Act}

/-- Of a block only the first cells are told. -/
theorem Wk.trunc (id m : Nat) {b : Blk} (hb : H[id]? = some b) : Wk k ρ H ρ (H.set id { b with cells := b.cells.take m }) := by
  intro F w0 M ι0 n ι a w hF h
  have hlen : (H.set id { b with cells := b.cells.take m }).length = H.length := by simp
  have hget : ∀ (i : Nat) (b' : Blk), (H.set id { b with cells := b.cells.take m })[i]? = some b' → b'.live = true → ∃ b0 : Blk, H[i]? = some b0 ∧ b0.live = true ∧ (b' = b0 ∨ b' = { b0 with cells := b0.cells.take m }) := by
    intro i b' hi hl
    rw [List.getElem?_set] at hi
    split at hi
    · rename_i he
      subst he
      split at hi
      · obtain rfl := Option.some.inj hi
        exact ⟨b, hb, hl, Or.inr rfl⟩
      · cases hi
    · exact ⟨b', hi, hl, Or.inl rfl⟩
  refine ⟨ι, h.defers, h.size, h.env, ⟨?_, ?_, ?_⟩, ?_, ?_, h.ws, h.par, ?_⟩
  · intro i b' e hd hb' hl he
    rw [hlen] at hd
    obtain ⟨b0, h1, h2, h3⟩ := hget i b' hb' hl
    have := h.hs.br i b0 e hd h1 h2 he
    rcases h3 with rfl | rfl
    · exact this
    · cases e with
      | none =>
        simp only [BRo] at this ⊢
        simp [this]
      | some c =>
        obtain ⟨arr, t, fz, g1, g2, g3, vs, rest, g4, g5, g6⟩ := this
        exact ⟨arr, t, fz, g1, g2, g3, vs.take m, vs.drop m ++ rest, by rw [← List.append_assoc, List.take_append_drop]; exact g4, g5.take m, fun u hu => g6 u (List.mem_of_mem_take hu)⟩
  · intro i i' b1 b2 c c' hd hd' hb1 hb2 hl hl' hc hc' heq
    rw [hlen] at hd hd'
    obtain ⟨b0, h1, h2, _⟩ := hget i b1 hb1 hl
    obtain ⟨b0', h1', h2', _⟩ := hget i' b2 hb2 hl'
    exact h.hs.inj i i' b0 b0' c c' hd hd' h1 h1' h2 h2' hc hc' heq
  · intro i b1 c hd hb1 hl hc
    rw [hlen] at hd
    obtain ⟨b0, h1, h2, _⟩ := hget i b1 hb1 hl
    exact h.hs.own i b0 c hd h1 h2 hc
  · intro i hi; rw [hlen] at hi; exact h.cr i hi
  · intro i hi; rw [hlen] at hi; exact h.nw i hi
  · rw [hlen]; exact h.kle

/-- Which blocks are kept: told by looking. -/
def gcB (k : Nat) (m : List Nat) (H : Heap) : Bool := decide m.Nodup && (List.range k).all (fun j => decide (m[j]? = some j)) && m.all fun id => decide (id < H.length)
theorem gcOk_of {m : List Nat} (h : gcB k m H = true) : GcOk k m H := by
  simp only [gcB, Bool.and_eq_true, decide_eq_true_eq, List.all_eq_true, List.mem_range] at h
  exact ⟨h.1.1, h.1.2, h.2⟩
theorem Wk.gc {m : List Nat} (hm : GcOk k m H) : Wk k ρ H (gcE m ρ) (gcH m H) := fun _ _ _ _ _ _ _ _ hF h => ⟨_, h.gc hF hm⟩
theorem Wk.keep (m : List Nat) (h : gcB k m H = true) : Wk k ρ H (gcE m ρ) (gcH m H) := Wk.gc (gcOk_of h)
theorem gcE_app {m : List Nat} {t : Tmp} : gcE m ρ t = bor [] (idx m) fuel (ρ t) := (rfl)

/-- What is shown of a function whose end is only described. -/
theorem sat_ex {f : FuncId} {fn : Func} {c : Code} {args : List AV} {h : Heap} {Qv : AV → Heap → Prop} (rs : List ResultVar) (k n : Nat) (hent : ∀ (xs : Array Value) (w : World), (callFunc f xs).run P w = .ok (.enter f xs) w)
    (hf : P.funcs[f]? = some fn) (hn : fn.ntmps = n) (hr : fn.results.toList = rs) (hk : h.length = k) (hb : fn.body = some c) (hd : dstsOk n c = true) (hlen : args.length.ble n = true)
    (hw : awpL P k [c] (retQ P rs k Qv) (argEnv args) h) : ∃ v h', Qv v h' ∧ Sat P f args h v h' := by
  subst hn hr hk
  exact sat_of hent hf hb hd (Nat.le_of_ble_eq_true hlen) (awl_of (retQ_ok) hw)
theorem retE {rs : List ResultVar} {Qv : AV → Heap → Prop} {vs : List AV} {v : AV} {h' : Heap} (keep m : List Nat) (hm : List.range k ++ keep = m) (h1 : aRes P H ρ rs = some vs) (h2 : m.Nodup) (h3 : Nat.ble k H.length = true) (h4 : (keep.all fun id => match H[id]? with | some b => b.live | none => false) = true)
    (hv : bor [] (idx m) fuel (aResult vs) = v) (hh : gcH m H = h') (hq : Qv v h') : retQ P rs k Qv .ret ρ H := by
  subst hm hv hh
  refine ret_mk keep vs h1 h2 (Nat.le_of_ble_eq_true h3) (fun id hid => ?_) hq
  have := List.all_eq_true.1 h4 id hid
  split at this
  · rename_i b hb
    exact ⟨b, hb, this⟩
  · cases this
end
theorem aResult_two {x y : AV} : aResult [x, y] = .tuple [x, y] := (rfl)
theorem aResult_three {x y z : AV} : aResult [x, y, z] = .tuple [x, y, z] := (rfl)
attribute [go_sem] gcE_app aResult_two aResult_three
end Go.Proofs.Ytlkpicpeoimcjaa.AM
