/- The abstract machine, part 24: less is said of a state. No conditions. -/
import Derived.Test.YtgddflnhibhacaaAm23
set_option linter.unusedVariables false
set_option linter.unusedSimpArgs false
namespace Go.Proofs.Ytgddflnhibhacaa.AM
open Go

section
variable {P : Program} {F : Nat → Prop} {ι ι' ι0 : Inj} {w0 w w' : World} {M D : Nat → Prop} {H H' : Heap} {k n lo hi : Nat} {ρ ρ' : Env} {a : Act}

/-- Of a block only the first cells are told. -/
theorem Wk.trunc (id m : Nat) {b : Blk} (hb : H[id]? = some b) : Wk k ρ H ρ (H.set id { b with cells := b.cells.take m }) := by
  intro F w0 M ι0 n ι a w hF h
  have hlen : (H.set id { b with cells := b.cells.take m }).length = H.length := by simp
  have hget : ∀ (i : Nat) (b' : Blk), (H.set id { b with cells := b.cells.take m })[i]? = some b' → b'.live = true → ∃ b0 : Blk, H[i]? = some b0 ∧ b0.live = true ∧ (b' = b0 ∨ b' = { b0 with cells := b0.cells.take m }) := by
    intro i b' hi hl
    rw [List.getElem?_set] at hi
    split at hi
    · rename_i he
      subst he
      split at hi
      · obtain rfl := Option.some.inj hi
        exact ⟨b, hb, hl, Or.inr rfl⟩
      · cases hi
    · exact ⟨b', hi, hl, Or.inl rfl⟩
  refine ⟨ι, h.defers, h.size, h.env, ⟨?_, ?_, ?_⟩, ?_, ?_, h.ws, h.par, ?_⟩
  · intro i b' e hd hb' hl he
    rw [hlen] at hd
    obtain ⟨b0, h1, h2, h3⟩ := hget i b' hb' hl
    have := h.hs.br i b0 e hd h1 h2 he
    rcases h3 with rfl | rfl
    · exact this
    · cases e with
      | none =>
        simp only [BRo] at this ⊢
        simp [this]
      | some c =>
        obtain ⟨arr, t, fz, g1, g2, g3, vs, rest, g4, g5, g6⟩ := this
        exact ⟨arr, t, fz, g1, g2, g3, vs.take m, vs.drop m ++ rest, by rw [← List.append_assoc, List.take_append_drop]; exact g4, g5.take m, fun u hu => g6 u (List.mem_of_mem_take hu)⟩
  · intro i i' b1 b2 c c' hd hd' hb1 hb2 hl hl' hc hc' heq
    rw [hlen] at hd hd'
    obtain ⟨b0, h1, h2, _⟩ := hget i b1 hb1 hl
    obtain ⟨b0', h1', h2', _⟩ := hget i' b2 hb2 hl'
    exact h.hs.inj i i' b0 b0' c c' hd hd' h1 h1' h2 h2' hc hc' heq
  · intro i b1 c hd hb1 hl hc
    rw [hlen] at hd
    obtain ⟨b0, h1, h2, _⟩ := hget i b1 hb1 hl
    exact h.hs.own i b0 c hd h1 h2 hc
  · intro i hi; rw [hlen] at hi; exact h.cr i hi
  · intro i hi; rw [hlen] at hi; exact h.nw i hi
  · rw [hlen]; exact h.kle

theorem awl_joinH {Q : Exit → Env → Heap → Prop} {cs : List Code} {c : Code} (J : Heap → Env → Heap → Prop) (h : awpL P k [c] (fun e ρ1 H1 => match e with | .normal => wkQ k (J H) ρ1 H1 | e => Q e ρ1 H1) ρ H) (after : ∀ ρ1 H1, J H ρ1 H1 → awpL P k cs Q ρ1 H1) : awpL P k (c :: cs) Q ρ H := awl_join (J H) h after
/-- A conversion, by what is converted. -/
def aConv (P : Program) (H : Heap) (src dst : TypeId) : AV → Option (AV × AEff)
  | .int _ n => match tInt P dst, tIs P src with
      | some k, true => some (.int k (k.wrap n), .nil)
      | _, _ => none
  | .str s => match tStr P src, (tElem P dst).bind (tInt P), (tElem P dst).bind (tSize P) with
      | true, some .u8, some 1 => if s.size ≤ 9223372036854775807 then some (.slice H.length 0 s.size 0, .new ⟨1, byteCells s, true, true⟩) else none
      | _, _, _ => none
  | x => match tStr P dst, (tElem P src).bind (tInt P), aCells H 1 x with
      | true, some .u8, some (_, cs) => match bytesOf? cs with
        | some bs => some (.str ⟨bs.toArray⟩, .nil)
        | none => none
      | _, _, _ => none
theorem opS_conv {C : Env → Heap → Prop} {d : Option Tmp} {s t : TypeId} {x : Operand} : opS P ρ H d (.convert s t x) C = oV (if s = t ∧ (aeval ρ x).isSl = true then aSelf P H t (aeval ρ x) else aConv P H s t (aeval ρ x)) fun x => C (updO ρ d x.1) (x.2.app H) := by
  have e : aop P (aeval ρ) H (.convert s t x) = if s = t ∧ (aeval ρ x).isSl = true then aSelf P H t (aeval ρ x) else aConv P H s t (aeval ρ x) := by
    simp only [aop]
    cases aeval ρ x <;> rfl
  rw [opS_convert, e]
theorem oV_if {α : Type} {c : Prop} [Decidable c] {r r' : Option α} {K : α → Prop} (h : c) : oV (if c then r else r') K = oV r K := by rw [if_pos h]
/-- Which blocks are kept: told by looking. -/
def gcB (k : Nat) (m : List Nat) (H : Heap) : Bool := decide m.Nodup && (List.range k).all (fun j => decide (m[j]? = some j)) && m.all fun id => decide (id < H.length)
theorem gcOk_of {m : List Nat} (h : gcB k m H = true) : GcOk k m H := by
  simp only [gcB, Bool.and_eq_true, decide_eq_true_eq, List.all_eq_true, List.mem_range] at h
  exact ⟨h.1.1, h.1.2, h.2⟩
theorem Wk.gc {m : List Nat} (hm : GcOk k m H) : Wk k ρ H (gcE m ρ) (gcH m H) := fun _ _ _ _ _ _ _ _ hF h => ⟨_, h.gc hF hm⟩
theorem Wk.keep (m : List Nat) (h : gcB k m H = true) : Wk k ρ H (gcE m ρ) (gcH m H) := Wk.gc (gcOk_of h)
theorem gcE_app {m : List Nat} {t : Tmp} : gcE m ρ t = bor [] (idx m) fuel (ρ t) := (rfl)

/-- What is shown of a function whose end is only described. -/
theorem sat_ex {f : FuncId} {fn : Func} {c : Code} {args : List AV} {h : Heap} {Qv : AV → Heap → Prop} (rs : List ResultVar) (k n : Nat) (hent : ∀ (xs : Array Value) (w : World), (callFunc f xs).run P w = .ok (.enter f xs) w)
    (hf : P.funcs[f]? = some fn) (hn : fn.ntmps = n) (hr : fn.results.toList = rs) (hk : h.length = k) (hb : fn.body = some c) (hd : dstsOk n c = true) (hlen : args.length.ble n = true)
    (hw : awpL P k [c] (retQ P rs k Qv) (argEnv args) h) : ∃ v h', Qv v h' ∧ Sat P f args h v h' := by
  subst hn hr hk
  exact sat_of hent hf hb hd (Nat.le_of_ble_eq_true hlen) (awl_of (retQ_ok) hw)
theorem retE {rs : List ResultVar} {Qv : AV → Heap → Prop} {vs : List AV} {v : AV} {h' : Heap} (keep m : List Nat) (hm : List.range k ++ keep = m) (h1 : aRes P H ρ rs = some vs) (h2 : m.Nodup) (h3 : Nat.ble k H.length = true) (h4 : (keep.all fun id => match H[id]? with | some b => b.live | none => false) = true)
    (hv : bor [] (idx m) fuel (aResult vs) = v) (hh : gcH m H = h') (hq : Qv v h') : retQ P rs k Qv .ret ρ H := by
  subst hm hv hh
  refine ret_mk keep vs h1 h2 (Nat.le_of_ble_eq_true h3) (fun id hid => ?_) hq
  have := List.all_eq_true.1 h4 id hid
  split at this
  · rename_i b hb
    exact ⟨b, hb, this⟩
  · cases this
end
/-! ### guarded groups, by how many operations they have -/
section
variable {P : Program} {H : Heap} {ρ : Env} {K : Env → Heap → Prop} {ops : List SOp} {tc tv td : Tmp} {b v : Bool}
theorem split_at {n : Nat} {x : SOp} (h : ops[n]? = some x) : ops = ops.take n ++ x :: ops.drop (n + 1) := by
  obtain ⟨hn, rfl⟩ := List.getElem?_eq_some_iff.1 h
  rw [← List.drop_eq_getElem_cons hn, List.take_append_drop]
theorem grp_andN (n : Nat) (hn : ops[n]? = some (some td, .pick (.tmp tc) (.tmp tv) (.const (.bool false)), none)) (L : List Tmp) (hc : ρ tc = .bool b) (hd : L.contains td = false)
    (hrun : b = true → ∀ K1 : Env → Heap → Prop, (∀ ρ' : Env, ρ' tc = .bool true → ρ' tv = .bool v → liveE L ρ' ρ → K1 ρ' H) → awpS P K1 (ops.take n) ρ H)
    (hskip : b = false → awpS P (fun ρ' H' => H' = H ∧ ∀ u, u ∈ tc :: L → ρ' u = ρ u) (ops.take n) ρ H)
    (hK : ∀ ρ' : Env, ρ' td = .bool (b && v) → liveE L ρ' ρ → awpS P K (ops.drop (n + 1)) ρ' H) : awpS P K ops ρ H := by
  rw [split_at hn]
  exact grp_and L hc hd hrun hskip hK
theorem grp_orN (n : Nat) (hn : ops[n]? = some (some td, .pick (.tmp tc) (.const (.bool true)) (.tmp tv), none)) (L : List Tmp) (hc : ρ tc = .bool b) (hd : L.contains td = false)
    (hrun : b = false → ∀ K1 : Env → Heap → Prop, (∀ ρ' : Env, ρ' tc = .bool false → ρ' tv = .bool v → liveE L ρ' ρ → K1 ρ' H) → awpS P K1 (ops.take n) ρ H)
    (hskip : b = true → awpS P (fun ρ' H' => H' = H ∧ ∀ u, u ∈ tc :: L → ρ' u = ρ u) (ops.take n) ρ H)
    (hK : ∀ ρ' : Env, ρ' td = .bool (b || v) → liveE L ρ' ρ → awpS P K (ops.drop (n + 1)) ρ' H) : awpS P K ops ρ H := by
  rw [split_at hn]
  exact grp_or L hc hd hrun hskip hK
theorem grp_andGN (n : Nat) (to : Tmp) (wo : Bool) (hn : ops[n]? = some (some td, .pick (.tmp tc) (.tmp tv) (.const (.bool false)), some (to, wo))) (ho : ρ to = .bool wo) (L : List Tmp) (hto : L.contains to = true) (hc : ρ tc = .bool b) (hd : L.contains td = false)
    (hrun : b = true → ∀ K1 : Env → Heap → Prop, (∀ ρ' : Env, ρ' tc = .bool true → ρ' tv = .bool v → liveE L ρ' ρ → K1 ρ' H) → awpS P K1 (ops.take n) ρ H)
    (hskip : b = false → awpS P (fun ρ' H' => H' = H ∧ ∀ u, u ∈ tc :: L → ρ' u = ρ u) (ops.take n) ρ H)
    (hK : ∀ ρ' : Env, ρ' td = .bool (b && v) → liveE L ρ' ρ → awpS P K (ops.drop (n + 1)) ρ' H) : awpS P K ops ρ H := by
  rw [split_at hn]
  exact grp_andG to wo ho L hto hc hd hrun hskip hK
theorem grp_orGN (n : Nat) (to : Tmp) (wo : Bool) (hn : ops[n]? = some (some td, .pick (.tmp tc) (.const (.bool true)) (.tmp tv), some (to, wo))) (ho : ρ to = .bool wo) (L : List Tmp) (hto : L.contains to = true) (hc : ρ tc = .bool b) (hd : L.contains td = false)
    (hrun : b = false → ∀ K1 : Env → Heap → Prop, (∀ ρ' : Env, ρ' tc = .bool false → ρ' tv = .bool v → liveE L ρ' ρ → K1 ρ' H) → awpS P K1 (ops.take n) ρ H)
    (hskip : b = true → awpS P (fun ρ' H' => H' = H ∧ ∀ u, u ∈ tc :: L → ρ' u = ρ u) (ops.take n) ρ H)
    (hK : ∀ ρ' : Env, ρ' td = .bool (b || v) → liveE L ρ' ρ → awpS P K (ops.drop (n + 1)) ρ' H) : awpS P K ops ρ H := by
  rw [split_at hn]
  exact grp_orG to wo ho L hto hc hd hrun hskip hK
end
theorem aResult_two {x y : AV} : aResult [x, y] = .tuple [x, y] := (rfl)
theorem aResult_three {x y z : AV} : aResult [x, y, z] = .tuple [x, y, z] := (rfl)
attribute [go_sem] and_self false_and and_false opS_conv aConv aSelf AV.isSl gcE_app aResult_two aResult_three
end Go.Proofs.Ytgddflnhibhacaa.AM
