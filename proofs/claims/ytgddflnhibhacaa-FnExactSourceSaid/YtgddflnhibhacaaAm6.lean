/- The abstract machine, part 6: its operations are sound: comparisons, slices, strings. No conditions. -/
import Derived.Test.YtgddflnhibhacaaAm5
set_option linter.unusedVariables false
set_option linter.unusedSimpArgs false
namespace Go.Proofs.Ytgddflnhibhacaa.AM
open Go

section
variable {P : Program} {F : Nat → Prop} {ι ι' : Inj} {w0 w : World} {a : Act} {ρ : Operand → AV} {H : Heap}

theorem guard_int (op : BinOp) (t : TypeId) (x y : Operand) (k k' : IntKind) (p q : Int) : (eqGuard op t x y (.int k p) (.int k' q)).run P w = .ok () w := by
  cases op <;> simp [eqGuard]
theorem guard_str (op : BinOp) (t : TypeId) (x y : Operand) (p q : ByteArray) : (eqGuard op t x y (.string p) (.string q)).run P w = .ok () w := by
  cases op <;> simp [eqGuard]

theorem guard_eq {op : BinOp} {t : TypeId} {x y : Operand} {p q : AV} {v u : Value} {r : Bool} (h : aEq P t p q = some r) (hg : gOk x y p q = true) (hp : VR F ι w0 p v) (hq : VR F ι w0 q u) : (eqGuard op t x y v u).run P w = .ok () w := by
  unfold aEq at h
  split at h
  all_goals try (cases h; done)
  · obtain rfl := VR_bool hp
    obtain rfl := VR_bool hq
    cases op <;> simp [eqGuard]
  · split at h
    · rename_i hc
      simp only [VR] at hp hq
      obtain ⟨vs, rfl, _⟩ := hp
      obtain ⟨us, rfl, _⟩ := hq
      exact run_eqGuard_agg w op t x y vs us hc
    · cases h
  · simp only [VR] at hp hq
    subst hp hq
    cases op <;> simp [eqGuard]
  · simp only [VR] at hp hq
    obtain ⟨b, c, rfl, _⟩ := hp
    subst hq
    cases op <;> simp [eqGuard]
  · simp only [VR] at hp hq
    subst hp hq
    simp only [gOk, Bool.or_eq_true] at hg
    rcases hg with hg | hg
    · cases x with
      | const c => cases op <;> simp [eqGuard]
      | _ => cases hg
    · cases y with
      | const c => cases op <;> simp [eqGuard]
      | _ => cases hg
  · simp only [VR] at hp hq
    obtain ⟨b, c, rfl⟩ := hp
    subst hq
    cases op <;> simp [eqGuard]

theorem eqc_of {t : TypeId} {x y : AV} {v u : Value} {r : Bool} (h : aEq P t x y = some r) (hx : VR F ι w0 x v) (hy : VR F ι w0 y u) :
    (binOp .eql t v u).run P w = .ok (.bool r) w ∧ (binOp .neq t v u).run P w = .ok (.bool (!r)) w := by
  have he := eq_sound (w := w) h hx hy
  have hne : ∀ k k' p q, ¬ (v = .int k p ∧ u = .int k' q) ∧ ¬ ∃ s s', v = .string s ∧ u = .string s' := by
    intro k k' p q
    unfold aEq at h
    split at h
    all_goals try (cases h; done)
    all_goals
      simp only [VR] at hx hy
      constructor
      · rintro ⟨rfl, rfl⟩
        simp at hx hy
      · rintro ⟨s, s', rfl, rfl⟩
        simp at hx hy
  unfold aEq at h
  split at h
  all_goals try (cases h; done)
  · obtain rfl := VR_bool hx
    obtain rfl := VR_bool hy
    constructor <;> simp [binOp, he]
  · simp only [VR] at hx hy
    obtain ⟨vs, rfl, _⟩ := hx
    obtain ⟨us, rfl, _⟩ := hy
    constructor <;> simp [binOp, he]
  · simp only [VR] at hx hy
    subst hx hy
    constructor <;> simp [binOp, he]
  · simp only [VR] at hx hy
    obtain ⟨b, c, rfl, _⟩ := hx
    subst hy
    constructor <;> simp [binOp, he]
  · simp only [VR] at hx hy
    subst hx hy
    constructor <;> simp [binOp, he]
  · simp only [VR] at hx hy
    obtain ⟨b, c, rfl⟩ := hx
    subst hy
    constructor <;> simp [binOp, he]

theorem str_sound {op : BinOp} {t : TypeId} {p q : ByteArray} {r : AV} (h : aBin P op t (.str p) (.str q) = some r) : ∃ z, (binOp op t (.string p) (.string q)).run P w = .ok z w ∧ VR F ι w0 r z := by
  simp only [aBin] at h
  cases op <;> simp only at h
  all_goals try (cases h; done)
  · split at h
    · rename_i hs
      obtain rfl := Option.some.inj h
      refine ⟨.string (p ++ q), ?_, by simp [VR]⟩
      have hs' : ¬ (((p.size + q.size : Nat) : Int) > IntKind.i64.max) := by simp [IntKind.max, IntKind.signed, IntKind.bits]; omega
      simp only [binOp, Op.stringOp]
      rw [if_neg hs']
      rfl
    · cases h
  · obtain rfl := Option.some.inj h
    refine ⟨.bool (p.toList == q.toList), by simp [binOp, Op.stringOp], ?_⟩
    simp [VR, ← beq_bytes, beq_toListBytes]
  · obtain rfl := Option.some.inj h
    refine ⟨.bool (!(p.toList == q.toList)), by simp [binOp, Op.stringOp], ?_⟩
    simp [VR, ← beq_bytes, beq_toListBytes]

theorem bin_sound {op : BinOp} {t : TypeId} {x y : Operand} {p q r : AV} {v u : Value} (h : aBin P op t p q = some r) (hg : gOk x y p q = true) (hp : VR F ι w0 p v) (hq : VR F ι w0 q u) :
    ∃ z, (do eqGuard op t x y v u; binOp op t v u : Sem Value).run P w = .ok z w ∧ VR F ι w0 r z := by
  have key : ∀ op' : BinOp, op' = op → (op = .eql ∨ op = .neq) → ∀ r', aEq P t p q = some r' → (r = .bool (if op = .eql then r' else !r')) → ∃ z, (do eqGuard op t x y v u; binOp op t v u : Sem Value).run P w = .ok z w ∧ VR F ι w0 r z := by
    intro _ _ ho r' hr hrr
    subst hrr
    obtain ⟨h1, h2⟩ := eqc_of (w := w) hr hp hq
    have hgd := guard_eq (op := op) (w := w) hr hg hp hq
    rcases ho with rfl | rfl
    · exact ⟨.bool r', by simp [hgd, h1], by simp [VR]⟩
    · exact ⟨.bool (!r'), by simp [hgd, h2], by simp [VR]⟩
  unfold aBin at h
  split at h
  · rename_i k a k' b
    obtain rfl := VR_int hp
    obtain rfl := VR_int hq
    split at h
    · split at h
      · cases h
      · rename_i hb
        obtain rfl := Option.some.inj h
        exact ⟨.int k (k.wrap (a * 2 ^ (min b.toNat k.bits))), by simp [guard_int, binOp, Op.shift, hb], by simp [VR]⟩
    · split at h
      · cases h
      · rename_i hb
        obtain rfl := Option.some.inj h
        exact ⟨.int k (a.fdiv (2 ^ (min b.toNat k.bits))), by simp [guard_int, binOp, Op.shift, hb], by simp [VR]⟩
    · split at h
      · rename_i hk
        subst hk
        obtain ⟨z, h1, h2⟩ := int_sound (F := F) (ι := ι) (w0 := w0) (w := w) (P := P) (t := t) h
        exact ⟨z, by simp [guard_int, h1], h2⟩
      · cases h
  · rename_i a b
    obtain rfl := VR_str hp
    obtain rfl := VR_str hq
    obtain ⟨z, h1, h2⟩ := str_sound (F := F) (ι := ι) (w0 := w0) (w := w) (P := P) (op := op) (t := t) (p := a) (q := b) (by unfold aBin; exact h)
    exact ⟨z, by simp [guard_str, h1], h2⟩
  · split at h
    · obtain ⟨r', h1, h2⟩ := Option.map_eq_some_iff.1 h
      exact key _ rfl (.inl rfl) r' h1 (by simp [← h2])
    · obtain ⟨r', h1, h2⟩ := Option.map_eq_some_iff.1 h
      exact key _ rfl (.inr rfl) r' h1 (by simp [← h2])
    · cases h

def VRO (F : Nat → Prop) (ι : Inj) (w0 : World) : Option AV → Option Value → Prop
  | none, none => True
  | some x, some v => VR F ι w0 x v
  | _, _ => False
theorem VRO_map {x : Option Operand} (hρ : ∀ y, VR F ι w0 (ρ y) (a.eval y)) : VRO F ι w0 (x.map ρ) (x.map a.eval) := by
  cases x with
  | none => trivial
  | some y => exact hρ y

def runB (P : Program) (y : Nat) (v : Option Value) (d : Nat) (code : BoundsCode) (w : World) (n : Nat) : Prop :=
  match v with
  | some v => (Instr.sliceBound v y code).run P w = .ok n w ∧ n ≤ y
  | none => n = d
theorem bound_sound {y d n : Nat} {x : Option AV} {v : Option Value} (code : BoundsCode) (h : aBound y x d = some n) (hx : VRO F ι w0 x v) : runB P y v d code w n := by
  unfold aBound at h
  split at h
  · cases v with
    | none => exact (Option.some.inj h).symm
    | some v => exact hx.elim
  · rename_i k i
    cases v with
    | none => exact hx.elim
    | some v =>
      have hx' : VR F ι w0 (.int k i) v := hx
      obtain rfl := VR_int hx'
      split at h
      · rename_i hi
        obtain rfl := Option.some.inj h
        exact ⟨by simp [Instr.sliceBound, asIntOf, hi], by omega⟩
      · cases h
  · cases h

theorem bounds_run {isS : Bool} {len cap m h l : Nat} {lo hi mx : Option Value} (hm : ∀ code, runB P cap mx cap code w m) (hh : ∀ code, runB P m hi len code w h) (hl : ∀ code, runB P h lo 0 code w l) (hx : ¬ (mx.isSome = true ∧ hi.isNone = true)) :
    (Instr.sliceBounds isS len cap lo hi mx).run P w = .ok (l, h, m) w := by
  unfold Instr.sliceBounds
  cases mx with
  | none =>
    obtain rfl : m = cap := hm .index
    cases hi with
    | none =>
      obtain rfl : h = len := hh .index
      cases lo with
      | none =>
        obtain rfl : l = 0 := hl .index
        simp
      | some lo => simp [(hl .sliceB).1]
    | some hi =>
      have h1 := (hh (if isS then .sliceAcap else .sliceAlen)).1
      cases lo with
      | none =>
        obtain rfl : l = 0 := hl .index
        simp [h1]
      | some lo => simp [h1, (hl .sliceB).1]
  | some mx =>
    cases hi with
    | none => simp at hx
    | some hi =>
      have h0 := (hm (if isS then .slice3Acap else .slice3Alen)).1
      have h1 := (hh .slice3B).1
      cases lo with
      | none =>
        obtain rfl : l = 0 := hl .index
        simp [h0, h1]
      | some lo => simp [h0, h1, (hl .slice3C).1]
theorem runB_le {y d n : Nat} {v : Option Value} (h : ∀ code, runB P y v d code w n) (hd : d ≤ y) : n ≤ y := by
  have := h .index
  unfold runB at this
  split at this
  · exact this.2
  · omega
theorem aBound_d (y d d' : Nat) (x : AV) : aBound y (some x) d = aBound y (some x) d' := by cases x <;> rfl
theorem aBound_mono {y y' d n : Nat} {x : Option AV} (h : aBound y x d = some n) (hy : y ≤ y') : aBound y' x d = some n := by
  unfold aBound at h ⊢
  split at h
  · exact h
  · split at h
    · rename_i hi
      rw [if_pos (by omega)]
      exact h
    · cases h
  · cases h
theorem aBound_le {y d n : Nat} {x : Option AV} (h : aBound y x d = some n) (hd : d ≤ y) : n ≤ y := by
  unfold aBound at h
  split at h
  · injection h with h; omega
  · split at h
    · injection h with h; omega
    · cases h
  · cases h

theorem slice_sound {t : TypeId} {x y : AV} {lo hi mx : Option AV} {v : Value} {lo' hi' mx' : Option Value} (h : aSlice P t x lo hi mx = some y) (hx : VR F ι w0 x v) (hl : VRO F ι w0 lo lo') (hh : VRO F ι w0 hi hi') (hm : VRO F ι w0 mx mx') :
    ∃ z, (Instr.sliceAt t v lo' hi' mx').run P w = .ok z w ∧ VR F ι w0 y z := by
  have hmn : mx.isSome = mx'.isSome := by cases mx <;> cases mx' <;> first | rfl | exact hm.elim
  have hhn : hi.isNone = hi'.isNone := by cases hi <;> cases hi' <;> first | rfl | exact hh.elim
  unfold aSlice at h
  split at h
  · rename_i s
    obtain rfl := VR_str hx
    split at h
    · rename_i hc
      have ht := tStr_eq hc.1
      have hmx : mx' = none := by
        have := hc.2
        rw [Option.isNone_iff_eq_none] at this
        subst this
        cases mx' with
        | none => rfl
        | some _ => exact hm.elim
      subst hmx
      split at h
      · rename_i h' eh
        split at h
        · rename_i l' el
          obtain rfl := Option.some.inj h
          refine ⟨.string (s.extract l' h'), ?_, by simp [VR]⟩
          have hb := bounds_run (P := P) (w := w) (isS := false) (len := s.size) (cap := s.size) (m := s.size) (lo := lo') (hi := hi') (mx := none) (fun _ => rfl) (fun code => bound_sound code eh hh) (fun code => bound_sound code el hl) (by simp)
          simp [Instr.sliceAt, Instr.slice, run_underlying ht, hb]
        · cases h
      · cases h
    · cases h
  · rename_i id off len cap
    split at h
    · rename_i n hn
      obtain ⟨e, he, hs⟩ := Option.bind_eq_some_iff.1 hn
      have ht := tElem_eq he
      split at h
      · cases h
      rename_i hn0
      split at h
      · rename_i m em
        split at h
        · cases h
        · rename_i hnx
          split at h
          · rename_i h' eh
            split at h
            · rename_i l' el
              obtain rfl := Option.some.inj h
              have lm := aBound_le em (Nat.le_refl _)
              have lh := aBound_le el (Nat.zero_le _)
              have gen : ∀ (b : Option Addr) (ccap : Nat), len ≤ ccap → cap ≤ ccap → v = .slice b len ccap → (∃ m', m ≤ m' ∧ m' ≤ ccap ∧ (Instr.sliceAt t v lo' hi' mx').run P w = .ok (.slice (if m' = l' then b else b.map (·.add (l' * n))) (h' - l') (m' - l')) w) := by
                intro b ccap h1 h2 hv
                subst hv
                have hm' : ∃ m', m ≤ m' ∧ m' ≤ ccap ∧ ∀ code, runB P ccap mx' ccap code w m' := by
                  cases mx' with
                  | none => exact ⟨ccap, by omega, Nat.le_refl _, fun _ => rfl⟩
                  | some u =>
                    cases mx with
                    | none => exact hm.elim
                    | some u' => exact ⟨m, Nat.le_refl _, by omega, fun code => bound_sound code (aBound_mono (y := max len cap) (x := some u') (d := ccap) (by rw [aBound_d _ _ (max len cap)]; exact em) (by omega)) hm⟩
                obtain ⟨m', g1, g2, g3⟩ := hm'
                have hb := bounds_run (P := P) (w := w) (isS := true) (len := len) (cap := ccap) (m := m') (lo := lo') (hi := hi') (mx := mx') g3 (fun code => bound_sound code (aBound_mono eh g1) hh) (fun code => bound_sound code el hl) (by rw [← hmn, ← hhn]; exact hnx)
                exact ⟨m', g1, g2, by simp [Instr.sliceAt, Instr.slice, run_underlying ht, hb, tSize_run hs]⟩
              have hle : h' ≤ m ∨ hi = none := by
                cases hi with
                | none => exact Or.inr rfl
                | some u => exact Or.inl (aBound_le (y := m) (x := some u) (d := 0) (by rw [aBound_d _ _ len]; exact eh) (Nat.zero_le _))
              have hlen : hi = none → mx = none := by
                intro hi0
                subst hi0
                cases mx with
                | none => rfl
                | some _ => simp at hnx
              have hle : h' ≤ m := by
                rcases hle with hle | hle
                · exact hle
                · have := hlen hle
                  subst hle this
                  simp only [aBound, Option.some.injEq] at eh em
                  omega
              simp only [VR] at hx
              rcases hx with ⟨c, ccap, off', h1, hv, h2, h3, h4, h5⟩ | ⟨h1, h2, h3, a, hv⟩
              · obtain ⟨m', g1, g2, hr⟩ := gen _ ccap h3 h2 hv
                refine ⟨_, hr, ?_⟩
                simp only [VR]
                by_cases hml : m' = l'
                · rw [if_pos hml]
                  exact Or.inl ⟨c, m' - l', off', h1, rfl, by omega, by omega, Or.inl (by omega), fun _ => by omega⟩
                · rw [if_neg hml]
                  rcases h4 with h4 | rfl
                  · omega
                  · refine Or.inl ⟨c, m' - l', off' + l' * n, h1, by simp [addr_add], by omega, by omega, Or.inr rfl, fun h0 => ?_⟩
                    have := h5 (by omega)
                    omega
              · obtain ⟨m', g1, g2, hr⟩ := gen a 0 (by omega) (by omega) (by rw [hv, h2])
                refine ⟨_, hr, ?_⟩
                simp only [VR]
                have : m' = l' := by omega
                rw [if_pos this]
                exact Or.inr ⟨h1, by omega, by omega, a, by congr 1 <;> omega⟩
            · cases h
          · cases h
      · cases h
    · cases h
  · rename_i len cap cs
    split at h
    · rename_i n hn
      obtain ⟨e, he, hs⟩ := Option.bind_eq_some_iff.1 hn
      have ht := tElem_eq he
      split at h
      · cases h
      · rename_i hnx
        have hmx : mx' = none := by
          cases mx' with
          | none => rfl
          | some _ => rw [hmn] at hnx; simp at hnx
        subst hmx
        split at h
        · rename_i h' eh
          split at h
          · rename_i l' el
            obtain rfl := Option.some.inj h
            have lh := aBound_le el (Nat.zero_le _)
            have lhl := aBound_le eh (Nat.le_refl _)
            simp only [VR] at hx
            obtain ⟨b, ccap, rfl, h2, h3, hz, h4⟩ := hx
            have hb := bounds_run (P := P) (w := w) (isS := true) (len := len) (cap := ccap) (m := ccap) (lo := lo') (hi := hi') (mx := none) (fun _ => rfl) (fun code => bound_sound code (aBound_mono eh h3) hh) (fun code => bound_sound code el hl) (by simp)
            refine ⟨.slice (if ccap = l' then b else b.map (·.add (l' * n))) (h' - l') (ccap - l'), by simp [Instr.sliceAt, Instr.slice, run_underlying ht, hb, tSize_run hs], ?_⟩
            simp only [VR]
            refine ⟨_, _, rfl, by omega, by omega, ?_, ?_⟩
            · intro hbn
              cases b with
              | none => have := hz rfl; omega
              | some b => split at hbn <;> simp at hbn
            rcases h4 with ⟨rfl, h4⟩ | ⟨c, off, vs, rfl, hF, hc, hv⟩
            · exact Or.inl ⟨by simp, by omega⟩
            · by_cases hml : ccap = l'
              · rw [if_pos hml]
                have : h' - l' = 0 := by omega
                refine Or.inl ⟨by simp [this], this⟩
              · rw [if_neg hml]
                exact Or.inr ⟨c, off + l' * n, _, by simp [addr_add], hF, (hc.drop _).take _, (hv.drop _).take _⟩
          · cases h
        · cases h
    · cases h
  · split at h
    · rename_i n hn
      obtain ⟨e, he, hs⟩ := Option.bind_eq_some_iff.1 hn
      have ht := tElem_eq he
      split at h
      · cases h
      · rename_i hnx
        have hmx : mx' = none := by
          cases mx' with
          | none => rfl
          | some _ => rw [hmn] at hnx; simp at hnx
        subst hmx
        split at h
        · rename_i h' eh
          split at h
          · rename_i l' el
            obtain rfl := Option.some.inj h
            have lh := aBound_le el (Nat.zero_le _)
            have lhl := aBound_le eh (Nat.le_refl _)
            simp only [VR] at hx
            obtain ⟨b, rfl⟩ := hx
            have hb := bounds_run (P := P) (w := w) (isS := true) (len := 0) (cap := 0) (m := 0) (lo := lo') (hi := hi') (mx := none) (fun _ => rfl) (fun code => bound_sound code eh hh) (fun code => bound_sound code el hl) (by simp)
            refine ⟨.slice b 0 0, ?_, by simp only [VR]; exact ⟨b, rfl⟩⟩
            obtain rfl : h' = 0 := by omega
            obtain rfl : l' = 0 := by omega
            simp [Instr.sliceAt, Instr.slice, run_underlying ht, hb, tSize_run hs]
          · cases h
        · cases h
    · cases h
  · split at h
    · rename_i n hn
      obtain ⟨e, he, hs⟩ := Option.bind_eq_some_iff.1 hn
      have ht := tElem_eq he
      split at h
      · cases h
      · rename_i hnx
        have hmx : mx' = none := by
          cases mx' with
          | none => rfl
          | some _ => rw [hmn] at hnx; simp at hnx
        subst hmx
        split at h
        · rename_i h' eh
          split at h
          · rename_i l' el
            obtain rfl := Option.some.inj h
            have lh := aBound_le el (Nat.zero_le _)
            have lhl := aBound_le eh (Nat.le_refl _)
            simp only [VR] at hx
            subst hx
            have hb := bounds_run (P := P) (w := w) (isS := true) (len := 0) (cap := 0) (m := 0) (lo := lo') (hi := hi') (mx := none) (fun _ => rfl) (fun code => bound_sound code eh hh) (fun code => bound_sound code el hl) (by simp)
            refine ⟨.slice none 0 0, ?_, by simp only [VR]; exact ⟨none, rfl⟩⟩
            obtain rfl : h' = 0 := by omega
            obtain rfl : l' = 0 := by omega
            simp [Instr.sliceAt, Instr.slice, run_underlying ht, hb, tSize_run hs]
          · cases h
        · cases h
    · cases h
  · cases h
end
end Go.Proofs.Ytgddflnhibhacaa.AM
