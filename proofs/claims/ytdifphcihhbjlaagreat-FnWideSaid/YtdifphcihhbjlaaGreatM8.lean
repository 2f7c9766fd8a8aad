/- A core on its way: what is for good is what is done in order. No conditions. -/
import Derived.Test.YtdifphcihhbjlaaGreatM7
set_option linter.unusedVariables false
set_option linter.unusedSimpArgs false
namespace Go.Proofs.YtdifphcihhbjlaaGreat.AM
open Go

section
variable {α : Type} {p q : α → Bool} {d x : α} {xs ys : List α} {k n : Nat}
theorem lastAt_congr : ∀ k : Nat, (∀ j, j < k → p (xs.getD j d) = q (ys.getD j d)) → lastAt p d xs k = lastAt q d ys k
  | 0, _ => rfl
  | k + 1, h => by rw [lastAt, lastAt, h k (Nat.lt_succ_self k), lastAt_congr k fun j hj => h j (by omega)]
theorem lastAt_is : ∀ k : Nat, 0 ≤ lastAt p d xs k → p (xs.getD (lastAt p d xs k).toNat d) = true
  | 0, h => by rw [lastAt] at h; omega
  | k + 1, h => by
    rw [lastAt] at h ⊢
    by_cases hp : p (xs.getD k d) = true
    · rw [if_pos hp, Int.toNat_natCast]; exact hp
    · rw [if_neg hp] at h ⊢; exact lastAt_is k h
theorem lastAt_shift : ∀ k : Nat, lastAt p d (x :: xs) (k + 1) = if lastAt p d xs k < 0 then (if p x = true then 0 else -1) else lastAt p d xs k + 1
  | 0 => by
    show (if p ((x :: xs).getD 0 d) = true then ((0 : Nat) : Int) else -1) = if (-1 : Int) < 0 then (if p x = true then 0 else -1) else -1 + 1
    rw [if_pos (show (-1 : Int) < 0 by decide)]
    rfl
  | k + 1 => by
    have e1 : lastAt p d (x :: xs) (k + 1 + 1) = if p ((x :: xs).getD (k + 1) d) = true then ((k + 1 : Nat) : Int) else lastAt p d (x :: xs) (k + 1) := rfl
    have e2 : lastAt p d xs (k + 1) = if p (xs.getD k d) = true then (k : Int) else lastAt p d xs k := rfl
    have e3 : (x :: xs).getD (k + 1) d = xs.getD k d := by simp
    rw [e1, e2, e3]
    by_cases hp : p (xs.getD k d) = true
    · rw [if_pos hp, if_pos hp, if_neg (by omega)]; rfl
    · rw [if_neg hp, if_neg hp]; exact lastAt_shift k
theorem any_take_iff (hk : k ≤ xs.length) : (xs.take k).any p = false ↔ ∀ j, j < k → p (xs.getD j d) = false := by
  constructor
  · intro h j hj
    cases hp : p (xs.getD j d) with
    | false => rfl
    | true => rw [any_at hj (by omega) hp] at h; cases h
  · intro h
    rw [List.any_eq_false]
    intro y hy
    obtain ⟨j, hj, rfl⟩ := List.mem_take_iff_getElem.1 hy
    have hj2 : j < k := by omega
    have hj3 : j < xs.length := by omega
    have := h j hj2
    rw [List.getD_eq_getElem?_getD, List.getElem?_eq_getElem hj3] at this
    simpa using this
theorem upTo_nat (h : k ≤ n) : upTo (k : Int) n = k := by unfold upTo; omega
end

section
variable {l : List Ins} {c c' : Cor} {s : Stt} {x y z : Ent} {i i' : Ins} {pc a b g by_ w : Word} {n r : Int} {k : Nat}
/-- An entry stays, or one that was under way is done. -/
def Turn (x y : Ent) : Prop := y = x ∨ (x.done = false ∧ y.x = x.x ∧ setBy y = setBy x)
theorem turn_set (h : Turn x y) : setBy y = setBy x := by
  rcases h with rfl | h
  · rfl
  · exact h.2.2
def Turns (c c' : Cor) (k : Nat) : Prop := k ≤ c.rob.length ∧ k ≤ c'.rob.length ∧ ∀ j, j < k → Turn (c.rob.getD j noEnt) (c'.rob.getD j noEnt)
theorem src_turn (h : Turns c c' k) : source c'.rob k r = source c.rob k r := by
  unfold source
  split
  · rfl
  · rw [upTo_nat h.1, upTo_nat h.2.1]
    exact lastAt_congr k fun j hj => by simp only [turn_set (h.2.2 j hj)]
theorem src_lt (rob : List Ent) (k : Nat) (r : Int) : source rob k r < k := by
  unfold source
  split
  · omega
  · have := lastAt_lt (p := fun x => decide (setBy x = r)) (d := noEnt) (xs := rob) (upTo k rob.length)
    unfold upTo at this ⊢
    omega
theorem val_turn (h : Turns c c' k) (hs : c'.s.regs = c.s.regs) (hv : (valueRaw c k r).2 = true) : valueRaw c' k r = valueRaw c k r := by
  have he := src_turn (r := r) h
  by_cases h1 : source c.rob k r < 0
  · rw [raw_reg h1, raw_reg (by rw [he]; exact h1)]
    unfold reg
    rw [hs]
  · obtain ⟨m, hm, hml⟩ := source_nat h1
    have hlt := src_lt c.rob k r
    cases hd : (c.rob.getD m noEnt).done with
    | false => rw [raw_wait hm hd] at hv; cases hv
    | true =>
      have h2 : c'.rob.getD m noEnt = c.rob.getD m noEnt := by
        rcases h.2.2 m (by omega) with e | e
        · exact e
        · rw [hd] at e; cases e.1
      rw [raw_done hm hd, raw_done (he.trans hm) (by rw [h2]; exact hd), h2]
def Known (c : Cor) (k : Nat) (x : Ins) : Prop := (hasA x.op = true → (valueRaw c k x.a).2 = true) ∧ (hasB x.op = true → (valueRaw c k x.b).2 = true) ∧ (x.op = 10 → (c.rob.take k).any waits = false)
/-- Two memories that tell the same. -/
def likeMem (m m' : Mem) : Prop := m'.words.length = m.words.length ∧ m'.gone = m.gone ∧ ∀ by_ n, read m' by_ n = read m by_ n
theorem likeMem_refl {m : Mem} : likeMem m m := ⟨rfl, rfl, fun _ _ => rfl⟩
theorem like_filt {m m' : Mem} (h : m'.gone = m.gone) : filt m' w = filt m w := by unfold filt; rw [h]
theorem like_write {m m' : Mem} (h : m'.words.length = m.words.length) : writeT m' by_ n w = writeT m by_ n w := by unfold writeT; rw [h]
theorem waits_turn (h : Turn x y) (hw : waits x = false) : waits y = false := by
  rcases h with rfl | ⟨hd, hx, _⟩
  · exact hw
  · simp only [waits, hd, Bool.not_false, Bool.and_true, Bool.or_eq_false_iff, decide_eq_false_iff_not] at hw
    simp only [waits, hx, Bool.or_eq_false_iff, Bool.and_eq_false_iff, decide_eq_false_iff_not]
    exact ⟨Or.inl hw.1, hw.2⟩
theorem puts_turn (h : Turn x y) (hw : waits x = false) : puts n y = puts n x ∧ (puts n x = true → y = x) := by
  rcases h with rfl | ⟨hd, hx, _⟩
  · exact ⟨rfl, fun _ => rfl⟩
  · simp only [waits, hd, Bool.not_false, Bool.and_true, Bool.or_eq_false_iff, decide_eq_false_iff_not] at hw
    have p1 : puts n y = false := by simp [puts, hx, hw.1]
    have p2 : puts n x = false := by simp [puts, hw.1]
    exact ⟨by rw [p1, p2], fun g => by rw [p2] at g; cases g⟩
theorem found_turn (h : Turns c c' k) (hm : likeMem c.s.mem c'.s.mem) (hw : (c.rob.take k).any waits = false) : found c' k by_ n = found c k by_ n := by
  have hw2 := (any_take_iff (d := noEnt) h.1).1 hw
  have hp : lastAt (puts n) noEnt c'.rob (upTo k c'.rob.length) = lastAt (puts n) noEnt c.rob (upTo k c.rob.length) := by
    rw [upTo_nat h.1, upTo_nat h.2.1]
    exact lastAt_congr k fun j hj => (puts_turn (h.2.2 j hj) (hw2 j hj)).1
  unfold found
  rw [hm.2.2, hp]
  split
  · rfl
  · split
    · rfl
    · rename_i h1 h2
      have h3 := lastAt_is (p := puts n) (d := noEnt) (xs := c.rob) (upTo k c.rob.length) (by omega)
      have h4 := lastAt_lt (p := puts n) (d := noEnt) (xs := c.rob) (upTo k c.rob.length)
      rw [upTo_nat h.1] at h2 h3 h4 ⊢
      have hj : (lastAt (puts n) noEnt c.rob k).toNat < k := by omega
      rw [(puts_turn (h.2.2 _ hj) (hw2 _ hj)).2 h3, like_filt hm.2.1]
theorem fx_parts {a a' b b' : Word} {j j' : Int} (ha : hasA i.op = true → a' = a) (hb : hasB i.op = true → b' = b) (hf : i.op = 10 → ∀ by_ n, found c' j' by_ n = found c j by_ n) (hw : ∀ by_ n w, writeT c'.s.mem by_ n w = writeT c.s.mem by_ n w) :
    fxAt c' j' i pc a' b' = fxAt c j i pc a b := by
  by_cases h : inR i.op 1 15 = true
  · rcases op_cases h with e | e | e | e | e | e | e | e | e | e | e | e | e | e | e
    · simp [fxAt, memAt, work, valueOf, e]
    · obtain rfl := ha (by rw [e]; decide)
      obtain rfl := hb (by rw [e]; decide)
      simp [fxAt, memAt, work, valueOf, e]
    · obtain rfl := ha (by rw [e]; decide)
      simp [fxAt, memAt, work, valueOf, e]
    · obtain rfl := ha (by rw [e]; decide)
      obtain rfl := hb (by rw [e]; decide)
      simp [fxAt, memAt, work, valueOf, e]
    · obtain rfl := ha (by rw [e]; decide)
      obtain rfl := hb (by rw [e]; decide)
      simp [fxAt, memAt, work, valueOf, e]
    · obtain rfl := ha (by rw [e]; decide)
      obtain rfl := hb (by rw [e]; decide)
      simp [fxAt, memAt, work, valueOf, e]
    · obtain rfl := ha (by rw [e]; decide)
      obtain rfl := hb (by rw [e]; decide)
      simp [fxAt, memAt, work, valueOf, e]
    · obtain rfl := ha (by rw [e]; decide)
      obtain rfl := hb (by rw [e]; decide)
      simp [fxAt, memAt, work, valueOf, e]
    · obtain rfl := ha (by rw [e]; decide)
      simp [fxAt, memAt, work, valueOf, e]
    · obtain rfl := ha (by rw [e]; decide)
      simp [fxAt, memAt, work, valueOf, e, hf e]
    · obtain rfl := ha (by rw [e]; decide)
      obtain rfl := hb (by rw [e]; decide)
      simp [fxAt, memAt, work, valueOf, e, hw]
    · obtain rfl := ha (by rw [e]; decide)
      simp [fxAt, memAt, work, valueOf, e]
    · obtain rfl := ha (by rw [e]; decide)
      simp [fxAt, memAt, work, valueOf, e]
    · obtain rfl := ha (by rw [e]; decide)
      simp [fxAt, memAt, work, valueOf, e]
    · simp [fxAt, memAt, work, valueOf, e]
  · have h0 : has i.op = 0 := by rw [has, if_neg h]
    have hs : sets i = -1 := by
      unfold sets hasR
      rw [h0]
      rfl
    rw [inR_iff] at h
    have e10 : ¬ i.op = 10 := by omega
    have e11 : ¬ i.op = 11 := by omega
    have e12 : ¬ i.op = 12 := by omega
    have e13 : ¬ i.op = 13 := by omega
    have e14 : ¬ i.op = 14 := by omega
    have e15 : ¬ i.op = 15 := by omega
    simp [fxAt, memAt, work, e10, e11, e12, e13, e14, e15, hs]
theorem eff_turn (h : Turns c c' k) (hs : c'.s.regs = c.s.regs) (hm : likeMem c.s.mem c'.s.mem) (hk : Known c k y.x) : Known c' k y.x ∧ doneBy c' k y = doneBy c k y := by
  refine ⟨⟨fun g => ?_, fun g => ?_, fun g => ?_⟩, ?_⟩
  · rw [val_turn h hs (hk.1 g)]; exact hk.1 g
  · rw [val_turn h hs (hk.2.1 g)]; exact hk.2.1 g
  · have := (any_take_iff (d := noEnt) h.1).1 (hk.2.2 g)
    exact (any_take_iff (d := noEnt) h.2.1).2 fun j hj => waits_turn (h.2.2 j hj) (this j hj)
  · exact fx_parts (fun g => by rw [val_turn h hs (hk.1 g)]) (fun g => by rw [val_turn h hs (hk.2.1 g)]) (fun g _ _ => found_turn h hm (hk.2.2 g)) (fun _ _ _ => like_write hm.1)

/-! ### the first entry goes -/
structure Shift (c c' : Cor) (x : Ent) : Prop where
  rob : c.rob = x :: c'.rob
  dn : x.done = true
  tr : x.e.trap = 0
  dr : ¬ 0 ≤ x.e.drop
  ad : x.x.op = 11 ∨ x.e.adr = -1
  s : c'.s = applyFx c.s x.e
  ok : sttOk c.s = true
theorem sh_gone (h : Shift c c' x) : c'.s.mem.gone = c.s.mem.gone := by
  rw [h.s]
  show (if inR x.e.drop 0 23 = true then c.s.mem.gone.set x.e.drop.toNat true else c.s.mem.gone) = _
  rw [if_neg (fun g => h.dr (inR_iff.1 g).1)]
theorem sh_words (h : Shift c c' x) : c'.s.mem.words = if inR x.e.adr 0 23 = true then c.s.mem.words.set x.e.adr.toNat x.e.put else c.s.mem.words := by rw [h.s]; rfl
theorem sh_regs (h : Shift c c' x) : c'.s.regs = if inR x.e.r 0 7 = true then c.s.regs.set x.e.r.toNat x.e.val else c.s.regs := by rw [h.s]; rfl
theorem sh_wlen (h : Shift c c' x) : c'.s.mem.words.length = c.s.mem.words.length := by rw [sh_words h]; split <;> simp
theorem sh_get (h : Shift c c' x) {m : Nat} : c.rob.getD (m + 1) noEnt = c'.rob.getD m noEnt := by rw [h.rob]; simp
theorem sh_len (h : Shift c c' x) : c.rob.length = c'.rob.length + 1 := by rw [h.rob]; simp
theorem sh_src (h : Shift c c' x) (hk : k ≤ c'.rob.length) (hr : 0 ≤ r) : source c.rob ((k + 1 : Nat) : Int) r = if source c'.rob k r < 0 then (if x.e.r = r then 0 else -1) else source c'.rob k r + 1 := by
  unfold source
  have hr0 : ¬ r < 0 := by omega
  simp only [if_neg hr0]
  rw [upTo_nat (by rw [sh_len h]; omega), upTo_nat hk, h.rob, lastAt_shift]
  have : setBy x = x.e.r := by rw [setBy, if_pos h.dn]
  simp only [this, decide_eq_true_eq]
theorem val_shift (h : Shift c c' x) (hk : k ≤ c'.rob.length) (hr : inR r 0 7 = true) : valueRaw c' k r = valueRaw c ((k + 1 : Nat) : Int) r := by
  have hr2 := inR_iff.1 hr
  have hs := sh_src h hk hr2.1
  have h8 := (sttOk_iff.1 h.ok).2.1
  by_cases h1 : source c'.rob k r < 0
  · rw [if_pos h1] at hs
    rw [raw_reg h1]
    by_cases h2 : x.e.r = r
    · rw [if_pos h2] at hs
      have h0 : c.rob.getD 0 noEnt = x := by rw [h.rob]; rfl
      rw [raw_done (m := 0) (by rw [hs]; rfl) (by rw [h0]; exact h.dn), h0]
      unfold reg
      rw [sh_regs h, h2, if_pos hr]
      congr 1
      have : r.toNat < c.s.regs.length := by omega
      simp [this]
    · rw [if_neg h2] at hs
      rw [raw_reg (c := c) (by omega)]
      unfold reg
      rw [sh_regs h]
      split
      · rename_i g
        have := inR_iff.1 g
        rw [List.getD_eq_getElem?_getD, List.getElem?_set_ne (by omega), ← List.getD_eq_getElem?_getD]
      · rfl
  · rw [if_neg h1] at hs
    obtain ⟨m, hm, hml⟩ := source_nat h1
    have hs2 : source c.rob ((k + 1 : Nat) : Int) r = ((m + 1 : Nat) : Int) := by rw [hs, hm]; rfl
    have hg := sh_get h (m := m)
    cases hd : (c'.rob.getD m noEnt).done with
    | false => rw [raw_wait hm hd, raw_wait hs2 (by rw [hg]; exact hd)]
    | true => rw [raw_done hm hd, raw_done hs2 (by rw [hg]; exact hd), hg]
theorem sh_readT (h : Shift c c' x) : readT c'.s.mem by_ n = readT c.s.mem by_ n := by unfold readT; rw [sh_wlen h]
theorem read_code {m : Mem} : (read m by_ n).2 = readT m by_ n := by
  unfold read
  split
  · rename_i h; exact h.symm
  · rfl
theorem found_shift (h : Shift c c' x) (hk : k ≤ c'.rob.length) : found c' k by_ n = found c ((k + 1 : Nat) : Int) by_ n := by
  have hl : lastAt (puts n) noEnt c.rob (upTo ((k + 1 : Nat) : Int) c.rob.length) = if lastAt (puts n) noEnt c'.rob k < 0 then (if puts n x = true then 0 else -1) else lastAt (puts n) noEnt c'.rob k + 1 := by
    rw [upTo_nat (by rw [sh_len h]; omega), h.rob, lastAt_shift]
  have hf : ∀ w, filt c'.s.mem w = filt c.s.mem w := fun w => like_filt (sh_gone h)
  have h24 := (memOk_iff.1 (sttOk_iff.1 h.ok).2.2.2.1).1
  by_cases h0 : readT c.s.mem by_ n = 0
  · have h0' : readT c'.s.mem by_ n = 0 := by rw [sh_readT h]; exact h0
    have hn := inR_iff.1 (read_in (m := c.s.mem) h0)
    have c1 : ¬ (read c'.s.mem by_ n).2 ≠ 0 := by rw [read_code]; simpa using h0'
    have c2 : ¬ (read c.s.mem by_ n).2 ≠ 0 := by rw [read_code]; simpa using h0
    by_cases h1 : lastAt (puts n) noEnt c'.rob k < 0
    · rw [if_pos h1] at hl
      have hge := (lastAt_lt (p := puts n) (d := noEnt) (xs := c'.rob) k).1
      rw [found_miss c1 (by rw [upTo_nat hk]; omega), read_ok h0', hf]
      by_cases h2 : puts n x = true
      · rw [if_pos h2] at hl
        have h3 : c.rob.getD 0 noEnt = x := by rw [h.rob]; rfl
        rw [found_hit (q := 0) c2 (by rw [hl]; rfl), h3]
        simp only [puts, Bool.and_eq_true, decide_eq_true_eq] at h2
        have hw : c'.s.mem.words.getD n.toNat noWord = x.e.put := by
          rw [sh_words h, h2.2, if_pos (inR_iff.2 (by omega))]
          have : n.toNat < c.s.mem.words.length := by omega
          simp [this]
        rw [hw]
      · rw [if_neg h2] at hl
        rw [found_miss c2 hl, read_ok h0]
        have hw : c'.s.mem.words.getD n.toNat noWord = c.s.mem.words.getD n.toNat noWord := by
          rw [sh_words h]
          split
          · rename_i g
            have g2 := inR_iff.1 g
            have hne : ¬ x.e.adr = n := by
              intro e
              apply h2
              have h11 : x.x.op = 11 := by
                rcases h.ad with h5 | h5
                · exact h5
                · omega
              simp [puts, h11, h.dn, h.tr, e]
            rw [List.getD_eq_getElem?_getD, List.getElem?_set_ne (by omega), ← List.getD_eq_getElem?_getD]
          · rfl
        rw [hw]
    · rw [if_neg h1] at hl
      obtain ⟨m, hm⟩ := Int.eq_ofNat_of_zero_le (Int.not_lt.1 h1)
      rw [found_hit (q := m) c1 (by rw [upTo_nat hk]; exact hm), found_hit (q := m + 1) c2 (by rw [hl, hm]; rfl), sh_get h, hf]
  · have h0' : ¬ readT c'.s.mem by_ n = 0 := by rw [sh_readT h]; exact h0
    rw [found_no (by rw [read_code]; exact h0'), found_no (by rw [read_code]; exact h0), read_code, read_code, sh_readT h]
theorem eff_shift (h : Shift c c' x) (hk : k ≤ c'.rob.length) (hy : inR y.x.a 0 7 = true ∧ inR y.x.b 0 7 = true) (hkn : Known c (k + 1) y.x) : Known c' k y.x ∧ doneBy c' k y = doneBy c ((k + 1 : Nat) : Int) y := by
  have ha := val_shift h hk hy.1
  have hb := val_shift h hk hy.2
  refine ⟨⟨fun g => ?_, fun g => ?_, fun g => ?_⟩, ?_⟩
  · rw [ha]; exact hkn.1 g
  · rw [hb]; exact hkn.2.1 g
  · have := (any_take_iff (d := noEnt) (by rw [sh_len h]; omega)).1 (hkn.2.2 g)
    exact (any_take_iff (d := noEnt) hk).2 fun j hj => by rw [← sh_get h]; exact this (j + 1) (by omega)
  · exact fx_parts (fun _ => by rw [ha]) (fun _ => by rw [hb]) (fun _ _ _ => found_shift h hk) (fun _ _ _ => like_write (sh_wlen h))
/-! ### what is swept tells the same -/
theorem filt_bare {m : Mem} : filt m (bare w) = bare w := by rw [filt, if_neg]; rintro ⟨h, _⟩; cases h
theorem bare_bare : bare (bare w) = bare w := by
  show plain (low w.n) = plain w.n
  unfold plain
  rw [low_low]
theorem filt_taken {m : Mem} : filt m (taken by_ (filt m w)) = filt m (taken by_ w) := by
  by_cases h : w.is = true ∧ inR w.key.base 0 (m.gone.length - 1) = true ∧ m.gone.getD w.key.base.toNat false = true
  · have h1 : filt m w = bare w := by rw [filt, if_pos h]
    rw [h1]
    unfold taken
    split
    · rw [bare_bare]
    · rw [filt_bare, h1]
  · have h1 : filt m w = w := by rw [filt, if_neg h]
    rw [h1]
theorem sweep_like {m : Mem} {q : Int} (h : memOk m = true) : likeMem m (sweep m q) := by
  cases hq : inR q 0 23 with
  | false => rw [sweep_out h hq]; exact likeMem_refl
  | true =>
    rw [sweep_in h hq]
    have hq2 := inR_iff.1 hq
    have h24 := (memOk_iff.1 h).1
    have hl : (m.words.set q.toNat (filt m (m.words.getD q.toNat noWord))).length = m.words.length := by simp
    have ht : ∀ by_ n, readT ⟨m.words.set q.toNat (filt m (m.words.getD q.toNat noWord)), m.gone⟩ by_ n = readT m by_ n := by
      intro by_ n
      unfold readT
      rw [hl]
    have hf : ∀ w, filt ⟨m.words.set q.toNat (filt m (m.words.getD q.toNat noWord)), m.gone⟩ w = filt m w := fun w => like_filt rfl
    refine ⟨hl, rfl, fun by_ n => ?_⟩
    by_cases h0 : readT m by_ n = 0
    · rw [read_ok h0, read_ok ((ht by_ n).trans h0), hf]
      congr 1
      by_cases e : n.toNat = q.toNat
      · have : q.toNat < m.words.length := by omega
        have hg : (m.words.set q.toNat (filt m (m.words.getD q.toNat noWord))).getD n.toNat noWord = filt m (m.words.getD n.toNat noWord) := by rw [e]; simp [this]
        rw [hg]
        exact filt_taken
      · have hg : (m.words.set q.toNat (filt m (m.words.getD q.toNat noWord))).getD n.toNat noWord = m.words.getD n.toNat noWord := by
          rw [List.getD_eq_getElem?_getD, List.getElem?_set_ne (fun g => e g.symm), ← List.getD_eq_getElem?_getD]
        rw [hg]
    · rw [read_no h0, read_no (by rw [ht]; exact h0), ht]
end
end Go.Proofs.YtdifphcihhbjlaaGreat.AM
set_option linter.unusedVariables false
set_option linter.unusedSimpArgs false
namespace Go.Proofs.YtdifphcihhbjlaaGreat.AM
open Go

section
variable {l : List Ins} {c c' d : Cor} {s : Stt} {x y z : Ent} {p : Pik} {pc a b g by_ w nx : Word} {n r i : Int} {k m t : Nat} {e : Fx} {st : Bool} {i' : Ins}
def nxt (x : Ent) : Word := if x.done = true then x.e.next else x.guess
def pcAt (c : Cor) (k : Nat) : Word := if k = 0 then c.s.pc else nxt (c.rob.getD (k - 1) noEnt)
def trapD (x : Ent) : Prop := x.done = true ∧ ¬ x.e.trap = 0
def fetOk (l : List Ins) (x : Ent) : Prop := ((fetch l x.pc).2 = 0 ∧ x.x = (fetch l x.pc).1) ∨ (¬ (fetch l x.pc).2 = 0 ∧ x.done = true ∧ x.x = noIns ∧ x.e = fxTrap (fetch l x.pc).2 x.pc)
def effOk (l : List Ins) (c : Cor) (k : Nat) (x : Ent) : Prop := x.done = true → (fetch l x.pc).2 = 0 → Known c k x.x ∧ x.e = doneBy c k x
structure CInv (l : List Ins) (c : Cor) : Prop where
  ok : corOk c = true
  fet : ∀ k, k < c.rob.length → fetOk l (c.rob.getD k noEnt)
  eff : ∀ k, k < c.rob.length → effOk l c k (c.rob.getD k noEnt)
  pcs : c.s.trap = 0 → ∀ k, k < c.rob.length → (c.rob.getD k noEnt).pc = pcAt c k
  nex : c.s.trap = 0 → c.stop = false → c.next = pcAt c c.rob.length
  mid : ∀ k, k < c.rob.length → trapD (c.rob.getD k noEnt) → k + 1 = c.rob.length ∧ c.stop = true
  stp : c.s.trap = 0 → c.stop = true → 0 < c.rob.length ∧ trapD (c.rob.getD (c.rob.length - 1) noEnt)
  trp : ¬ c.s.trap = 0 → c.rob = []
theorem inv_new (h : sttOk s = true) : CInv l (corNew s) := by
  have hk := corNew_ok h
  rw [corNew_go h] at hk ⊢
  exact ⟨hk, fun k hk => absurd hk (Nat.not_lt_zero _), fun k hk => absurd hk (Nat.not_lt_zero _), fun _ k hk => absurd hk (Nat.not_lt_zero _), fun _ _ => rfl, fun k hk => absurd hk (Nat.not_lt_zero _), fun _ g => (by cases g), fun _ => rfl⟩
theorem getD_snoc {xs : List Ent} (h : k < xs.length) : (xs ++ [z]).getD k noEnt = xs.getD k noEnt := by
  rw [List.getD_eq_getElem?_getD, List.getElem?_append_left h, ← List.getD_eq_getElem?_getD]
theorem getD_last {xs : List Ent} : (xs ++ [z]).getD xs.length noEnt = z := by simp
theorem work_trap0 (h : (work i' pc a b g).trap = 0) : (work i' pc a b g).r = sets i' ∧ (i'.op = 11 ∨ (work i' pc a b g).adr = -1) := by
  unfold work at h ⊢
  split
  · rename_i e
    exact ⟨by unfold sets; rw [show hasR i'.op = false by rw [e]; decide]; rfl, Or.inl e⟩
  · rename_i e11
    rw [if_neg e11] at h
    split
    · rename_i e
      rw [if_pos e] at h
      split
      · rename_i g1
        rw [if_pos g1] at h
        exact absurd h g1
      · exact ⟨by unfold sets; rw [show hasR i'.op = true by rw [e]; decide]; rfl, Or.inr rfl⟩
    · rename_i e12
      rw [if_neg e12] at h
      split
      · rename_i e
        exact ⟨by unfold sets; rw [show hasR i'.op = false by rw [e]; decide]; rfl, Or.inr rfl⟩
      · rename_i e13
        rw [if_neg e13] at h
        split
        · rename_i e
          rw [if_pos e] at h
          split
          · rename_i g1
            rw [if_pos g1] at h
            exact absurd h g1
          · exact ⟨by unfold sets; rw [show hasR i'.op = false by rw [e]; decide]; rfl, Or.inr rfl⟩
        · rename_i e14
          rw [if_neg e14] at h
          split
          · rename_i e
            rw [if_pos e] at h
            cases h
          · exact ⟨rfl, Or.inr rfl⟩
theorem fxAt_trap0 (h : (fxAt c i i' pc a b).trap = 0) : (fxAt c i i' pc a b).r = sets i' ∧ (i'.op = 11 ∨ (fxAt c i i' pc a b).adr = -1) := by
  by_cases h0 : (memAt c i i' a b).2 = 0
  · rw [fxAt_go h0] at h ⊢
    exact work_trap0 h
  · rw [fxAt_trap h0] at h
    exact absurd h h0
theorem ready_known (h : ready c m = true) : Known c m (c.rob.getD m noEnt).x := by
  obtain ⟨h1, h2, h3⟩ := ready_parts h
  have := ready_eq ⟨h1, h2, h3⟩
  rw [h] at this
  rw [Int.toNat_natCast] at this
  have h4 := this.symm
  simp only [Bool.and_eq_true, Bool.or_eq_true, Bool.not_eq_true', decide_eq_false_iff_not] at h4
  refine ⟨fun g => ?_, fun g => ?_, fun g => ?_⟩
  · rcases h4.1.1 with h5 | h5
    · rw [g] at h5; cases h5
    · exact h5
  · rcases h4.1.2 with h5 | h5
    · rw [g] at h5; cases h5
    · exact h5
  · rcases h4.2 with h5 | h5
    · exact absurd g h5
    · exact h5
theorem pick_idx (h : inR i 0 (c.rob.length - 1) = true) : ∃ m : Nat, i = m ∧ m < c.rob.length := by
  have := inR_iff.1 h
  exact ⟨i.toNat, by omega, by omega⟩
/-- What is done of an entry, in whatever way the rest goes. -/
theorem do_aux (h : CInv l c) (hm : m < c.rob.length) (hy : c.rob.getD m noEnt = y) (hd : y.done = false) (hk : Known c m y.x) (he : e = doneBy c m y) (ht : m < t ∧ t ≤ c.rob.length)
    (hc : (¬ e.trap = 0 ∧ t = m + 1 ∧ st = true) ∨ (e.trap = 0 ∧ t = m + 1 ∧ nx = e.next ∧ st = false) ∨ (e.trap = 0 ∧ t = c.rob.length ∧ e.next = y.guess ∧ nx = c.next ∧ st = c.stop))
    (hd' : d = withRob c ((c.rob.set m ⟨y.pc, y.x, true, e, y.guess⟩).take t) nx st) (hok : corOk d = true) : CInv l d := by
  have hr : d.rob = (c.rob.set m ⟨y.pc, y.x, true, e, y.guess⟩).take t := by rw [hd']; rfl
  have hs : d.s = c.s := by rw [hd']; rfl
  have hn : d.next = nx := by rw [hd']; rfl
  have hst : d.stop = st := by rw [hd']; rfl
  have hl : d.rob.length = t := by rw [hr, List.length_take, List.length_set]; omega
  have hg1 : d.rob.getD m noEnt = ⟨y.pc, y.x, true, e, y.guess⟩ := by
    rw [hr, List.getD_eq_getElem?_getD, List.getElem?_take_of_lt ht.1, List.getElem?_set_self hm]; rfl
  have hg2 : ∀ j, j < t → ¬ j = m → d.rob.getD j noEnt = c.rob.getD j noEnt := fun j hj hne => by
    rw [hr, List.getD_eq_getElem?_getD, List.getElem?_take_of_lt hj, List.getElem?_set_ne (fun g => hne g.symm), ← List.getD_eq_getElem?_getD]
  have hfy : (fetch l y.pc).2 = 0 ∧ y.x = (fetch l y.pc).1 := by
    rcases hy ▸ h.fet m hm with g | g
    · exact g
    · rw [hd] at g; cases g.2.1
  have htr : c.s.trap = 0 := by
    by_cases g : c.s.trap = 0
    · exact g
    · have := h.trp g; rw [this] at hm; cases hm
  have hlow : ∀ k, k ≤ m → Turns c d k := fun k hk => ⟨by omega, by omega, fun j hj => Or.inl (hg2 j (by omega) (by omega))⟩
  have hset : e.trap = 0 → Turn y ⟨y.pc, y.x, true, e, y.guess⟩ := fun g => Or.inr ⟨hd, rfl, by
    rw [setBy, setBy, if_pos rfl, hd, if_neg (by decide)]
    subst he
    exact (fxAt_trap0 g).1⟩
  have hall : ∀ k, k ≤ t → (k ≤ m ∨ e.trap = 0) → Turns c d k := fun k hk hk2 => ⟨by omega, by omega, fun j hj => by
    by_cases g : j = m
    · subst g
      rw [hg1, hy]
      rcases hk2 with g | g
      · omega
      · exact hset g
    · exact Or.inl (hg2 j (by omega) g)⟩
  have hmem : likeMem c.s.mem d.s.mem := by rw [hs]; exact likeMem_refl
  have hregs : d.s.regs = c.s.regs := by rw [hs]
  have hpc : ∀ k, k < t → pcAt d k = pcAt c k := fun k hk => by
    unfold pcAt
    rw [hs]
    split
    · rfl
    · by_cases g : k - 1 = m
      · have hgo : e.next = y.guess := by
          rcases hc with g1 | g1 | g1
          · omega
          · omega
          · exact g1.2.2.1
        rw [g, hg1, hy]
        unfold nxt
        rw [if_pos rfl, hd, if_neg (by decide)]
        exact hgo
      · rw [hg2 (k - 1) (by omega) g]
  have hnm : nxt (d.rob.getD m noEnt) = e.next := by rw [hg1]; rfl
  have hmt : trapD (d.rob.getD m noEnt) ↔ ¬ e.trap = 0 := by rw [hg1]; exact ⟨fun g => g.2, fun g => ⟨rfl, g⟩⟩
  refine ⟨hok, ?_, ?_, ?_, ?_, ?_, ?_, ?_⟩
  · intro k hk
    rw [hl] at hk
    by_cases g : k = m
    · rw [g, hg1]; exact Or.inl hfy
    · rw [hg2 k hk g]; exact h.fet k (by omega)
  · intro k hk
    rw [hl] at hk
    by_cases g : k = m
    · subst g
      rw [hg1]
      intro _ _
      have := eff_turn (y := y) (hlow k (Nat.le_refl _)) hregs hmem hk
      exact ⟨this.1, by rw [he]; exact this.2.symm⟩
    · rw [hg2 k hk g]
      intro hdk hfk
      have h1 := h.eff k (by omega) hdk hfk
      have := eff_turn (y := c.rob.getD k noEnt) (hall k (by omega) (by
        by_cases g2 : k ≤ m
        · exact Or.inl g2
        · rcases hc with g1 | g1 | g1
          · omega
          · exact Or.inr g1.1
          · exact Or.inr g1.1)) hregs hmem h1.1
      exact ⟨this.1, h1.2.trans this.2.symm⟩
  · intro _ k hk
    rw [hl] at hk
    rw [hpc k hk]
    by_cases g : k = m
    · rw [g, hg1]
      have := h.pcs htr m hm
      rw [hy] at this
      exact this
    · rw [hg2 k hk g]; exact h.pcs htr k (by omega)
  · intro _ hs0
    rw [hn, hl]
    rcases hc with g1 | g1 | g1
    · rw [hst, g1.2.2] at hs0; cases hs0
    · rw [g1.2.2.1, g1.2.1]
      unfold pcAt
      rw [if_neg (by omega), Nat.add_sub_cancel, hnm]
    · have := h.nex htr (by rw [← hs0, hst, g1.2.2.2.2])
      rw [g1.2.2.2.1, this, g1.2.1]
      unfold pcAt
      rw [if_neg (by omega), if_neg (by omega)]
      by_cases g : c.rob.length - 1 = m
      · rw [g, hg1, hy]
        unfold nxt
        rw [if_pos rfl, hd, if_neg (by decide), g1.2.2.1]
      · rw [hg2 _ (by omega) g]
  · intro k hk htd
    rw [hl] at hk ⊢
    by_cases g : k = m
    · subst g
      have := hmt.1 htd
      rcases hc with g1 | g1 | g1
      · rw [hst, g1.2.2]; exact ⟨g1.2.1.symm, rfl⟩
      · exact absurd g1.1 this
      · exact absurd g1.1 this
    · rw [hg2 k hk g] at htd
      have h1 := h.mid k (by omega) htd
      rcases hc with g1 | g1 | g1
      · omega
      · omega
      · rw [hst, g1.2.2.2.2]; exact ⟨by omega, h1.2⟩
  · intro _ hs1
    rw [hl]
    rw [hst] at hs1
    rcases hc with g1 | g1 | g1
    · rw [g1.2.1, Nat.add_sub_cancel]
      exact ⟨by omega, hmt.2 g1.1⟩
    · rw [g1.2.2.2] at hs1; cases hs1
    · have h1 := h.stp htr (by rw [← g1.2.2.2.2]; exact hs1)
      rw [g1.2.1]
      refine ⟨h1.1, ?_⟩
      by_cases g : c.rob.length - 1 = m
      · have h2 := h1.2.1
        rw [g, hy, hd] at h2; cases h2
      · rw [hg2 _ (by omega) g]; exact h1.2
  · intro g
    rw [hs] at g
    exact absurd htr g
theorem do_s (h : corOk c = true) : (do_ c i).1.s = c.s := by
  by_cases hr : ready c i = true
  · rw [do_on h hr]
    unfold doE
    split
    · rfl
    · split <;> rfl
  · rw [do_idle h (by simpa using hr)]
theorem do_inv (h : CInv l c) : CInv l (do_ c i).1 := by
  by_cases hr : ready c i = true
  · obtain ⟨h1, h2, h3⟩ := ready_parts hr
    obtain ⟨m, rfl, hm⟩ := pick_idx h2
    have hok := do_ok (i := (m : Int)) h.ok
    rw [do_on h.ok hr, Int.toNat_natCast] at hok ⊢
    rw [Int.toNat_natCast] at h3
    have hkn := ready_known hr
    by_cases e1 : (doneBy c m (c.rob.getD m noEnt)).trap = 0
    · by_cases e2 : (doneBy c m (c.rob.getD m noEnt)).next = (c.rob.getD m noEnt).guess
      · refine do_aux (nx := c.next) (st := c.stop) (t := c.rob.length) h hm rfl h3 hkn rfl ⟨hm, Nat.le_refl _⟩ (Or.inr (Or.inr ⟨e1, rfl, e2, rfl, rfl⟩)) ?_ hok
        rw [doE_go e1 e2, List.take_of_length_le (by simp)]
      · exact do_aux (nx := (doneBy c m (c.rob.getD m noEnt)).next) (st := false) (t := m + 1) h hm rfl h3 hkn rfl ⟨Nat.lt_succ_self _, hm⟩ (Or.inr (Or.inl ⟨e1, rfl, rfl, rfl⟩)) (doE_turn e1 e2) hok
    · exact do_aux (nx := c.next) (st := true) (t := m + 1) h hm rfl h3 hkn rfl ⟨Nat.lt_succ_self _, hm⟩ (Or.inl ⟨e1, rfl, rfl⟩) (doE_trap e1) hok
  · rw [do_idle h.ok (by simpa using hr)]; exact h
theorem pull_s (h : corOk c = true) : (pull l c).1.s = c.s := by
  by_cases h1 : c.stop = true ∨ c.rob.length = 6 ∨ c.s.trap ≠ 0
  · rw [pull_idle h h1]
  · by_cases h2 : (fetch l c.next).2 = 0
    · rw [pull_go h h1 h2]; rfl
    · rw [pull_trap h h1 h2]; rfl
theorem pull_inv (h : CInv l c) : CInv l (pull l c).1 := by
  by_cases h1 : c.stop = true ∨ c.rob.length = 6 ∨ c.s.trap ≠ 0
  · rw [pull_idle h.ok h1]; exact h
  · have hst : c.stop = false := by cases hc : c.stop; rfl; exact absurd (Or.inl hc) h1
    have htr : c.s.trap = 0 := Decidable.not_not.1 fun g => h1 (Or.inr (Or.inr g))
    have hok := pull_ok (l := l) h.ok
    obtain ⟨z, nx, st, hp, hpc, hz⟩ : ∃ z nx st, (pull l c).1 = withRob c (c.rob ++ [z]) nx st ∧ z.pc = c.next ∧ ((z.done = false ∧ (fetch l z.pc).2 = 0 ∧ z.x = (fetch l z.pc).1 ∧ nx = z.guess ∧ st = false) ∨ (¬ (fetch l z.pc).2 = 0 ∧ z.done = true ∧ z.x = noIns ∧ z.e = fxTrap (fetch l z.pc).2 z.pc ∧ st = true)) := by
      by_cases h2 : (fetch l c.next).2 = 0
      · rw [pull_go h.ok h1 h2]
        exact ⟨_, _, _, rfl, rfl, Or.inl ⟨rfl, h2, rfl, rfl, hst⟩⟩
      · rw [pull_trap h.ok h1 h2]
        exact ⟨_, _, _, rfl, rfl, Or.inr ⟨h2, rfl, rfl, rfl, rfl⟩⟩
    rw [hp] at hok ⊢
    have hg : ∀ k, k < c.rob.length → (withRob c (c.rob ++ [z]) nx st).rob.getD k noEnt = c.rob.getD k noEnt := fun k hk => getD_snoc hk
    have hgz : (withRob c (c.rob ++ [z]) nx st).rob.getD c.rob.length noEnt = z := getD_last
    have hl : (withRob c (c.rob ++ [z]) nx st).rob.length = c.rob.length + 1 := by simp [withRob]
    have htn : ∀ k, k ≤ c.rob.length → Turns c (withRob c (c.rob ++ [z]) nx st) k := fun k hk => ⟨hk, by omega, fun j hj => Or.inl (hg j (by omega))⟩
    have hpa : ∀ k, k ≤ c.rob.length → pcAt (withRob c (c.rob ++ [z]) nx st) k = pcAt c k := fun k hk => by
      unfold pcAt
      split
      · rfl
      · rw [hg (k - 1) (by omega)]
    refine ⟨hok, ?_, ?_, ?_, ?_, ?_, ?_, ?_⟩
    · intro k hk
      rw [hl] at hk
      by_cases g : k = c.rob.length
      · rw [g, hgz]
        rcases hz with g1 | g1
        · exact Or.inl ⟨g1.2.1, g1.2.2.1⟩
        · exact Or.inr ⟨g1.1, g1.2.1, g1.2.2.1, g1.2.2.2.1⟩
      · rw [hg k (by omega)]; exact h.fet k (by omega)
    · intro k hk
      rw [hl] at hk
      by_cases g : k = c.rob.length
      · rw [g, hgz]
        intro g2 g3
        rcases hz with g1 | g1
        · rw [g1.1] at g2; cases g2
        · exact absurd g3 g1.1
      · rw [hg k (by omega)]
        intro g2 g3
        have h2 := h.eff k (by omega) g2 g3
        have := eff_turn (y := c.rob.getD k noEnt) (htn k (by omega)) (c' := withRob c (c.rob ++ [z]) nx st) rfl likeMem_refl h2.1
        exact ⟨this.1, h2.2.trans this.2.symm⟩
    · intro _ k hk
      rw [hl] at hk
      rw [hpa k (by omega)]
      by_cases g : k = c.rob.length
      · rw [g, hgz, hpc]; exact h.nex htr hst
      · rw [hg k (by omega)]; exact h.pcs htr k (by omega)
    · intro _ hs
      rcases hz with g1 | g1
      · show nx = _
        rw [hl]
        unfold pcAt
        rw [if_neg (by omega), Nat.add_sub_cancel, hgz]
        unfold nxt
        rw [g1.1, if_neg (by decide)]
        exact g1.2.2.2.1
      · have : st = false := hs
        rw [g1.2.2.2.2] at this; cases this
    · intro k hk htd
      rw [hl] at hk ⊢
      by_cases g : k = c.rob.length
      · rw [g, hgz] at htd
        rcases hz with g1 | g1
        · have := htd.1; rw [g1.1] at this; cases this
        · exact ⟨by omega, g1.2.2.2.2⟩
      · rw [hg k (by omega)] at htd
        have := h.mid k (by omega) htd
        rw [hst] at this; cases this.2
    · intro _ hs
      rw [hl, Nat.add_sub_cancel, hgz]
      rcases hz with g1 | g1
      · have : st = true := hs
        rw [g1.2.2.2.2] at this; cases this
      · refine ⟨by omega, g1.2.1, ?_⟩
        rw [g1.2.2.2.1]
        exact g1.1
    · intro g
      exact absurd htr g
theorem inv_first (h : CInv l c) (h0 : 0 < c.rob.length) (hd : (c.rob.getD 0 noEnt).done = true) : c.s.trap = 0 ∧ (c.rob.getD 0 noEnt).pc = c.s.pc ∧ (c.rob.getD 0 noEnt).e = fxOf l c.s ∧ (¬ (c.rob.getD 0 noEnt).e.trap = 0 ∨ ((c.rob.getD 0 noEnt).x.op = 11 ∨ (c.rob.getD 0 noEnt).e.adr = -1)) := by
  have htr : c.s.trap = 0 := by
    by_cases g : c.s.trap = 0
    · exact g
    · rw [h.trp g] at h0; cases h0
  have hpc : (c.rob.getD 0 noEnt).pc = c.s.pc := h.pcs htr 0 h0
  refine ⟨htr, hpc, ?_⟩
  have hv : ∀ r, valueRaw c 0 r = (reg c.s r, true) := fun r => by
    refine raw_reg ?_
    have := src_lt c.rob 0 r
    simpa using this
  have hfd : ∀ by_ n, found c 0 by_ n = read c.s.mem by_ n := fun by_ n => by
    by_cases g : (read c.s.mem by_ n).2 = 0
    · rw [found_miss (by simpa using g) rfl]
      exact Prod.ext rfl g.symm
    · rw [found_no g]
      exact Prod.ext (read_fst g).symm rfl
  rcases h.fet 0 h0 with g | g
  · have h1 := (h.eff 0 h0 hd g.1).2
    have hx : ∀ i', fxAt c 0 i' c.s.pc (reg c.s i'.a) (reg c.s i'.b) = if (memOf c.s.mem i' (reg c.s i'.a) (reg c.s i'.b)).2 ≠ 0 then fxTrap (memOf c.s.mem i' (reg c.s i'.a) (reg c.s i'.b)).2 c.s.pc else work i' c.s.pc (reg c.s i'.a) (reg c.s i'.b) (memOf c.s.mem i' (reg c.s i'.a) (reg c.s i'.b)).1 := fun i' => by
      unfold fxAt memAt memOf
      rw [hfd]
    have h2 : doneBy c ((0 : Nat) : Int) (c.rob.getD 0 noEnt) = fxOf l c.s := by
      show fxAt c 0 (c.rob.getD 0 noEnt).x (c.rob.getD 0 noEnt).pc (valueRaw c 0 (c.rob.getD 0 noEnt).x.a).1 (valueRaw c 0 (c.rob.getD 0 noEnt).x.b).1 = _
      rw [hv, hv, hpc, hx, fxOf]
      rw [hpc] at g
      rw [g.2, if_neg (show ¬ (fetch l c.s.pc).2 ≠ 0 from fun q => q g.1)]
    refine ⟨h1.trans h2, ?_⟩
    by_cases g0 : (c.rob.getD 0 noEnt).e.trap = 0
    · rw [h1] at g0 ⊢
      exact Or.inr (fxAt_trap0 g0).2
    · exact Or.inl g0
  · refine ⟨?_, Or.inl ?_⟩
    · rw [g.2.2.2, hpc, fxOf, if_pos (by rw [← hpc]; exact g.1)]
    · rw [g.2.2.2]; exact g.1
theorem commit_step (h : CInv l c) (hc : (commit c).2 = true) : c.s.trap = 0 ∧ (commit c).1.s = step l c.s := by
  obtain ⟨h0, hd, hcm⟩ := commit_yes h.ok hc
  obtain ⟨htr, hpc, he, _⟩ := inv_first h h0 hd
  refine ⟨htr, ?_⟩
  rw [hcm, step, if_neg (by rw [(corOk_iff.1 h.ok).2.1]; exact Bool.noConfusion), if_neg (fun g => g htr), ← he]
  by_cases e1 : (c.rob.getD 0 noEnt).e.trap = 0
  · rw [if_neg (fun g => g e1)]
    by_cases e2 : 0 ≤ (c.rob.getD 0 noEnt).e.drop
    · rw [commitE_drop e1 e2]
    · rw [commitE_go e1 e2]
  · rw [if_pos e1, commitE_trap e1, hpc]
    rfl
theorem commit_inv (h : CInv l c) : CInv l (commit c).1 := by
  cases hc : (commit c).2 with
  | false => rw [commit_same h.ok hc]; exact h
  | true =>
    obtain ⟨h0, hd, hcm⟩ := commit_yes h.ok hc
    obtain ⟨htr, hpc, he, had⟩ := inv_first h h0 hd
    have hok := commit_ok h.ok
    rw [hcm] at hok ⊢
    obtain ⟨x, rest, hr⟩ : ∃ x rest, c.rob = x :: rest := by
      cases hq : c.rob with
      | nil => rw [hq] at h0; cases h0
      | cons x rest => exact ⟨x, rest, rfl⟩
    have hx0 : c.rob.getD 0 noEnt = x := by rw [hr]; rfl
    rw [hx0] at hok he had hd hpc ⊢
    by_cases e1 : x.e.trap = 0
    · by_cases e2 : 0 ≤ x.e.drop
      · rw [commitE_drop e1 e2] at hok ⊢
        exact ⟨hok, fun k hk => absurd hk (Nat.not_lt_zero _), fun k hk => absurd hk (Nat.not_lt_zero _), fun _ k hk => absurd hk (Nat.not_lt_zero _), fun _ _ => rfl, fun k hk => absurd hk (Nat.not_lt_zero _), fun _ g => (by cases g), fun _ => rfl⟩
      · rw [commitE_go e1 e2] at hok ⊢
        generalize hD : (⟨applyFx c.s x.e, c.rob.drop 1, c.next, c.stop, learn c.guesses x.pc x.e.next⟩ : Cor) = D at hok ⊢
        have hDr : D.rob = rest := by rw [← hD, hr]; rfl
        have hDs : D.s = applyFx c.s x.e := by rw [← hD]
        have hDn : D.next = c.next := by rw [← hD]
        have hDt : D.stop = c.stop := by rw [← hD]
        have hDtr : D.s.trap = 0 := by rw [hDs]; exact htr
        have hsh : Shift c D x := ⟨by rw [hDr, hr], hd, e1, e2, by rcases had with g | g; exact absurd e1 g; exact g, hDs, (corOk_iff.1 h.ok).2.1⟩
        have hlen := sh_len hsh
        have hpa : ∀ k, pcAt D k = pcAt c (k + 1) := fun k => by
          unfold pcAt
          rw [if_neg (show ¬ k + 1 = 0 by omega), Nat.add_sub_cancel]
          by_cases g : k = 0
          · rw [if_pos g, g, hx0, hDs]
            unfold nxt
            rw [if_pos hd]
            rfl
          · rw [if_neg g, ← sh_get hsh, Nat.sub_add_cancel (by omega)]
        refine ⟨hok, ?_, ?_, ?_, ?_, ?_, ?_, ?_⟩
        · intro k hk
          rw [← sh_get hsh]
          exact h.fet (k + 1) (by omega)
        · intro k hk
          rw [← sh_get hsh]
          intro g1 g2
          have h1 := h.eff (k + 1) (by omega) g1 g2
          have hreg := ins_reg (entOk_parts (ent_ok h.ok (show k + 1 < c.rob.length by omega))).2.2.2.2.2.1
          have := eff_shift (y := c.rob.getD (k + 1) noEnt) hsh (Nat.le_of_lt hk) hreg.2 h1.1
          exact ⟨this.1, h1.2.trans this.2.symm⟩
        · intro _ k hk
          rw [← sh_get hsh, hpa]
          exact h.pcs htr (k + 1) (by omega)
        · intro _ g
          rw [hDn, hpa, ← hlen]
          exact h.nex htr (by rw [← hDt]; exact g)
        · intro k hk g
          rw [← sh_get hsh] at g
          have := h.mid (k + 1) (by omega) g
          rw [hDt]
          exact ⟨by omega, this.2⟩
        · intro _ g
          have h1 := h.stp htr (by rw [← hDt]; exact g)
          have hne : ¬ c.rob.length - 1 = 0 := fun q => by
            rw [q, hx0] at h1
            exact h1.2.2 e1
          refine ⟨by omega, ?_⟩
          rw [← sh_get hsh, show D.rob.length - 1 + 1 = c.rob.length - 1 by omega]
          exact h1.2
        · intro g
          exact absurd hDtr g
    · rw [commitE_trap e1] at hok ⊢
      exact ⟨hok, fun k hk => absurd hk (Nat.not_lt_zero _), fun k hk => absurd hk (Nat.not_lt_zero _), fun _ k hk => absurd hk (Nat.not_lt_zero _), fun g => absurd g e1, fun k hk => absurd hk (Nat.not_lt_zero _), fun g => absurd g e1, fun _ => rfl⟩
theorem sweep_inv {q : Int} (h : CInv l c) : CInv l (withS c (withMem c.s (sweep c.s.mem q))) := by
  have hk := corOk_iff.1 h.ok
  have hs := sttOk_iff.1 hk.2.1
  have hok : corOk (withS c (withMem c.s (sweep c.s.mem q))) = true := corOk_iff.2 ⟨hk.1, sttOk_iff.2 ⟨hs.1, hs.2.1, hs.2.2.1, sweep_ok hs.2.2.2.1, hs.2.2.2.2⟩, hk.2.2⟩
  have htn : ∀ k, k ≤ c.rob.length → Turns c (withS c (withMem c.s (sweep c.s.mem q))) k := fun k hk => ⟨hk, hk, fun j hj => Or.inl rfl⟩
  refine ⟨hok, h.fet, ?_, h.pcs, h.nex, h.mid, h.stp, h.trp⟩
  intro k hk g1 g2
  have h1 := h.eff k hk g1 g2
  have := eff_turn (c' := withS c (withMem c.s (sweep c.s.mem q))) (y := c.rob.getD k noEnt) (htn k (Nat.le_of_lt hk)) rfl (sweep_like hs.2.2.2.1) h1.1
  exact ⟨this.1, h1.2.trans this.2.symm⟩
theorem pick_inv (h : CInv l c) : CInv l (corPick l c p).1 := by
  by_cases h1 : p.kind = 1
  · rw [pick_1 h.ok h1]; exact pull_inv h
  · by_cases h2 : p.kind = 2
    · rw [pick_2 h.ok h2]; exact do_inv h
    · by_cases h3 : p.kind = 3
      · rw [pick_3 h.ok h3]; exact commit_inv h
      · by_cases h4 : p.kind = 4
        · rw [pick_4 h.ok h4]; exact sweep_inv h
        · rw [pick_5 h.ok h1 h2 h3 h4]; exact h
/-- What a pick makes of the state. -/
def pickS (l : List Ins) (c : Cor) (p : Pik) : Stt :=
  if (corPick l c p).2 = true ∧ p.kind = 3 then step l c.s else if (corPick l c p).2 = true ∧ p.kind = 4 then withMem c.s (sweep c.s.mem p.n) else c.s
theorem pick_s (h : CInv l c) : (corPick l c p).1.s = pickS l c p := by
  unfold pickS
  by_cases h1 : p.kind = 1
  · rw [if_neg (by omega), if_neg (by omega), pick_1 h.ok h1]; exact pull_s h.ok
  · by_cases h2 : p.kind = 2
    · rw [if_neg (by omega), if_neg (by omega), pick_2 h.ok h2]; exact do_s h.ok
    · by_cases h3 : p.kind = 3
      · rw [pick_3 h.ok h3]
        cases hc : (commit c).2 with
        | false => rw [if_neg (fun g => by cases g.1), if_neg (fun g => by cases g.1), commit_same h.ok hc]
        | true => rw [if_pos ⟨rfl, h3⟩]; exact (commit_step h hc).2
      · rw [if_neg (fun g => h3 g.2)]
        by_cases h4 : p.kind = 4
        · cases hn : inR p.n 0 23 with
          | false => rw [pick_out h.ok h4 hn, if_neg (fun g => by cases g.1)]
          | true => rw [pick_in h.ok h4 hn, if_pos ⟨rfl, h4⟩]; rfl
        · rw [pick_5 h.ok h1 h2 h3 h4, if_neg (fun g => h4 g.2)]
end
end Go.Proofs.YtdifphcihhbjlaaGreat.AM
set_option linter.unusedVariables false
set_option linter.unusedSimpArgs false
namespace Go.Proofs.YtdifphcihhbjlaaGreat.AM
open Go

section
variable {l : List Ins} {c d : Cor} {s : Stt} {x y z : Ent} {p : Pik} {ps : List Pik} {n r i : Int} {k m t j : Nat} {w N : Int}
/-- Steps, one behind the other. -/
def stepN (l : List Ins) : Nat → Stt → Stt
  | 0, s => s
  | n + 1, s => stepN l n (step l s)
theorem stepN_add : ∀ (a b : Nat) {s : Stt}, stepN l (a + b) s = stepN l b (stepN l a s)
  | 0, b, s => by rw [Nat.zero_add]; rfl
  | a + 1, b, s => by rw [Nat.add_right_comm]; exact stepN_add a b
theorem fold_rep : ∀ (n : Nat) {s : Stt}, (List.replicate n (-1 : Int)).foldl (runOne l) s = stepN l n s
  | 0, _ => rfl
  | n + 1, s => by
    rw [List.replicate_succ, List.foldl_cons, fold_rep n]
    rfl
/-- Up to here nothing has trapped. -/
def clear (l : List Ins) (s : Stt) (j : Nat) : Prop := ∀ i, i < j → (stepN l i s).trap = 0
theorem clear_zero : clear l s 0 := fun i hi => absurd hi (Nat.not_lt_zero _)
theorem clear_succ (h : s.trap = 0) (h2 : clear l (step l s) j) : clear l s (j + 1) := fun i hi => by
  cases i with
  | zero => exact h
  | succ i => exact h2 i (by omega)
theorem clear_add {a b : Nat} (h : clear l s a) (h2 : clear l (stepN l a s) b) : clear l s (a + b) := fun i hi => by
  by_cases g : i < a
  · exact h i g
  · have := h2 (i - a) (by omega)
    rwa [← stepN_add, show a + (i - a) = i by omega] at this
theorem clear_ord : ∀ (j : Nat) {s : Stt} {k : Int}, clear l s j → ordGo l j s k = (stepN l j s, k + j)
  | 0, s, k, _ => by rw [ordGo]; simp [stepN]
  | j + 1, s, k, h => by
    have h0 : s.trap = 0 := h 0 (by omega)
    rw [ordGo, if_pos h0, clear_ord j (fun i hi => h (i + 1) (by omega))]
    simp [stepN]
    omega

/-! ### runs of picks -/
def Kept (l : List Ins) (s : Stt) (x : Cor × List Int) : Prop := CInv l x.1 ∧ x.1.s = x.2.foldl (runOne l) s
theorem kept_step {x : Cor × List Int} (h : Kept l s x) : Kept l s (corStep l x p) := by
  refine ⟨pick_inv h.1, ?_⟩
  have h1 := pick_s (p := p) h.1
  show (corPick l x.1 p).1.s = (x.2 ++ if (corPick l x.1 p).2 = true then noted p else []).foldl (runOne l) s
  rw [h1, List.foldl_append, ← h.2]
  unfold pickS
  by_cases hb : (corPick l x.1 p).2 = true
  · rw [if_pos hb]
    by_cases h3 : p.kind = 3
    · rw [if_pos ⟨hb, h3⟩, noted, if_pos h3]
      rfl
    · rw [if_neg (fun g => h3 g.2)]
      by_cases h4 : p.kind = 4
      · rw [if_pos ⟨hb, h4⟩, noted, if_neg h3, if_pos h4]
        have hn : inR p.n 0 23 = true := by
          cases hn : inR p.n 0 23 with
          | true => rfl
          | false => rw [pick_out h.1.ok h4 hn] at hb; cases hb
        have := inR_iff.1 hn
        show _ = runOne l x.1.s p.n
        rw [runOne_sweep (by omega)]
      · rw [if_neg (fun g => h4 g.2), noted, if_neg h3, if_neg h4]
        rfl
  · rw [if_neg hb, if_neg (fun g => hb g.1), if_neg (fun g => hb g.1)]
    rfl
theorem kept_fold : ∀ (ps : List Pik) {x : Cor × List Int}, Kept l s x → Kept l s (ps.foldl (corStep l) x)
  | [], _, h => h
  | p :: ps, x, h => kept_fold ps (kept_step h)
theorem kept_run (h : sttOk s = true) (hp : ps.length ≤ 600) : Kept l s (corRun l s ps) := by
  rw [runC_go (fun g => g.elim (fun g => by omega) (fun g => by rw [h] at g; cases g))]
  refine kept_fold ps ⟨inv_new h, ?_⟩
  rw [corNew_go h]
  rfl
theorem alike_of {s t : Stt} (h : s = t) : alike s t = true := by rw [h]; exact alike_refl
theorem run_same (h : sttOk s = true) (hp : ps.length ≤ 600) : (corRun l s ps).1.s = run l s (corRun l s ps).2 := by
  rw [(kept_run h hp).2, run_go h (Nat.not_lt.2 runC_len)]
theorem judge_same (h : sttOk s = true) (hp : ps.length ≤ 600) : judgeSame l s ps = true := by
  rw [same_go (by rw [h, decide_eq_true hp]; rfl), run_same h hp]
  exact alike_refl

/-! ### keys that are held -/
def fromEnt (ws : List Word) (x : Ent) : Prop := fromW ws x.pc ∧ fromW ws x.guess ∧ fromE ws x.e
def fromC (ws : List Word) (c : Cor) : Prop := fromS ws c.s ∧ (∀ x, x ∈ c.rob → fromEnt ws x) ∧ fromW ws c.next
section
variable {ws : List Word} {a b by_ g : Word} {e : Fx} {q : Int}
theorem from_noEnt : fromEnt ws noEnt := ⟨from_no, from_no, from_no, from_no, from_no⟩
theorem from_ent {xs : List Ent} (h : ∀ x, x ∈ xs → fromEnt ws x) : fromEnt ws (xs.getD k noEnt) := by
  rw [List.getD_eq_getElem?_getD]
  cases hq : xs[k]? with
  | none => exact from_noEnt
  | some w => exact h w (List.mem_of_getElem? hq)
theorem from_raw (h : fromC ws c) : fromW ws (valueRaw c i r).1 := by
  unfold valueRaw
  split
  · exact from_getD h.1.1
  · split
    · exact from_no
    · exact (from_ent h.2.1).2.2.1
theorem from_read {m : Mem} (h : ∀ w, w ∈ m.words → fromW ws w) : fromW ws (read m by_ n).1 := by
  unfold read
  split
  · exact from_filt (from_taken (from_getD h))
  · exact from_no
theorem from_found (h : fromC ws c) : fromW ws (found c i by_ n).1 := by
  unfold found
  split
  · exact from_no
  · split
    · exact from_read h.1.2.2
    · exact from_filt (from_taken (from_ent h.2.1).2.2.2.2)
theorem from_done (h : fromC ws c) (hy : fromEnt ws y) : fromE ws (doneBy c i y) := by
  unfold doneBy fxAt
  split
  · exact ⟨from_no, hy.1, from_no⟩
  · refine from_work hy.1 (from_raw h) (from_raw h) ?_
    unfold memAt
    split
    · exact from_found h
    · split <;> exact from_no
theorem from_setE {xs : List Ent} (h : ∀ x, x ∈ xs → fromEnt ws x) (hy : fromEnt ws y) : ∀ x, x ∈ xs.set k y → fromEnt ws x := fun x hx => by
  rcases List.mem_or_eq_of_mem_set hx with hx | rfl
  · exact h x hx
  · exact hy
theorem from_do (h : fromC ws c) : fromC ws (do_ c i).1 := by
  unfold do_
  split
  · exact ⟨from_noStt, fun x hx => (by cases hx), from_no⟩
  · split
    · exact h
    · have hy := from_ent (k := i.toNat) h.2.1
      have he := from_done (i := i) h hy
      have hs := from_setE (k := i.toNat) h.2.1 (y := ⟨(c.rob.getD i.toNat noEnt).pc, (c.rob.getD i.toNat noEnt).x, true, doneBy c i (c.rob.getD i.toNat noEnt), (c.rob.getD i.toNat noEnt).guess⟩) ⟨hy.1, hy.2.1, he⟩
      unfold doE
      split
      · exact ⟨h.1, fun x hx => hs x (List.mem_of_mem_take hx), h.2.2⟩
      · split
        · exact ⟨h.1, fun x hx => hs x (List.mem_of_mem_take hx), he.2.1⟩
        · exact ⟨h.1, hs, h.2.2⟩
theorem from_guess {gs : List Int} (h : fromW ws a) : fromW ws (guess gs a) := by
  unfold guess
  split <;> exact from_point h
theorem from_snoc {xs : List Ent} (h : ∀ x, x ∈ xs → fromEnt ws x) (hz : fromEnt ws z) : ∀ x, x ∈ xs ++ [z] → fromEnt ws x := fun x hx => by
  rcases List.mem_append.1 hx with hx | hx
  · exact h x hx
  · obtain rfl := List.mem_singleton.1 hx
    exact hz
theorem from_pull (h : fromC ws c) : fromC ws (pull l c).1 := by
  unfold pull
  split
  · exact ⟨from_noStt, fun x hx => (by cases hx), from_no⟩
  · split
    · exact h
    · split
      · exact ⟨h.1, from_snoc h.2.1 ⟨h.2.2, h.2.2, from_no, h.2.2, from_no⟩, h.2.2⟩
      · exact ⟨h.1, from_snoc h.2.1 ⟨h.2.2, from_guess h.2.2, from_no, from_no, from_no⟩, from_guess h.2.2⟩
theorem from_commit (h : fromC ws c) : fromC ws (commit c).1 := by
  unfold commit
  split
  · exact ⟨from_noStt, fun x hx => (by cases hx), from_no⟩
  · split
    · exact h
    · have hy := from_ent (k := 0) h.2.1
      have ha := from_apply h.1 hy.2.2
      unfold commitE
      split
      · exact ⟨⟨h.1.1, hy.1, h.1.2.2⟩, fun x hx => (by cases hx), h.2.2⟩
      · split
        · exact ⟨ha, fun x hx => (by cases hx), hy.2.2.2.1⟩
        · exact ⟨ha, fun x hx => h.2.1 x (List.mem_of_mem_drop hx), h.2.2⟩
theorem from_sweep {m : Mem} (h : ∀ w, w ∈ m.words → fromW ws w) : ∀ w, w ∈ (sweep m q).words → fromW ws w := by
  unfold sweep
  split
  · split
    · exact from_set h (from_filt (from_getD h))
    · exact h
  · intro w hw; cases hw
theorem from_pick (h : fromC ws c) : fromC ws (corPick l c p).1 := by
  unfold corPick
  split
  · exact ⟨from_noStt, fun x hx => (by cases hx), from_no⟩
  · split
    · exact from_pull h
    · split
      · exact from_do h
      · split
        · exact from_commit h
        · split
          · exact ⟨⟨h.1.1, h.1.2.1, from_sweep h.1.2.2⟩, h.2⟩
          · exact h
theorem from_new (h : sttOk s = true) : fromC (keys s) (corNew s) := by
  rw [corNew_go h]
  exact ⟨fromS_self h, fun x hx => (by cases hx), (fromS_self h).2.1⟩
theorem held_from (h : fromC ws c) : allUnder (held c) ws = true := by
  rw [allUnder_iff]
  intro w hw
  have hk : ∀ {v : List Word}, (∀ u, u ∈ v → fromW ws u) → w ∈ keysOf v → fromW ws w := fun hv g => hv w (List.mem_filter.1 g).1
  rcases List.mem_append.1 hw with hw | hw
  · rcases List.mem_append.1 hw with hw | hw
    · exact allUnder_iff.1 (fromS_keys.1 h.1) w hw
    · obtain ⟨v, hv, hw2⟩ := List.mem_flatten.1 hw
      obtain ⟨x, hx, rfl⟩ := List.mem_map.1 hv
      have g := h.2.1 x hx
      refine hk (fun u hu => ?_) hw2
      simp only [List.mem_cons, List.not_mem_nil, or_false] at hu
      rcases hu with rfl | rfl | rfl | rfl | rfl
      · exact g.1
      · exact g.2.1
      · exact g.2.2.1
      · exact g.2.2.2.1
      · exact g.2.2.2.2
  · refine hk (fun u hu => ?_) hw
    rw [List.mem_singleton.1 hu]
    exact h.2.2
theorem judgeGo_from : ∀ (ps : List Pik) {c : Cor}, fromC ws c → judgeGo l ws ps c = true
  | [], _, _ => by rw [judgeGo]
  | p :: ps, c, h => by
    have h1 := from_pick (l := l) (p := p) h
    rw [judgeGo, held_from h1, judgeGo_from ps h1]; rfl
end
theorem judge_keys (h : sttOk s = true) (hp : ps.length ≤ 600) : judgeKeys l s ps = true := by
  rw [keysJ_go (by rw [h, decide_eq_true hp]; rfl)]
  exact judgeGo_from ps (from_new h)

end
end Go.Proofs.YtdifphcihhbjlaaGreat.AM
