/- The abstract machine: a stretch whose order is drawn, all orders. No conditions. -/
import Derived.Test.YtgddflnhibhacaaAmD
set_option linter.unusedVariables false
set_option linter.unusedSimpArgs false
namespace Go.Proofs.Ytgddflnhibhacaa.AM
open Go

section
variable {P : Program} {F : Nat → Prop} {ι ι' ι0 : Inj} {w0 w w' : World} {M D : Nat → Prop} {H H' : Heap} {k n : Nat} {ρ : Env} {a : Act}

theorem updO_app' {d : Option Tmp} {v : AV} {t : Nat} : updO ρ d v t = if d = some t then v else ρ t := by
  cases d with
  | none => simp [updO]
  | some u =>
    simp only [updO, upd, Option.some.injEq]
    by_cases h : t = u
    · simp [h]
    · rw [if_neg h, if_neg (fun e => h e.symm)]

/-- Blocks, where an operation is done out of order. -/
theorem HS.stepC {G G' : Heap} {W : List Nat} (hE : Eff F w0 ι ι' H H' W w w') (hFS : FS F w0 M) (hsz : w0.heap.size ≤ w.heap.size) (hS : HS F w0 ι M D G w)
    (hW : ∀ id, id ∈ W → D id ∧ id < H.length ∧ ∃ b, H[id]? = some b ∧ b.live = true ∧ G[id]? = some b) (hD : ∀ id, D id → ¬ (H.length ≤ id ∧ id < H'.length))
    (h1 : ∀ id, id ∈ W ∨ (H.length ≤ id ∧ id < H'.length) → G'[id]? = H'[id]?) (h2 : ∀ id, D id → id ∉ W → G'[id]? = G[id]?) :
    HS F w0 ι' M (fun id => D id ∨ (H.length ≤ id ∧ id < H'.length)) G' w' := by
  have olive : ∀ id b, D id → G'[id]? = some b → b.live = true → ∃ b0, G[id]? = some b0 ∧ b0.live = true ∧ (id ∉ W → b0 = b) := by
    intro id b hd hb hl
    by_cases hw : id ∈ W
    · obtain ⟨_, _, b0, _, g2, g3⟩ := hW id hw
      exact ⟨b0, g3, g2, fun h => absurd hw h⟩
    · rw [h2 id hd hw] at hb
      exact ⟨b, hb, hl, fun _ => rfl⟩
  have oold : ∀ id, D id → ι' id = ι id := fun id hd => hE.old id (by
    have := hD id hd
    omega)
  have newc : ∀ id c, H.length ≤ id → id < H'.length → ι' id = some (some c) → ∀ id2 b2 c2, D id2 → G'[id2]? = some b2 → b2.live = true → ι id2 = some (some c2) → c.blk ≠ c2.blk := by
    intro id c g1 g2 h5 id2 b2 c2 hd hb2 hl2 hc2 heq
    obtain ⟨b0, q1, q2, _⟩ := olive id2 b2 hd hb2 hl2
    rcases hE.newAt id c g1 g2 h5 with h6 | ⟨k, c', hk, hkc, hkb, hdead⟩
    · have hlt : c2.blk < w.heap.size := BR.lt (hS.br id2 b0 (some c2) hd q1 q2 hc2)
      omega
    · obtain ⟨hdk, _, bk, _, hlk, hbk⟩ := hW k hk
      have : id2 = k := hS.inj id2 k b0 bk c2 c' hd hdk q1 hbk q2 hlk hc2 hkc (by rw [hkb, heq])
      subst this
      rw [h1 id2 (Or.inl hk)] at hb2
      rw [hdead b2 hb2] at hl2
      cases hl2
  refine ⟨?_, ?_, ?_⟩
  · intro id b e hd hb hl he
    rcases hd with hd | ⟨g1, g2⟩
    · rw [oold id hd] at he
      by_cases hw : id ∈ W
      · rw [h1 id (Or.inl hw)] at hb
        exact hE.wr id b e hw hb hl he
      · obtain ⟨b0, q1, q2, q3⟩ := olive id b hd hb hl
        obtain rfl := q3 hw
        have hbr := hS.br id b0 e hd q1 q2 he
        refine hbr.mono hE.le fun c hc => ?_
        subst hc
        refine hE.frame c.blk (BR.lt hbr) fun k e' hk hke heq => ?_
        obtain ⟨hdk, _, bk, _, hlk, hbk⟩ := hW k hk
        have := hS.inj k id bk b0 e' c hdk hd hbk q1 hlk q2 hke he heq
        subst this
        exact hw hk
    · obtain ⟨e', h3, h4⟩ := hE.new id g1 g2
      rw [h3] at he
      obtain rfl := Option.some.inj he
      rw [h1 id (Or.inr ⟨g1, g2⟩)] at hb
      exact h4 b hb hl
  · intro id id' b b' c c' hd hd' hb hb' hl hl' hc hc' heq
    rcases hd with hd | ⟨g1, g2⟩
    · rcases hd' with hd' | ⟨g1', g2'⟩
      · obtain ⟨b0, q1, q2, _⟩ := olive id b hd hb hl
        obtain ⟨b0', q1', q2', _⟩ := olive id' b' hd' hb' hl'
        rw [oold id hd] at hc
        rw [oold id' hd'] at hc'
        exact hS.inj id id' b0 b0' c c' hd hd' q1 q1' q2 q2' hc hc' heq
      · rw [oold id hd] at hc
        exact absurd heq.symm (newc id' c' g1' g2' hc' id b c hd hb hl hc)
    · rcases hd' with hd' | ⟨g1', g2'⟩
      · rw [oold id' hd'] at hc'
        exact absurd heq (newc id c g1 g2 hc id' b' c' hd' hb' hl' hc')
      · exact hE.newInj id id' c c' g1 g2 g1' g2' hc hc' heq
  · intro id b c hd hb hl hc
    rcases hd with hd | ⟨g1, g2⟩
    · obtain ⟨b0, q1, q2, _⟩ := olive id b hd hb hl
      rw [oold id hd] at hc
      exact hS.own id b0 c hd q1 q2 hc
    · rcases hE.newAt id c g1 g2 hc with h6 | ⟨k, c', hk, hkc, hkb, hdead⟩
      · refine ⟨fun hf => ?_, Or.inr (by omega)⟩
        have := (hFS c.blk hf).1
        omega
      · obtain ⟨hdk, _, bk, _, hlk, hbk⟩ := hW k hk
        rw [← hkb]
        exact hS.own k bk c' hdk hbk hlk hkc

/-! ### what is bound -/
theorem uOf_bit {A : List Nat} {i : Nat} : ∀ (l : List Edge) (s : Nat), (l.foldl (fun s e => s ||| 2 ^ e.on ||| A.getD e.on 0) s).testBit i = true → s.testBit i = true ∨ ∃ e, e ∈ l ∧ (e.on = i ∨ (A.getD e.on 0).testBit i = true)
  | [], s, h => Or.inl h
  | e :: l, s, h => by
    rcases uOf_bit l _ h with h1 | ⟨e', h1, h2⟩
    · rw [Nat.testBit_or, Nat.testBit_or, Bool.or_eq_true, Bool.or_eq_true, Nat.testBit_two_pow, decide_eq_true_eq] at h1
      rcases h1 with (h1 | h1) | h1
      · exact Or.inl h1
      · exact Or.inr ⟨e, by simp, Or.inl h1⟩
      · exact Or.inr ⟨e, by simp, Or.inr h1⟩
    · exact Or.inr ⟨e', by simp [h1], h2⟩
theorem ancT_closed {ops : Array Oper} {fs : List Foot} {A : List Nat} (hA : dOk ops fs A = true) {S : Nat → Prop} (hS : ∀ j o e, ops[j]? = some o → e ∈ o.after → Region.binds .any e = true → S j → S e.on) : ∀ (j i : Nat), j < ops.size → (A.getD j 0).testBit i = true → S j → S i := by
  intro j
  induction j using Nat.strongRecOn with
  | _ j ih =>
    intro i hlt hb hj
    have h1 := List.all_eq_true.1 hA j (List.mem_range.2 hlt)
    rw [Array.getElem?_eq_getElem hlt] at h1
    simp only [Bool.and_eq_true, beq_iff_eq] at h1
    obtain ⟨⟨h2, h3⟩, _⟩ := h1
    have h4 : (uOf ops[j] A).testBit i = true := by
      rw [← h3, Nat.testBit_or, hb]
      rfl
    rcases uOf_bit _ _ h4 with h5 | ⟨e, h5, h6⟩
    · simp at h5
    · obtain ⟨h7, h8⟩ := List.mem_filter.1 h5
      have hon := hS j ops[j] e (Array.getElem?_eq_getElem hlt) (by simpa using h7) h8 hj
      rcases h6 with rfl | h6
      · exact hon
      · have h9 := List.all_eq_true.1 h2 e h7
        rw [h8] at h9
        simp at h9
        exact ih e.on h9 i (by omega) h6 hon

/-! ### the state behind those that are done -/
def CE (dst : Nat → Option Tmp) (X : Nat → AV) (E0 : Env) (S : Nat → Bool) : Nat → Env
  | 0 => E0
  | j + 1 => if S j = true then updO (CE dst X E0 S j) (dst j) (X j) else CE dst X E0 S j
def CH (G : Nat → Heap) (W : Nat → List Nat) (S : Nat → Bool) : Nat → Nat → Option Blk
  | 0, id => (G 0)[id]?
  | j + 1, id => if S j = true ∧ (id ∈ W j ∨ ((G j).length ≤ id ∧ id < (G (j + 1)).length)) then (G (j + 1))[id]? else CH G W S j id

variable {dst : Nat → Option Tmp} {X : Nat → AV} {E : Nat → Env} {G : Nat → Heap} {W R : Nat → List Nat} {N : Nat} {S : Nat → Bool}

theorem CE_at (hE : ∀ j, j < N → E (j + 1) = updO (E j) (dst j) (X j)) {t : Nat} : ∀ i, i ≤ N → (∀ j, j < i → dst j = some t → S j = true) → CE dst X (E 0) S i t = E i t
  | 0, _, _ => rfl
  | i + 1, hi, h => by
    have ih := CE_at hE i (by omega) fun j hj => h j (by omega)
    rw [hE i (by omega), updO_app']
    simp only [CE]
    split
    · rw [updO_app', ih]
    · rename_i hs
      rw [if_neg (fun hd => hs (h i (by omega) hd)), ih]
theorem CE_after {t : Nat} {i : Nat} : ∀ m, i ≤ m → (∀ j, i ≤ j → j < m → S j = true → dst j ≠ some t) → CE dst X (E 0) S m t = CE dst X (E 0) S i t
  | 0, hm, _ => by
    obtain rfl : i = 0 := by omega
    rfl
  | m + 1, hm, h => by
    by_cases he : i = m + 1
    · rw [he]
    · rw [← CE_after m (by omega) fun j h1 h2 => h j h1 (by omega)]
      simp only [CE]
      split
      · rename_i hs
        rw [updO_app', if_neg (h m (by omega) (by omega) hs)]
      · rfl
theorem CE_congr {S' : Nat → Bool} : ∀ m, (∀ j, j < m → S' j = S j) → CE dst X (E 0) S' m = CE dst X (E 0) S m
  | 0, _ => rfl
  | m + 1, h => by
    simp only [CE]
    rw [h m (by omega), CE_congr m fun j hj => h j (by omega)]

theorem G_none (hG : ∀ j, j < N → (G j).length ≤ (G (j + 1)).length ∧ (∀ id, id < (G j).length → id ∉ W j → (G (j + 1))[id]? = (G j)[id]?)) {j id : Nat} (hj : j < N) (h : ¬ (id ∈ W j ∨ ((G j).length ≤ id ∧ id < (G (j + 1)).length))) : (G (j + 1))[id]? = (G j)[id]? := by
  by_cases h1 : id < (G j).length
  · exact (hG j hj).2 id h1 (fun hw => h (Or.inl hw))
  · rw [List.getElem?_eq_none (by omega), List.getElem?_eq_none (by omega)]
theorem CH_at (hG : ∀ j, j < N → (G j).length ≤ (G (j + 1)).length ∧ (∀ id, id < (G j).length → id ∉ W j → (G (j + 1))[id]? = (G j)[id]?)) {id : Nat} : ∀ i, i ≤ N → (∀ j, j < i → (id ∈ W j ∨ ((G j).length ≤ id ∧ id < (G (j + 1)).length)) → S j = true) → CH G W S i id = (G i)[id]?
  | 0, _, _ => rfl
  | i + 1, hi, h => by
    have ih := CH_at hG i (by omega) fun j hj => h j (by omega)
    simp only [CH]
    split
    · rfl
    · rename_i hs
      rw [ih, G_none hG (by omega)]
      intro hw
      exact hs ⟨h i (by omega) hw, hw⟩
theorem CH_after {id i : Nat} : ∀ m, i ≤ m → (∀ j, i ≤ j → j < m → S j = true → ¬ (id ∈ W j ∨ ((G j).length ≤ id ∧ id < (G (j + 1)).length))) → CH G W S m id = CH G W S i id
  | 0, hm, _ => by
    obtain rfl : i = 0 := by omega
    rfl
  | m + 1, hm, h => by
    by_cases he : i = m + 1
    · rw [he]
    · rw [← CH_after m (by omega) fun j h1 h2 => h j h1 (by omega)]
      simp only [CH]
      split
      · rename_i hs
        exact absurd hs.2 (h m (by omega) (by omega) hs.1)
      · rfl
theorem CH_congr {S' : Nat → Bool} {id : Nat} : ∀ m, (∀ j, j < m → S' j = S j) → CH G W S' m id = CH G W S m id
  | 0, _ => rfl
  | m + 1, h => by
    simp only [CH]
    rw [h m (by omega), CH_congr m fun j hj => h j (by omega)]
theorem G_mono (hG : ∀ j, j < N → (G j).length ≤ (G (j + 1)).length ∧ (∀ id, id < (G j).length → id ∉ W j → (G (j + 1))[id]? = (G j)[id]?)) {i : Nat} : ∀ m, i ≤ m → m ≤ N → (G i).length ≤ (G m).length
  | 0, hm, _ => by
    obtain rfl : i = 0 := by omega
    exact Nat.le_refl _
  | m + 1, hm, hN => by
    by_cases he : i = m + 1
    · rw [he]; exact Nat.le_refl _
    · exact Nat.le_trans (G_mono hG m (by omega) (by omega)) (hG m (by omega)).1

def crt (G : Nat → Heap) (N : Nat) (S : Nat → Bool) (id : Nat) : Prop := id < (G 0).length ∨ ∃ j, j < N ∧ S j = true ∧ (G j).length ≤ id ∧ id < (G (j + 1)).length
def CHL (G : Nat → Heap) (W : Nat → List Nat) (N : Nat) (S : Nat → Bool) : Heap := (List.range (G N).length).map fun id => (CH G W S N id).getD deadBlk
theorem CHL_get {id : Nat} {b : Blk} (h : CH G W S N id = some b) (hid : id < (G N).length) : (CHL G W N S)[id]? = some b := by
  unfold CHL
  rw [List.getElem?_map, List.getElem?_range hid]
  simp [h]
theorem CHL_congr {S' : Nat → Bool} {id : Nat} (h : CH G W S' N id = CH G W S N id) : (CHL G W N S')[id]? = (CHL G W N S)[id]? := by
  unfold CHL
  rw [List.getElem?_map, List.getElem?_map]
  by_cases hid : id < (G N).length
  · rw [List.getElem?_range hid]
    simp [h]
  · rw [List.getElem?_eq_none (by simpa using hid)]
    rfl

/-- The model's state, where some of a stretch's operations are done. -/
structure Inv (F : Nat → Prop) (w0 : World) (M : Nat → Prop) (k : Nat) (ι0 : Inj) (n : Nat) (dst : Nat → Option Tmp) (X : Nat → AV) (E0 : Env) (G : Nat → Heap) (W : Nat → List Nat) (N : Nat) (S : Nat → Bool) (ι : Inj) (a : Act) (w : World) : Prop where
  defers : a.defers = []
  size : a.tmps.size = n
  env : ∀ t, VR F ι w0 (CE dst X E0 S N t) (a.tmps.getD t undef)
  hs : HS F w0 ι M (crt G N S) (CHL G W N S) w
  cr : ∀ id, crt G N S id → ι id ≠ none
  nw : ∀ id, ¬ crt G N S id → ι id = none
  ws : WS w0 M w
  par : ∀ id, id < k → ι id = ι0 id

/-- One more is done. -/
theorem Inv.step {ops : Array Oper} {i : Nat} {o : Oper} {S' : Nat → Bool} {KC : Act → World → Prop} {Q : Exit → Act → World → Prop} (hFS : FS F w0 M) (hN : N = ops.size) (hdst : ∀ j, dst j = (ops[j]?).bind (·.dst))
    (hstep : ∀ j o, ops[j]? = some o → SStep P ops o (E j) (G j) (X j) (G (j + 1)) (W j) (R j)) (hE : ∀ j, j < N → E (j + 1) = updO (E j) (dst j) (X j)) (hk : k ≤ (G 0).length)
    (hd : ∀ d, o.dst = some d → d < n) (hi : ops[i]? = some o) (hSi : S i = false) (hS' : ∀ j, S' j = if j = i then true else S j)
    (hlo : ∀ j oj, j < i → ops[j]? = some oj → S j = false → oj.apart ops o = true ∧ ∀ r, r ∈ R i → ¬ (r ∈ W j ∨ ((G j).length ≤ r ∧ r < (G (j + 1)).length)))
    (hhi : ∀ j oj, i < j → ops[j]? = some oj → S j = true → o.apart ops oj = true ∧ (∀ r, r ∈ R j → ¬ (r ∈ W i ∨ ((G i).length ≤ r ∧ r < (G (i + 1)).length))) ∧ ∀ r, r ∈ W j → r ∉ R i)
    (h : Inv F w0 M k ι0 n dst X (E 0) G W N S ι a w) (hK : ∀ a' w' ι', Inv F w0 M k ι0 n dst X (E 0) G W N S' ι' a' w' → KC a' w') :
    if Region.wanted o (yielded ops a.tmps) then o.wp P a w KC Q else KC (a.put o.dst undef) w := by
  have hiN : i < N := by rw [hN]; exact (Array.getElem?_eq_some_iff.1 hi).1
  have hop : ∀ j, j < N → ∃ oj, ops[j]? = some oj := fun j hj => ⟨ops[j]'(by omega), Array.getElem?_eq_getElem (by omega)⟩
  have hG : ∀ j, j < N → (G j).length ≤ (G (j + 1)).length ∧ (∀ id, id < (G j).length → id ∉ W j → (G (j + 1))[id]? = (G j)[id]?) := by
    intro j hj
    obtain ⟨oj, hoj⟩ := hop j hj
    have := (hstep j oj hoj).facts
    exact ⟨this.1, this.2.1⟩
  have hf := (hstep i o hi).facts
  have mono : ∀ i m, i ≤ m → m ≤ N → (G i).length ≤ (G m).length := fun i m => G_mono hG m
  have hdi : dst i = o.dst := by rw [hdst, hi]; rfl
  -- what is looked at
  have henv : ∀ t, t ∈ o.looksAt ops → CE dst X (E 0) S N t = E i t := by
    intro t ht
    rw [CE_after N (by omega) (i := i), CE_at hE i (by omega)]
    · intro j hj hdj
      cases hs : S j with
      | true => rfl
      | false =>
        obtain ⟨oj, hoj⟩ := hop j (by omega)
        have := (Oper.apart_spec (hlo j oj hj hoj hs).1).1 t (by rw [hdst, hoj] at hdj; exact hdj)
        exact absurd ht this
    · intro j h1 h2 hs hdj
      by_cases he : j = i
      · subst he; rw [hSi] at hs; cases hs
      · obtain ⟨oj, hoj⟩ := hop j h2
        have := (Oper.apart_spec (hhi j oj (by omega) hoj hs).1).2.2 t (by rw [hdst, hoj] at hdj; exact hdj)
        exact this ht
  have hblk : ∀ id, id ∈ R i → CH G W S N id = (G i)[id]? := by
    intro id hid
    rw [CH_after N (by omega) (i := i), CH_at hG i (by omega)]
    · intro j hj hw
      cases hs : S j with
      | true => rfl
      | false =>
        obtain ⟨oj, hoj⟩ := hop j (by omega)
        exact absurd hw ((hlo j oj hj hoj hs).2 id hid)
    · intro j h1 h2 hs hw
      by_cases he : j = i
      · subst he; rw [hSi] at hs; cases hs
      · obtain ⟨oj, hoj⟩ := hop j h2
        rcases hw with hw | ⟨hw, _⟩
        · exact (hhi j oj (by omega) hoj hs).2.2 id hw hid
        · have := hf.2.2.2 id hid
          have := mono i j (by omega) (by omega)
          omega
  have hcrt : ∀ id, id ∈ R i → crt G N S id := by
    intro id hid
    have hlt := hf.2.2.2 id hid
    have : ∀ m, m ≤ i → id < (G m).length → crt G N S id := by
      intro m
      induction m with
      | zero => intro _ h; exact Or.inl h
      | succ m ih =>
        intro hm h
        by_cases hmm : id < (G m).length
        · exact ih (by omega) hmm
        · refine Or.inr ⟨m, by omega, ?_, by omega, h⟩
          cases hs : S m with
          | true => rfl
          | false =>
            obtain ⟨oj, hoj⟩ := hop m (by omega)
            exact absurd (Or.inr ⟨by omega, h⟩) ((hlo m oj (by omega) hoj hs).2 id hid)
    exact this i (Nat.le_refl _) hlt
  have hget : ∀ id, id ∈ R i → (CHL G W N S)[id]? = (G i)[id]? := by
    intro id hid
    have hlt := hf.2.2.2 id hid
    have := mono i N (by omega) (Nat.le_refl _)
    rw [List.getElem?_eq_getElem hlt]
    exact CHL_get (by rw [hblk id hid, List.getElem?_eq_getElem hlt]) (by omega)
  have hnewS : ∀ id, (G i).length ≤ id → id < (G (i + 1)).length → ¬ crt G N S id := by
    rintro id h1 h2 (h3 | ⟨j, hj, hs, h3, h4⟩)
    · have := mono 0 i (by omega) (by omega)
      omega
    · by_cases he : j = i
      · subst he; rw [hSi] at hs; cases hs
      · rcases Nat.lt_or_gt_of_ne he with hlt | hgt
        · have := mono (j + 1) i (by omega) (by omega)
          omega
        · have := mono (i + 1) j (by omega) (by omega)
          omega
  have hcrt' : ∀ id, crt G N S' id ↔ crt G N S id ∨ ((G i).length ≤ id ∧ id < (G (i + 1)).length) := by
    intro id
    constructor
    · rintro (h1 | ⟨j, hj, hs, h1⟩)
      · exact Or.inl (Or.inl h1)
      · rw [hS'] at hs
        by_cases he : j = i
        · subst he; exact Or.inr h1
        · rw [if_neg he] at hs
          exact Or.inl (Or.inr ⟨j, hj, hs, h1⟩)
    · rintro ((h1 | ⟨j, hj, hs, h1⟩) | h1)
      · exact Or.inl h1
      · refine Or.inr ⟨j, hj, ?_, h1⟩
        rw [hS']
        split
        · rfl
        · exact hs
      · exact Or.inr ⟨i, hiN, by rw [hS', if_pos rfl], h1⟩
  have hsub : HS F w0 ι M (· ∈ R i) (G i) w := (h.hs.weaken hcrt).congr fun id hid => (hget id hid).symm
  refine (hstep i o hi).sound hFS h.ws (fun t ht => by rw [← henv t ht]; exact h.env t) hsub (fun id hid => h.cr id (hcrt id hid)) (fun id h1 h2 => h.nw id (hnewS id h1 h2)) ?_
  intro v w' ι' hv hEf
  -- behind it
  have hCE : ∀ t, CE dst X (E 0) S' N t = if o.dst = some t then X i else CE dst X (E 0) S N t := by
    intro t
    have hlow : ∀ j, j < i → S' j = S j := fun j hj => by rw [hS', if_neg (by omega)]
    have key : ∀ m, i + 1 ≤ m → m ≤ N → CE dst X (E 0) S' m t = if o.dst = some t then X i else CE dst X (E 0) S m t := by
      intro m
      induction m with
      | zero => intro h; omega
      | succ m ih =>
        intro h1 h2
        by_cases he : m = i
        · subst he
          simp only [CE]
          rw [hS', if_pos rfl, if_pos rfl, hSi, CE_congr m hlow, updO_app', hdi]
          simp
        · have ih := ih (by omega) (by omega)
          simp only [CE]
          rw [hS', if_neg he]
          by_cases hs : S m = true
          · rw [if_pos hs, if_pos hs, updO_app', updO_app', ih]
            by_cases hdm : dst m = some t
            · rw [if_pos hdm, if_pos hdm, if_neg]
              intro hot
              obtain ⟨om, hom⟩ := hop m (by omega)
              rw [hdst, hom] at hdm
              exact (Oper.apart_spec (hhi m om (by omega) hom hs).1).2.1 t hot hdm
            · rw [if_neg hdm, if_neg hdm]
          · rw [if_neg hs, if_neg hs, ih]
    exact key N (by omega) (Nat.le_refl _)
  have hCH1 : ∀ id, id ∈ W i ∨ ((G i).length ≤ id ∧ id < (G (i + 1)).length) → CH G W S' N id = (G (i + 1))[id]? := by
    intro id hw
    rw [CH_after N (by omega) (i := i + 1)]
    · simp only [CH]
      rw [if_pos ⟨by rw [hS', if_pos rfl], hw⟩]
    · intro j h1 h2 hs hwj
      obtain ⟨oj, hoj⟩ := hop j h2
      rw [hS', if_neg (by omega)] at hs
      have hh := hhi j oj (by omega) hoj hs
      have hfj := (hstep j oj hoj).facts
      rcases hwj with hwj | ⟨hwj, _⟩
      · exact hh.2.1 id (hfj.2.2.1 id hwj).1 hw
      · have := mono (i + 1) j (by omega) (by omega)
        rcases hw with hw | hw
        · have := hf.2.2.2 id (hf.2.2.1 id hw).1
          omega
        · omega
  have hCH2 : ∀ id, ¬ (id ∈ W i ∨ ((G i).length ≤ id ∧ id < (G (i + 1)).length)) → CH G W S' N id = CH G W S N id := by
    intro id hw
    have hlow : ∀ j, j < i → S' j = S j := fun j hj => by rw [hS', if_neg (by omega)]
    have key : ∀ m, i + 1 ≤ m → m ≤ N → CH G W S' m id = CH G W S m id := by
      intro m
      induction m with
      | zero => intro h; omega
      | succ m ih =>
        intro h1 h2
        by_cases he : m = i
        · subst he
          simp only [CH]
          rw [if_neg (fun x => hw x.2), if_neg (fun x => hw x.2)]
          exact CH_congr m hlow
        · simp only [CH]
          rw [hS', if_neg he, ih (by omega) (by omega)]
    exact key N (by omega) (Nat.le_refl _)
  refine hK _ _ ι' ⟨?_, ?_, ?_, ?_, ?_, ?_, ?_, ?_⟩
  · cases o.dst <;> exact h.defers
  · cases o.dst with
    | none => exact h.size
    | some d => simp [Act.put, h.size]
  · intro t
    rw [hCE]
    cases hod : o.dst with
    | none =>
      simp only [reduceCtorEq, if_false, Act.put]
      exact VR.mono (fun _ h => h) hEf.le (fun _ _ => rfl) _ (h.env t)
    | some d =>
      have hdl := hd d hod
      simp only [Act.put, Option.some.injEq]
      by_cases ht : d = t
      · subst ht
        rw [if_pos rfl]
        have : d < a.tmps.size := by rw [h.size]; exact hdl
        simpa [Array.getD, this] using hv
      · rw [if_neg ht]
        have := VR.mono (fun _ h => h) hEf.le (fun _ _ => rfl) _ (h.env t)
        rw [Array.getD_eq_getD_getElem?] at this ⊢
        rw [Array.getElem?_setIfInBounds_ne ht]
        exact this
  · have := HS.stepC (G := CHL G W N S) (G' := CHL G W N S') hEf hFS h.ws.size h.hs (fun id hid => ?_) (fun id hc hn => hnewS id hn.1 hn.2 hc) (fun id hw => ?_) (fun id hc hw => ?_)
    · exact this.weaken fun id hid => (hcrt' id).1 hid
    · obtain ⟨h1, b, h2, h3⟩ := hf.2.2.1 id hid
      exact ⟨hcrt id h1, hf.2.2.2 id h1, b, h2, h3, by rw [hget id h1]; exact h2⟩
    · have hlt : id < (G (i + 1)).length := by
        rcases hw with hw | hw
        · have := hf.2.2.2 id (hf.2.2.1 id hw).1
          omega
        · exact hw.2
      have := mono (i + 1) N (by omega) (Nat.le_refl _)
      rw [List.getElem?_eq_getElem hlt]
      exact CHL_get (by rw [hCH1 id hw, List.getElem?_eq_getElem hlt]) (by omega)
    · exact CHL_congr (hCH2 id (by
        rintro (h1 | h1)
        · exact hw h1
        · exact hnewS id h1.1 h1.2 hc))
  · intro id hc
    rcases (hcrt' id).1 hc with h1 | h1
    · rw [hEf.old id (by
        by_cases h2 : id < (G i).length
        · exact Or.inl h2
        · refine Or.inr (Nat.le_of_not_lt fun h3 => hnewS id (by omega) h3 h1))]
      exact h.cr id h1
    · obtain ⟨e, he, _⟩ := hEf.new id h1.1 h1.2
      rw [he]
      simp
  · intro id hc
    have h1 : ¬ ((G i).length ≤ id ∧ id < (G (i + 1)).length) := fun h1 => hc ((hcrt' id).2 (Or.inr h1))
    rw [hEf.old id (by omega)]
    exact h.nw id fun h2 => hc ((hcrt' id).2 (Or.inl h2))
  · exact h.ws.step hEf hsub fun id hid => hf.2.2.1 id hid
  · intro id hid
    have := mono 0 i (by omega) (by omega)
    rw [hEf.old id (Or.inl (by omega))]
    exact h.par id hid
end
end Go.Proofs.Ytgddflnhibhacaa.AM
