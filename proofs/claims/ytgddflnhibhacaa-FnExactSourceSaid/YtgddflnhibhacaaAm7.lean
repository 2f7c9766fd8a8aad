/- The abstract machine, part 7: its operations are sound: what reads rows, what makes and writes blocks. No conditions. -/
import Derived.Test.YtgddflnhibhacaaAm6
set_option linter.unusedVariables false
set_option linter.unusedSimpArgs false
namespace Go.Proofs.Ytgddflnhibhacaa.AM
open Go

section
variable {P : Program} {F : Nat → Prop} {ι ι' : Inj} {w0 w : World} {a : Act} {ρ : Operand → AV} {H : Heap}

theorem firstCells_zero (sz : Nat) (b : Option Addr) (n c : Nat) (w : World) : (Builtin.firstCells sz 0 (.slice b n c)).run P w = .ok #[] w := by
  cases b <;> simp [Builtin.firstCells, loadCells, loadCellsFrom]

theorem firstCells_run {sz m c off n cap : Nat} {vs : List Value} (hc : CellsAt w c off vs) (hl : m * sz ≤ vs.length) : (Builtin.firstCells sz m (.slice (some ⟨c, off, none⟩) n cap)).run P w = .ok (vs.take (m * sz)).toArray w := by
  simp only [Builtin.firstCells]
  have h := run_loadCells_list (P := P) w ⟨c, off, none⟩ (vs.take (m * sz)) (hc.take _).cell
  rw [List.length_take, Nat.min_eq_left hl] at h
  exact h

/-- The cells of a slice are read. -/
structure RowOf (P : Program) (F : Nat → Prop) (ι : Inj) (w0 w : World) (sz n : Nat) (cs : List AV) (v : Value) (us : List Value) : Prop where
  rel : VRL F ι w0 cs us
  one : ∀ u ∈ us, u.oneCell' = true
  len : us.length = n * sz
  isS : ∃ b c, v = .slice b n c
  lenOf : ∀ w, (Builtin.lenOf v).run P w = .ok n w
  read : ∀ (m : Nat) (w' : World), m ≤ n → w'.heap = w.heap → (Builtin.firstCells sz m v).run P w' = .ok (us.take (m * sz)).toArray w'

theorem CellsAt.heap {c off : Nat} {vs : List Value} {w' : World} (h : CellsAt w c off vs) (hw : w'.heap = w.heap) : CellsAt w' c off vs := h.world (by rw [hw])

theorem RowOf.nil {sz : Nat} {b : Option Addr} {c : Nat} : RowOf P F ι w0 w sz 0 [] (.slice b 0 c) [] :=
  ⟨VRL_nil.2 rfl, by simp, by simp, ⟨_, _, rfl⟩, by simp [Builtin.lenOf], fun m w' hm _ => by
    obtain rfl : m = 0 := by omega
    simpa using firstCells_zero sz b 0 c w'⟩
theorem RowOf.at {sz n c off cap : Nat} {cs : List AV} {vs : List Value} (hv : VRL F ι w0 cs vs) (hc : CellsAt w c off vs) (hl : n * sz ≤ vs.length) : RowOf P F ι w0 w sz n (cs.take (n * sz)) (.slice (some ⟨c, off, none⟩) n cap) (vs.take (n * sz)) :=
  ⟨hv.take _, (hc.take _).one, by rw [List.length_take]; omega, ⟨_, _, rfl⟩, by simp [Builtin.lenOf], fun m w' hm hw => by
    rw [firstCells_run (hc.heap hw) (Nat.le_trans (Nat.mul_le_mul_right _ hm) hl), List.take_take, Nat.min_eq_left (Nat.mul_le_mul_right _ hm)]⟩

theorem cells_sound {sz n : Nat} {x : AV} {cs : List AV} {v : Value} (h : aCells H sz x = some (n, cs)) (hx : VR F ι w0 x v) (hF : ∀ c, F c → w.heap[c]? = w0.heap[c]?)
    (hbr : ∀ id b e, id ∈ x.ids → H[id]? = some b → b.live = true → ι id = some e → BRo F ι w0 b e w) : ∃ us, RowOf P F ι w0 w sz n cs v us := by
  have snap : ∀ len cs0 b ccap, len ≤ ccap → ((cs0 = [] ∧ len = 0) ∨ ∃ c off vs, b = some ⟨c, off, none⟩ ∧ F c ∧ CellsAt w0 c off vs ∧ VRL F ι w0 cs0 vs) → len * sz ≤ cs0.length →
      ∃ us, RowOf P F ι w0 w sz len (cs0.take (len * sz)) (.slice b len ccap) us := by
    intro len cs0 b ccap _ h4 h5
    rcases h4 with ⟨rfl, rfl⟩ | ⟨c, off, vs, rfl, hf, hc, hv⟩
    · simp only [List.take_nil]
      exact ⟨_, RowOf.nil⟩
    · exact ⟨_, RowOf.at hv (hc.world (hF c hf)) (by rw [← hv.length]; exact h5)⟩
  unfold aCells at h
  split at h
  · simp only [VR] at hx
    obtain ⟨b, rfl⟩ := hx
    obtain ⟨rfl, rfl⟩ := Prod.mk.inj (Option.some.inj h)
    exact ⟨_, RowOf.nil⟩
  · simp only [VR] at hx
    subst hx
    obtain ⟨rfl, rfl⟩ := Prod.mk.inj (Option.some.inj h)
    exact ⟨_, RowOf.nil⟩
  · split at h
    · rename_i hl
      obtain ⟨rfl, rfl⟩ := Prod.mk.inj (Option.some.inj h)
      simp only [VR] at hx
      obtain ⟨b, ccap, rfl, h2, h3, hz, h4⟩ := hx
      exact snap _ _ _ _ h3 h4 hl
    · cases h
  · split at h
    · rename_i hl
      obtain ⟨rfl, rfl⟩ := Prod.mk.inj (Option.some.inj h)
      simp only [VR] at hx
      obtain ⟨b, ccap, rfl, h2, h3, h4⟩ := hx
      refine snap _ _ _ _ h3 ?_ hl
      rcases h4 with h4 | ⟨c, off, vs, rfl, h5⟩
      · exact Or.inl h4
      · exact Or.inr ⟨c, off, vs, rfl, h5⟩
    · cases h
  · rename_i id off n' cap
    split at h
    · rename_i b hb
      split at h
      · rename_i hl
        obtain ⟨rfl, rfl⟩ := Prod.mk.inj (Option.some.inj h)
        simp only [VR] at hx
        rcases hx with ⟨c, ccap, off', h1, rfl, h2, h3, h4, h5⟩ | ⟨h1, rfl, rfl, a, rfl⟩
        · rcases h4 with rfl | rfl
          · obtain rfl : n' = 0 := by omega
            simp only [Nat.zero_mul, List.take_zero]
            exact ⟨_, RowOf.nil⟩
          · obtain ⟨vs, hv, hc⟩ := (hbr id b (some c) (by simp [AV.ids]) hb hl.1 h1).cellsAt
            have hlen := hv.length
            have := RowOf.at (P := P) (n := n') (sz := sz) (cap := ccap) (hv.drop off') (hc.drop off') (by rw [List.length_drop]; omega)
            rw [Nat.zero_add] at this
            exact ⟨_, this⟩
        · simp only [Nat.zero_mul, List.take_zero]
          exact ⟨_, RowOf.nil⟩
      · cases h
    · cases h
  · cases h

theorem append_room_run {t ty e sz sLen n sCap : Nat} {x : Value} {base : Option Addr} {us : List Value} {cs : List AV} (ht : P.underlying t = some (.slice e)) (hs : tSize P e = some sz) (hx : RowOf P F ι w0 w sz n cs x us) (hroom : sLen + n ≤ sCap)
    {w' : World} (hst : match base with
      | some a => (storeCells (a.add (sLen * sz)) us).run P w = .ok () w'
      | none => w' = w) :
    (Builtin.append_ #[t, t] ty #[.slice base sLen sCap, x]).run P w = .ok (.slice base (sLen + n) sCap) w' := by
  have hr := hx.read n w (Nat.le_refl _) rfl
  rw [List.take_of_length_le (by rw [hx.len]; exact Nat.le_refl _)] at hr
  cases base with
  | none =>
    subst hst
    simp [Builtin.append_, run_underlying ht, tSize_run hs, hx.lenOf, hroom, hr]
  | some a => simp [Builtin.append_, run_underlying ht, tSize_run hs, hx.lenOf, hroom, hr, hst]

theorem append_grow_run {t ty e sz by_ sLen n sCap : Nat} {z : List AV} {x : Value} {base : Option Addr} {us os : List Value} {cs olds : List AV} (ht : P.underlying t = some (.slice e)) (hs : tSize P e = some sz) (hb : tBytes P e = some by_) (hz : tZero P e = some z)
    (hx : RowOf P F ι w0 w sz n cs x us) (ho : RowOf P F ι w0 w sz sLen olds (.slice base sLen sCap) os) (hroom : ¬ (sLen + n ≤ sCap)) (h63 : sLen + n ≤ 9223372036854775807) (hby : (sLen + n) * by_ ≤ 140737488355328) (hzl : z.length = sz) :
    ∃ (c : Nat) (rest : List Value) (w' : World), sLen + n ≤ c ∧ (Builtin.append_ #[t, t] ty #[.slice base sLen sCap, x]).run P w = .ok (.slice (some ⟨w.heap.size, 0, none⟩) (sLen + n) c) w' ∧
      w'.heap = w.heap.push (.cells (os ++ us ++ rest).toArray e) ∧ (os ++ us ++ rest).length = c * sz ∧ w'.os = w.os ∧ w'.tape = w.tape ∧ w'.output = w.output := by
  obtain ⟨i, hi, hisz⟩ := tSize_info hs
  obtain ⟨i2, hi2, hiby⟩ := tBytes_info hb
  obtain ⟨i3, v, hi3, hiz, hzv, _⟩ := tZero_info hz
  rw [hi] at hi2 hi3
  obtain rfl := Option.some.inj hi2
  obtain rfl := Option.some.inj hi3
  subst hisz hiby
  have hold : sCap < sLen + n := by omega
  have h48 := growslice_fits hold hby
  have h63' : ¬ (9223372036854775807 < ((sLen : Int) + (n : Int))) := by omega
  have h48' : ¬ (281474976710656 < Builtin.nextslicecap (sLen + n) sCap * i.bytes) := by omega
  have hr := hx.read n w.drew (Nat.le_refl _) rfl
  have hro := ho.read sLen w.drew (Nat.le_refl _) rfl
  rw [List.take_of_length_le (by rw [hx.len]; exact Nat.le_refl _)] at hr
  rw [List.take_of_length_le (by rw [ho.len]; exact Nat.le_refl _)] at hro
  have hge : sLen + n ≤ grownCap w (sLen + n) sCap e := grownCap_ge w (sLen + n) sCap e
  have hzs : v.cells.size = i.size := by rw [← hzl, ← hzv]; simp
  refine ⟨grownCap w (sLen + n) sCap e, (Builtin.zeroCells v.cells (grownCap w (sLen + n) sCap e - (sLen + n))).toList,
    w.drew.alloc (.cells (os.toArray ++ us.toArray ++ Builtin.zeroCells v.cells (grownCap w (sLen + n) sCap e - (sLen + n))) e), hge, ?_, ?_, ?_, rfl, rfl, rfl⟩
  · simp [Builtin.append_, run_underlying ht, sizeOf, typeInfo, zeroValue, hi, hiz, hx.lenOf, hroom, h63', h48', Question.forced, hr, hro, newRow, grownCap]
    congr 2
    apply Array.ext'
    simp
  · show w.heap.push _ = _
    congr 2
    apply Array.ext'
    simp
  · rw [List.length_append, List.length_append, ho.len, hx.len, Array.length_toList, size_zeroCells, hzs, ← Nat.add_mul, ← Nat.add_mul]
    congr 1
    omega

/-- A block is written from some place on, past what it had. -/
theorem write_tail {b : Blk} {c : Emb} {cs : List AV} {us : List Value} {k : Nat} (hb : BR F ι w0 b c w) (hro : b.ro = false) (hcs : VRL F ι w0 cs us) (h1 : ∀ u ∈ us, u.oneCell' = true) (hk : k ≤ b.cells.length) (hl : k + us.length ≤ c.room * b.sz) :
    ∃ w', (storeCells ⟨c.blk, k, none⟩ us).run P w = .ok () w' ∧ BR F ι w0 ⟨b.sz, b.cells.take k ++ cs, true, false⟩ c w' ∧ (∀ k, k ≠ c.blk → w'.heap[k]? = w.heap[k]?) ∧ w'.heap.size = w.heap.size ∧ w'.os = w.os ∧ w'.tape = w.tape ∧ w'.output = w.output := by
  obtain ⟨arr, t, fz, g1, g2, g4, vs, rest, g5, g6, g7⟩ := hb
  obtain rfl := g4 hro
  have e1 := hcs.length
  have e2 := g6.length
  have hr := run_storeCells_at P c.blk k t us 0 arr w g1 (by omega) h1
  simp only [Nat.add_zero] at hr
  refine ⟨_, hr, ⟨_, t, (0, 0), setRow_heap w c.blk arr _ t (0, 0) g1, ?_, fun _ => rfl, vs.take k ++ us, arr.toList.drop (k + us.length), ?_, (g6.take _).append hcs, ?_⟩, fun k hk => setRow_other w c.blk k _ hk, by simp, rfl, rfl, rfl⟩
  · show _ = c.room * b.sz
    rw [← g2]
    simp only [List.size_toArray, List.length_append, List.length_take, List.length_drop, Array.length_toList]
    omega
  · show List.take k arr.toList ++ us ++ List.drop (k + us.length) arr.toList = _
    have : List.take k arr.toList = vs.take k := by rw [g5, List.take_append_of_le_length (by omega)]
    rw [this]
  · intro u hu
    simp only [List.mem_append] at hu
    rcases hu with hu | hu
    · exact g7 u (List.mem_of_mem_take hu)
    · exact h1 u hu

/-- A spent block beside a new one. -/
theorem Eff.kill {w' : World} {b : Blk} {id : Nat} (h : Eff F w0 ι ι' H (H ++ [b]) [] w w') (hid : id < H.length) : Eff F w0 ι ι' H (H.set id deadBlk ++ [b]) [id] w w' := by
  have hg : ∀ k, H.length ≤ k → (H.set id deadBlk ++ [b])[k]? = (H ++ [b])[k]? := by
    intro k hk
    rw [List.getElem?_append_right (by simpa using hk), List.getElem?_append_right hk]
    simp
  have hl : (H.set id deadBlk ++ [b]).length = (H ++ [b]).length := by simp
  have hdead : ∀ b', (H.set id deadBlk ++ [b])[id]? = some b' → b'.live = false := by
    intro b' hb'
    rw [List.getElem?_append_left (by simpa using hid)] at hb'
    simp [hid] at hb'
    subst hb'
    rfl
  refine ⟨by rw [hl]; exact h.len, h.le, fun k hk => h.old k (by rw [hl] at hk; exact hk), fun k h2 h3 => ?_, fun k c h2 h3 h4 => ?_, fun k k' c c' h2 h3 h4 h5 => h.newInj k k' c c' h2 (by rw [hl] at h3; exact h3) h4 (by rw [hl] at h5; exact h5), ?_, ?_, ?_, h.os, h.tape, h.out, h.size⟩
  · obtain ⟨e, h5, h6⟩ := h.new k h2 (by rw [hl] at h3; exact h3)
    exact ⟨e, h5, fun b' hb' => h6 b' (by rw [← hg k h2]; exact hb')⟩
  · rcases h.newAt k c h2 (by rw [hl] at h3; exact h3) h4 with h5 | ⟨_, _, h5, _⟩
    · exact Or.inl h5
    · simp at h5
  · intro k b' e hk h2 h3 h4
    simp at hk
    subst hk
    rw [hdead b' h2] at h3
    cases h3
  · intro k hk hk2
    simp at hk2
    rw [List.getElem?_append_left (by simpa using hk), List.getElem?_set_ne (fun e => hk2 e.symm)]
  · intro c hc _
    exact h.frame c hc (by simp)

theorem Eff.empty {b : Blk} (hnew : ι H.length = none) (hb : b.cells = []) : Eff F w0 ι (ι.set H.length none) H (H ++ [b]) [] w w := by
  have hle := Inj.le_set (e := (none : Option Emb)) hnew
  refine ⟨by simp, hle, ?_, ?_, ?_, ?_, ?_, ?_, fun _ _ _ => rfl, rfl, rfl, rfl, Nat.le_refl _⟩
  · intro id h
    unfold Inj.set
    rw [if_neg]
    intro e
    subst e
    simp at h
    omega
  · intro id h2 h3
    simp at h3
    have : id = H.length := by omega
    subst this
    refine ⟨none, by simp [Inj.set], fun b' hb' _ => ?_⟩
    simp at hb'
    subst hb'
    exact hb
  · intro id c h2 h3 h4
    simp at h3
    have : id = H.length := by omega
    subst this
    simp [Inj.set] at h4
  · intro id id' c c' h2 h3 h4 h5 _ _ _
    simp at h3 h5
    omega
  · intro id b e h; simp at h
  · intro id h2 _
    simp [List.getElem?_append_left h2]

/-- The block lies on under a new number. -/
theorem Eff.moved {w' : World} {b : Blk} {id : Nat} {c : Emb} (hnew : ι H.length = none) (hid : id < H.length) (hc : ι id = some (some c)) (hb : BR F ι w0 b c w')
    (hframe : ∀ k, k ≠ c.blk → w'.heap[k]? = w.heap[k]?) (hs : w'.heap.size = w.heap.size) (ho : w'.os = w.os) (ht : w'.tape = w.tape) (hout : w'.output = w.output) :
    Eff F w0 ι (ι.set H.length (some c)) H (H.set id deadBlk ++ [b]) [id] w w' := by
  have hle := Inj.le_set (e := some c) hnew
  have hdead : ∀ b', (H.set id deadBlk ++ [b])[id]? = some b' → b'.live = false := by
    intro b' hb'
    rw [List.getElem?_append_left (by simpa using hid)] at hb'
    simp [hid] at hb'
    subst hb'
    rfl
  refine ⟨by simp, hle, ?_, ?_, ?_, ?_, ?_, ?_, ?_, ho, ht, hout, by omega⟩
  · intro k h
    unfold Inj.set
    rw [if_neg]
    intro e
    subst e
    simp at h
    omega
  · intro k h2 h3
    simp at h3
    have : k = H.length := by omega
    subst this
    refine ⟨some c, by simp [Inj.set], fun b' hb' _ => ?_⟩
    rw [List.getElem?_append_right (by simp)] at hb'
    simp at hb'
    subst hb'
    exact BR.mono hb hle rfl
  · intro k c' h2 h3 h4
    simp at h3
    have : k = H.length := by omega
    subst this
    simp [Inj.set] at h4
    subst h4
    exact Or.inr ⟨id, c, by simp, hc, rfl, hdead⟩
  · intro k k' c c' h2 h3 h4 h5 _ _ _
    simp at h3 h5
    omega
  · intro k b' e hk h2 h3 h4
    simp at hk
    subst hk
    rw [hdead b' h2] at h3
    cases h3
  · intro k hk hk2
    simp at hk2
    rw [List.getElem?_append_left (by simpa using hk), List.getElem?_set_ne (fun e => hk2 e.symm)]
  · intro k hk h
    exact hframe k (fun e => h id c (by simp) hc e.symm)

/-- What an operation is shown to do. -/
def Done (P : Program) (F : Nat → Prop) (w0 w : World) (ι : Inj) (H : Heap) (r : World → Value → World → Prop) (x : AV) (e : AEff) : Prop :=
  ∃ v w' ι', r w v w' ∧ VR F ι' w0 x v ∧ Eff F w0 ι ι' H (e.app H) e.wr w w'

theorem Done.pure {r : World → Value → World → Prop} {x : AV} {v : Value} (hr : r w v w) (hx : VR F ι w0 x v) : Done P F w0 w ι H r x .nil :=
  ⟨v, w, ι, hr, hx, Eff.refl F w0 ι H w⟩

theorem append_sound {t t' ty : TypeId} {s x y : AV} {e : AEff} {v u : Value} (h : aAppend P H t t' s x = some (y, e)) (hs : VR F ι w0 s v) (hx : VR F ι w0 x u) (hF : ∀ c, F c → w.heap[c]? = w0.heap[c]?)
    (hbr : ∀ id b e, id ∈ x.ids ∨ id ∈ s.ids → H[id]? = some b → b.live = true → ι id = some e → BRo F ι w0 b e w) (hnew : (e.app H).length ≠ H.length → ι H.length = none) :
    Done P F w0 w ι H (fun w v' w' => (Builtin.append_ #[t, t'] ty #[v, u]).run P w = .ok v' w') y e := by
  unfold aAppend at h
  split at h
  · cases h
  rename_i el hel
  have ht := tElem_eq hel
  split at h
  case h_2 => cases h
  rename_i sz by_ z hsz hby hz
  split at h
  · cases h
  rename_i hc
  simp only [not_or, Decidable.not_not] at hc
  obtain ⟨rfl, hsz0, hzl⟩ := hc
  split at h
  · cases h
  rename_i n cs hcs
  obtain ⟨us, hu⟩ := cells_sound hcs hx hF (fun id b e hid => hbr id b e (Or.inl hid))
  -- a new block out of nothing
  have fresh : ι H.length = none → ∀ (b : Option Addr), v = .slice b 0 0 → n * by_ ≤ 140737488355328 → n ≤ 9223372036854775807 →
      ∃ v' w' ι', (Builtin.append_ #[t, t] ty #[v, u]).run P w = .ok v' w' ∧ VR F ι' w0 (.slice H.length 0 n 0) v' ∧ Eff F w0 ι ι' H (H ++ [⟨sz, cs, true, false⟩]) [] w w' := by
    intro hnew b hv h1 h2
    subst hv
    by_cases hn : n = 0
    · subst hn
      have hus : us = [] := List.eq_nil_of_length_eq_zero (by simpa using hu.len)
      subst hus
      have hcs0 : cs = [] := List.eq_nil_of_length_eq_zero (by simpa using hu.rel.length)
      refine ⟨.slice b 0 0, w, ι.set H.length none, ?_, by simp [VR, Inj.set], Eff.empty hnew hcs0⟩
      have := append_room_run (ty := ty) (base := b) (sLen := 0) (sCap := 0) ht hsz hu (by omega) (w' := w) (by cases b <;> simp [storeCells])
      simpa using this
    · obtain ⟨c, rest, w', hge, hr, hh, hlen, ho, htp, hout⟩ := append_grow_run (ty := ty) (base := b) (sLen := 0) (sCap := 0) ht hsz hby hz hu (RowOf.nil (P := P) (F := F) (ι := ι) (w0 := w0)) (by omega) (by omega) (by simpa using h1) hzl
      simp only [Nat.zero_add, List.nil_append] at hr hh hge hlen
      refine ⟨_, w', _, hr, ?_, Eff.alloc (b := ⟨sz, cs, true, false⟩) (room := c) (rest := rest) hnew (by simpa using hlen) hh (fun _ => rfl) hu.rel hu.one (by simp) ho htp hout⟩
      simp only [VR]
      exact Or.inl ⟨⟨w.heap.size, c⟩, c, 0, by simp [Inj.set], rfl, by omega, hge, Or.inr rfl, fun _ => Nat.le_refl _⟩
  split at h
  · split at h
    · rename_i hb
      obtain ⟨rfl, rfl⟩ := Prod.mk.inj (Option.some.inj h)
      simp only [VR] at hs
      obtain ⟨b, hv⟩ := hs
      exact fresh (hnew (by simp [AEff.app])) b hv hb.1 hb.2
    · cases h
  · split at h
    · rename_i hb
      obtain ⟨rfl, rfl⟩ := Prod.mk.inj (Option.some.inj h)
      simp only [VR] at hs
      exact fresh (hnew (by simp [AEff.app])) none hs hb.1 hb.2
    · cases h
  · rename_i id off len cap
    split at h
    · cases h
    rename_i b hb
    split at h
    case isFalse => cases h
    rename_i hcd
    obtain ⟨hlive, hro, hbsz, rfl, hfit, hby2, h63⟩ := hcd
    have hid : id < H.length := (List.getElem?_eq_some_iff.1 hb).1
    simp only [VR] at hs
    rcases hs with ⟨c, ccap, off', h1, rfl, h2, h3, h4, h5⟩ | ⟨h1, rfl, rfl, ad, rfl⟩
    case inr =>
      have hnone : b.cells = [] := hbr id b none (Or.inr (by simp [AV.ids])) hb hlive h1
      split at h
      · omega
      · obtain ⟨rfl, rfl⟩ := Prod.mk.inj (Option.some.inj h)
        obtain ⟨v', w', ι', g1, g2, g3⟩ := fresh (hnew (by simp [AEff.app])) ad rfl (by simpa using hby2) (by omega)
        refine ⟨v', w', ι', g1, by simpa using g2, ?_⟩
        simp only [Nat.zero_mul, List.take_zero, List.nil_append, AEff.app, AEff.wr]
        exact g3.kill hid
    have hBR : BR F ι w0 b c w := hbr id b (some c) (Or.inr (by simp [AV.ids])) hb hlive h1
    split at h
    · rename_i hin
      obtain ⟨rfl, rfl⟩ := Prod.mk.inj (Option.some.inj h)
      obtain rfl : off' = 0 := by omega
      have hcl : len * sz + cs.length ≤ b.cells.length := by
        have := hu.rel.length
        have := hu.len
        rw [‹cs.length = us.length›, this, ← Nat.add_mul]
        exact hin.2.2
      obtain ⟨w', g1, g2, g3, g4, g5, g6, g7⟩ := write_row (P := P) hBR hro hu.rel hu.one hcl
      have := append_room_run (ty := ty) (base := some ⟨c.blk, 0, none⟩) (sLen := len) (sCap := ccap) ht hsz hu (by omega) (w' := w') (by simpa [addr_add] using g1)
      refine ⟨_, w', ι, this, ?_, Eff.write hid h1 g2 g3 g4 g5 g6 g7⟩
      simp only [VR]
      exact Or.inl ⟨c, ccap, 0, h1, rfl, h2, by omega, Or.inr rfl, h5⟩
    · obtain ⟨rfl, rfl⟩ := Prod.mk.inj (Option.some.inj h)
      by_cases hroom : len + n ≤ ccap
      · -- there was room
        by_cases hc0 : ccap = 0
        · obtain rfl : n = 0 := by omega
          obtain rfl : len = 0 := by omega
          have hus : us = [] := List.eq_nil_of_length_eq_zero (by simpa using hu.len)
          subst hus
          have hcs0 : cs = [] := List.eq_nil_of_length_eq_zero (by simpa using hu.rel.length)
          subst hcs0
          have := append_room_run (ty := ty) (base := some ⟨c.blk, off', none⟩) (sLen := 0) (sCap := ccap) ht hsz hu (by omega) (w' := w) (by simp [storeCells])
          refine ⟨_, w, ι.set H.length (some c), this, ?_, Eff.moved (hnew (by simp [AEff.app])) hid h1 ?_ (fun _ _ => rfl) rfl rfl rfl rfl⟩
          · simp only [VR]
            exact Or.inl ⟨c, ccap, off', by simp [Inj.set], rfl, by omega, by omega, Or.inl hc0, h5⟩
          · obtain ⟨arr, t', fz, q1, q2, q3, vs, rest, q4, q5, q6⟩ := hBR
            exact ⟨arr, t', fz, q1, by rw [q2, hbsz], fun _ => q3 hro, [], arr.toList, by simp, by simp [VRL_nil], by simp⟩
        · obtain rfl : off' = 0 := by omega
          have hcr := h5 rfl
          obtain ⟨w', g1, g2, g3, g4, g5, g6, g7⟩ := write_tail (P := P) hBR hro hu.rel hu.one hfit (by
            rw [hu.len, hbsz, ← Nat.add_mul]
            exact Nat.mul_le_mul_right _ (by omega))
          have := append_room_run (ty := ty) (base := some ⟨c.blk, 0, none⟩) (sLen := len) (sCap := ccap) ht hsz hu hroom (w' := w') (by simpa [addr_add] using g1)
          rw [hbsz] at g2
          refine ⟨_, w', ι.set H.length (some c), this, ?_, Eff.moved (hnew (by simp [AEff.app])) hid h1 g2 g3 g4 g5 g6 g7⟩
          simp only [VR]
          exact Or.inl ⟨c, ccap, 0, by simp [Inj.set], rfl, by omega, by omega, Or.inr rfl, fun _ => hcr⟩
      · -- a new array
        have hold : ∃ os, RowOf P F ι w0 w sz len (b.cells.take (len * sz)) (.slice (some ⟨c.blk, off', none⟩) len ccap) os := by
          rcases h4 with rfl | rfl
          · obtain rfl : len = 0 := by omega
            simp only [Nat.zero_mul, List.take_zero]
            exact ⟨_, RowOf.nil⟩
          · obtain ⟨vs, hv, hcv⟩ := hBR.cellsAt
            exact ⟨_, RowOf.at hv hcv (by rw [← hv.length]; exact hfit)⟩
        obtain ⟨os, ho⟩ := hold
        obtain ⟨c', rest, w', hge, hr, hh, hlen, q1, q2, q3⟩ := append_grow_run (ty := ty) ht hsz hby hz hu ho hroom h63 hby2 hzl
        have hE := Eff.alloc (F := F) (w0 := w0) (H := H) (b := ⟨sz, b.cells.take (len * sz) ++ cs, true, false⟩) (room := c') (vs := os ++ us) (rest := rest) (hnew (by simp [AEff.app])) (by simpa using hlen) hh (fun _ => rfl) (ho.rel.append hu.rel)
          (fun x hx => by
            rcases List.mem_append.1 hx with hx | hx
            · exact ho.one x hx
            · exact hu.one x hx) (by simp) q1 q2 q3
        refine ⟨_, w', _, hr, ?_, hE.kill hid⟩
        simp only [VR]
        exact Or.inl ⟨⟨w.heap.size, c'⟩, c', 0, by simp [Inj.set], rfl, by omega, hge, Or.inr rfl, fun _ => Nat.le_refl _⟩
  · cases h
end
end Go.Proofs.Ytgddflnhibhacaa.AM
