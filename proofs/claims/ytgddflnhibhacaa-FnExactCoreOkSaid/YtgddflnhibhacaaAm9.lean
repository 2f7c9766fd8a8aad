/- The abstract machine, part 9: its operations are sound: all of them together. No conditions. -/
import Derived.Test.YtgddflnhibhacaaAm8
set_option linter.unusedVariables false
set_option linter.unusedSimpArgs false
namespace Go.Proofs.Ytgddflnhibhacaa.AM
open Go

section
variable {P : Program} {F : Nat → Prop} {ι ι' : Inj} {w0 w : World} {a : Act} {ρ : Operand → AV} {H : Heap}

theorem zeroValue_run {t : TypeId} {i : TypeInfo} {v : Value} (h1 : P.info? t = some i) (h2 : i.zero = some v) (w : World) : (zeroValue t).run P w = .ok v w := by
  simp [zeroValue, typeInfo, h1, h2]

theorem places_run (fs : List Field) (h : ∀ f ∈ fs, ∃ i, P.info? f.type = some i) (w : World) :
    (fs.mapM (fun f => do pure (f.offset, ← sizeOf f.type) : Field → Sem (Nat × Nat))).run P w = .ok (fs.map fun f => (f.offset, P.cellsOf f.type)) w := by
  induction fs with
  | nil => rfl
  | cons f fs ih =>
    obtain ⟨i, hi⟩ := h f (by simp)
    have e : (sizeOf f.type).run P w = .ok (P.cellsOf f.type) w := by simp [sizeOf, typeInfo, hi, Program.cellsOf]
    have ih' := ih (fun g hg => h g (by simp [hg]))
    simp only [List.mapM_cons, Sem.run_bind, Sem.run_pure, Result.andThen_ok, e, ih', List.map_cons]

theorem build_sound {t : TypeId} {z cs : List AV} {ps : List (Nat × Operand)} (ht : tSct P t = true) (hz : tZero P t = some z) (hf : aFill P t z (ps.map fun p => (p.1, ρ p.2)) = some cs) (hρ : ∀ y, VR F ι w0 (ρ y) (a.eval y)) :
    ∃ v, (Instr.build t (ps.map fun p => (p.1, a.eval p.2)).toArray).run P w = .ok v w ∧ VR F ι w0 (.agg cs) v := by
  obtain ⟨fs, hu, hinf⟩ := tSct_eq ht
  obtain ⟨i, v, h1, h2, h3, h4⟩ := tZero_rel (F := F) (ι := ι) (w0 := w0) hz
  obtain ⟨hm, hrel⟩ := zip_rel (ps := ps) hρ
  obtain ⟨cells', g1, g2, g3⟩ := fill_sound (places := (fs.toList.map fun f => (f.offset, P.cellsOf f.type)).toArray) hu (by
    intro i o ft n hi hn
    obtain ⟨fs', fd, e1, e2, e3, e4⟩ := tField_eq hi
    rw [hu] at e1
    obtain rfl : fs = fs' := by simpa using e1
    subst e3 e4
    obtain ⟨inf, e5, e6⟩ := tSize_info hn
    have : fs.toList[i]? = some fd := by simpa using e2
    simp [this, Program.cellsOf, e5, e6]) _ _ z cs v.cells hm hrel h3 h4 hf
  refine ⟨.agg cells', ?_, by simp only [VR]; exact ⟨cells', rfl, g2, g3⟩⟩
  unfold Instr.build
  have hpl : (fs.mapM (fun f => do pure (f.offset, ← sizeOf f.type) : Field → Sem (Nat × Nat))).run P w = .ok (fs.toList.map fun f => (f.offset, P.cellsOf f.type)).toArray w := by
    rw [Array.mapM_eq_mapM_toList]
    simp only [Sem.run_map, places_run fs.toList hinf w, Result.andThen_ok]
  simp only [Sem.run_bind, zeroValue_run h1 h2, Result.andThen_ok, run_underlying hu, hpl]
  simp only [g1, Sem.run_pure]

theorem buildSlice_sound {t e : TypeId} {n sz : Nat} {z cs : List AV} {ps : List (Nat × Operand)} (he : tElem P t = some e) (hs : tSize P e = some sz) (hz : tZero P e = some z) (hn : ps.length = n) (hsm : n * sz ≤ 16777216) (hzl : z.length = sz) (h0 : 0 < sz) (hne : ¬ (n = 0))
    (hf : aRow sz 0 (ps.map fun p => (p.1, ρ p.2)) = some cs) (hρ : ∀ y, VR F ι w0 (ρ y) (a.eval y)) (hnew : ι H.length = none) :
    Done P F w0 w ι H (fun w v w' => (Instr.buildSlice t n (ps.map fun p => (p.1, a.eval p.2)).toArray).run P w = .ok v w') (.slice H.length 0 n n) (.new ⟨sz, cs, true, false⟩) := by
  obtain ⟨i, v, h1, h2, h3, h4⟩ := tZero_rel (F := F) (ι := ι) (w0 := w0) hz
  obtain ⟨hm, hrel⟩ := zip_rel (ps := ps) hρ
  obtain ⟨g1, g2, g3, g4⟩ := row_sound _ (ps.map fun p => (p.1, a.eval p.2)) 0 cs hm hrel hf
  obtain ⟨i2, hi2, hsz⟩ := tSize_info hs
  rw [h1] at hi2
  obtain rfl := Option.some.inj hi2
  subst hsz
  have ht := tElem_eq he
  have hfw := Great.fill_whole h0 ((ps.map fun p => (p.1, a.eval p.2)).map (·.2)) ((Array.range (n * i.size)).map (v.cells[· % v.cells.size]!)) (by
    intro u hu
    obtain ⟨q, hq, rfl⟩ := List.mem_map.1 hu
    exact g3 q hq) (by simp [hn])
  rw [← g4] at hfw
  have hpos : ¬ (n * i.size = 0) := by
    intro h
    rcases Nat.mul_eq_zero.1 h with h | h <;> omega
  have hsm' : ¬ (n * i.size > 16777216) := by omega
  have hcs : (List.flatMap (fun v => v.cells.toList) ((ps.map fun p => (p.1, a.eval p.2)).map (·.2))) = (ps.map fun p => (p.1, a.eval p.2)).flatMap fun q => q.2.cells.toList := by
    simp [List.flatMap_map]
  rw [hcs] at hfw
  have hlen : ((ps.map fun p => (p.1, a.eval p.2)).flatMap fun q => q.2.cells.toList).length = n * i.size := by
    have : ∀ (l : List (Nat × Value)), (∀ q ∈ l, q.2.cells.size = i.size) → (l.flatMap fun q => q.2.cells.toList).length = l.length * i.size := by
      intro l
      induction l with
      | nil => simp
      | cons q l ih =>
        intro h
        simp only [List.flatMap_cons, List.length_append, List.length_cons, ih (fun q hq => h q (by simp [hq])), Array.length_toList, h q (by simp)]
        rw [Nat.add_mul]
        omega
    rw [this _ g3]
    simp [hn]
  refine ⟨.slice (some ⟨w.heap.size, 0, none⟩) n n, w.alloc (.cells ((ps.map fun p => (p.1, a.eval p.2)).flatMap fun q => q.2.cells.toList).toArray e), _, ?_, ?_,
    Eff.alloc (b := ⟨i.size, cs, true, false⟩) (room := n) (vs := (ps.map fun p => (p.1, a.eval p.2)).flatMap fun q => q.2.cells.toList) (rest := []) hnew (by simpa using hlen) rfl (fun _ => rfl) g1 g2 (by simp) rfl rfl rfl⟩
  · simp [Instr.buildSlice, run_underlying ht, sizeOf, typeInfo, zeroValue, h1, h2, hsm', hpos, hfw, newRow]
  · simp only [VR]
    exact Or.inl ⟨⟨w.heap.size, n⟩, n, 0, by simp [Inj.set], rfl, Nat.le_refl _, Nat.le_refl _, Or.inr rfl, fun _ => Nat.le_refl _⟩

theorem newVar_sound {t : TypeId} {cs : List AV} {v : Value} (hr : VRL F ι w0 cs v.cells.toList) (h1 : ∀ u ∈ v.cells.toList, u.oneCell' = true) (hnew : ι H.length = none) :
    Done P F w0 w ι H (fun w v' w' => (do pure (.pointer (some (← newVar t v))) : Sem Value).run P w = .ok v' w') (.ptr H.length 0) (.new ⟨cs.length, cs, true, false⟩) := by
  refine ⟨.pointer (some ⟨w.heap.size, 0, none⟩), w.alloc (.cells v.cells t), _, ?_, ?_,
    Eff.alloc (b := ⟨cs.length, cs, true, false⟩) (room := 1) (vs := v.cells.toList) (rest := []) hnew (by simp only [Nat.one_mul]; rw [hr.length]; simp) rfl (fun _ => rfl) hr h1 (by simp) rfl rfl rfl⟩
  · simp [newVar, newRow]
  · simp only [VR]
    exact ⟨⟨w.heap.size, 1⟩, by simp [Inj.set], rfl⟩

theorem madeCells_list (vs : Array Value) (n : Nat) : (madeCells vs (n * vs.size)).toList = (List.replicate n vs.toList).flatten := by
  unfold madeCells
  simp only [Array.toList_map, Array.toList_range]
  induction n with
  | zero => simp
  | succ n ih =>
    rw [Nat.succ_mul, List.range_add, List.map_append, ih, List.replicate_succ', List.flatten_append]
    congr 1
    simp only [List.map_map, List.flatten_cons, List.flatten_nil, List.append_nil]
    apply List.ext_getElem?
    intro k
    by_cases hk : k < vs.size
    · have h1 : (n * vs.size + k) % vs.size = k := by rw [Nat.mul_add_mod_self_right, Nat.mod_eq_of_lt hk]
      simp [hk, h1]
    · simp [List.getElem?_eq_none, hk, Nat.le_of_not_lt hk]

theorem zeroCells_rel {z : List AV} {vs : Array Value} (hz : VRL F ι w0 z vs.toList) (h1 : ∀ u ∈ vs.toList, u.oneCell' = true) (n : Nat) :
    VRL F ι w0 (List.replicate n z).flatten (madeCells vs (n * vs.size)).toList ∧ ∀ u ∈ (madeCells vs (n * vs.size)).toList, u.oneCell' = true := by
  rw [madeCells_list]
  constructor
  · induction n with
    | zero => simp [VRL_nil]
    | succ n ih => simp only [List.replicate_succ, List.flatten_cons]; exact hz.append ih
  · intro u hu
    obtain ⟨l, hl, hu⟩ := List.mem_flatten.1 hu
    rw [List.mem_replicate] at hl
    rw [hl.2] at hu
    exact h1 u hu

theorem make_sound {t : TypeId} {l c x : AV} {e : AEff} {v u : Value} (h : aMake P H t l c = some (x, e)) (hl : VR F ι w0 l v) (hc : VR F ι w0 c u) (hnew : (e.app H).length ≠ H.length → ι H.length = none) :
    Done P F w0 w ι H (fun w v' w' => (Instr.makeSlice t v u).run P w = .ok v' w') x e := by
  unfold aMake at h
  split at h
  · cases h
  rename_i el hel
  split at h
  case h_2 => cases h
  rename_i sz by_ z hsz hby hz
  split at h
  case h_2 => cases h
  rename_i k l k' c
  obtain rfl := VR_int hl
  obtain rfl := VR_int hc
  split at h
  case isFalse => cases h
  rename_i hcd
  obtain ⟨rfl, rfl⟩ := Prod.mk.inj (Option.some.inj h)
  obtain ⟨i, zv, h1, h2, h3, h4⟩ := tZero_rel (F := F) (ι := ι) (w0 := w0) hz
  obtain ⟨i2, hi2, hs2⟩ := tSize_info hsz
  obtain ⟨i3, hi3, hb3⟩ := tBytes_info hby
  rw [h1] at hi2 hi3
  obtain rfl := Option.some.inj hi2
  obtain rfl := Option.some.inj hi3
  subst hs2 hb3
  obtain ⟨q1, q2, q3, q4, q5, q6⟩ := hcd
  have hr := run_make (P := P) w t el i zv (tElem_eq hel) h1 h2 k k' l c q3 q4 q6 q5
  have hzs : zv.cells.size = i.size := by rw [← q1, h3.length]; simp
  obtain ⟨g1, g2⟩ := zeroCells_rel h3 h4 c.toNat
  rw [hzs] at g1 g2
  refine ⟨_, _, _, hr, ?_, Eff.alloc (b := ⟨i.size, (List.replicate c.toNat z).flatten, true, false⟩) (room := c.toNat) (rest := []) (hnew (by simp [AEff.app])) (by simp [madeCells]) rfl (fun _ => rfl) g1 g2 (by simp) rfl rfl rfl⟩
  simp only [VR]
  exact Or.inl ⟨⟨w.heap.size, c.toNat⟩, c.toNat, 0, by simp [Inj.set], rfl, Nat.le_refl _, by omega, Or.inr rfl, fun _ => Nat.le_refl _⟩

theorem alloc_sound {t : TypeId} {z : List AV} {n : Nat} (hz : tZero P t = some z) (hn : z.length = n) (hnew : ι H.length = none) :
    Done P F w0 w ι H (fun w v' w' => (Instr.alloc t true (.tuple #[])).run P w = .ok v' w') (.ptr H.length 0) (.new ⟨n, z, true, false⟩) := by
  obtain ⟨i, zv, h1, h2, h3, h4⟩ := tZero_rel (F := F) (ι := ι) (w0 := w0) hz
  subst hn
  obtain ⟨v', w', ι', g1, g2, g3⟩ := newVar_sound (P := P) (w := w) (t := t) h3 h4 hnew
  refine ⟨v', w', ι', ?_, g2, g3⟩
  unfold Instr.alloc
  simp only [Sem.run_bind, zeroValue_run h1 h2, Result.andThen_ok]
  simpa using g1

theorem set_same {id : Nat} {b : Blk} (h : H[id]? = some b) : H.set id b = H := by
  apply List.ext_getElem?
  intro k
  rw [List.getElem?_set]
  split
  · subst_vars
    split
    · exact h.symm
    · rename_i hlt
      rw [List.getElem?_eq_none (by omega)] at h
      cases h
  · rfl
theorem Eff.idle {b : Blk} {id : Nat} {e : Option Emb} (hid : H[id]? = some b) (he : ι id = some e) (hb : b.live = true → BRo F ι w0 b e w) : Eff F w0 ι ι H H [id] w w := by
  have h := Eff.refl F w0 ι H w
  refine ⟨h.len, h.le, h.old, h.new, ?_, h.newInj, ?_, fun _ _ _ => rfl, fun _ _ _ => rfl, rfl, rfl, rfl, Nat.le_refl _⟩
  · intro k c h1 h2
    omega
  · intro k b' e' hk h1 h2 h3
    simp at hk
    subst hk
    rw [hid] at h1
    obtain rfl := Option.some.inj h1
    rw [he] at h3
    obtain rfl := Option.some.inj h3
    exact hb h2

theorem copy_sound {t t' ty : TypeId} {s x y : AV} {e : AEff} {v u : Value} (h : aCopy P H t t' s x = some (y, e)) (hs : VR F ι w0 s v) (hx : VR F ι w0 x u) (hF : ∀ c, F c → w.heap[c]? = w0.heap[c]?)
    (hbr : ∀ id b e, id ∈ x.ids ∨ id ∈ s.ids → H[id]? = some b → b.live = true → ι id = some e → BRo F ι w0 b e w) :
    Done P F w0 w ι H (fun w v' w' => (Builtin.copy_ #[t, t'] ty #[v, u]).run P w = .ok v' w') y e := by
  unfold aCopy at h
  split at h
  · cases h
  rename_i el hel
  have ht := tElem_eq hel
  split at h
  case h_2 => cases h
  rename_i sz hsz
  split at h
  · cases h
  rename_i htt
  simp only [ne_eq, Decidable.not_not] at htt
  subst htt
  split at h
  · cases h
  rename_i n cs hcs
  obtain ⟨us, hu⟩ := cells_sound hcs hx hF (fun id b e hid => hbr id b e (Or.inl hid))
  split at h
  case h_2 => cases h
  rename_i id off len cap
  try simp only at h
  split at h
  · cases h
  rename_i b hb
  split at h
  case isFalse => cases h
  rename_i hcd
  obtain ⟨hlive, hro, hfit⟩ := hcd
  obtain ⟨rfl, rfl⟩ := Prod.mk.inj (Option.some.inj h)
  have hid : id < H.length := (List.getElem?_eq_some_iff.1 hb).1
  have hmin : Nat.min n len ≤ n := Nat.min_le_left _ _
  have hmin2 : Nat.min n len ≤ len := Nat.min_le_right _ _
  have hread : (Builtin.firstCells sz (Nat.min n len) u).run P w = .ok (us.take (Nat.min n len * sz)).toArray w := hu.read _ w hmin rfl
  have hcl : (cs.take (Nat.min n len * sz)).length ≤ len * sz := by
    rw [List.length_take]
    have := Nat.mul_le_mul_right sz hmin2
    omega
  simp only [VR] at hs
  rcases hs with ⟨c, ccap, off', h1, rfl, h2, h3, h4, h5⟩ | ⟨h1, rfl, rfl, ad, rfl⟩
  · have hBR : BR F ι w0 b c w := hbr id b (some c) (Or.inr (by simp [AV.ids])) hb hlive h1
    have hone : ∀ z ∈ us.take (Nat.min n len * sz), z.oneCell' = true := fun z hz => hu.one z (List.mem_of_mem_take hz)
    by_cases hm0 : Nat.min n len = 0
    · simp only [hm0, Nat.zero_mul, List.take_zero] at hread ⊢
      have hput : putAt b.cells off [] = b.cells := by simp [putAt]
      refine ⟨.int .i64 (0 : Nat), w, ι, ?_, by simp [VR], ?_⟩
      · simp [Builtin.copy_, run_underlying ht, hu.lenOf, tSize_run hsz, hread, hm0, storeCells, goInt]
      · show Eff F w0 ι ι H (H.set id { b with cells := putAt b.cells off [] }) [id] w w
        rw [hput, show H.set id { b with cells := b.cells } = H from set_same hb]
        exact Eff.idle hb h1 fun _ => hBR
    · obtain rfl : off' = off := by omega
      obtain ⟨w', g1, g2, g3, g4, g5, g6, g7⟩ := write_row (P := P) (off := off') hBR hro (hu.rel.take (Nat.min n len * sz)) hone (by omega)
      refine ⟨.int .i64 (Nat.min n len : Nat), w', ι, ?_, by simp [VR], Eff.write hid h1 g2 g3 g4 g5 g6 g7⟩
      simp [Builtin.copy_, run_underlying ht, hu.lenOf, tSize_run hsz, hread, g1, goInt]
  · have hnone : b.cells = [] := hbr id b none (Or.inr (by simp [AV.ids])) hb hlive h1
    have hz : Nat.min n 0 = 0 := Nat.min_zero n
    simp only [hz, Nat.zero_mul, List.take_zero] at hread ⊢
    have hput : putAt b.cells off [] = b.cells := by simp [putAt]
    refine ⟨.int .i64 (0 : Nat), w, ι, ?_, by simp [VR], ?_⟩
    · cases ad <;> simp [Builtin.copy_, run_underlying ht, hu.lenOf, tSize_run hsz, hread, hz, storeCells, goInt]
    · show Eff F w0 ι ι H (H.set id { b with cells := putAt b.cells off [] }) [id] w w
      rw [hput, show H.set id { b with cells := b.cells } = H from set_same hb]
      exact Eff.idle hb h1 fun _ => hnone

theorem clear_sound {t ty : TypeId} {s : AV} {e : AEff} {v : Value} (h : aClear P H t s = some e) (hs : VR F ι w0 s v)
    (hbr : ∀ id b e, id ∈ s.ids → H[id]? = some b → b.live = true → ι id = some e → BRo F ι w0 b e w) :
    Done P F w0 w ι H (fun w v' w' => (Builtin.clear_ #[t] ty #[v]).run P w = .ok v' w') .any e := by
  unfold aClear at h
  split at h
  · cases h
  rename_i el hel
  have ht := tElem_eq hel
  split at h
  case h_2 => cases h
  rename_i sz z hsz hz
  split at h
  · cases h
  rename_i hzl
  simp only [ne_eq, Decidable.not_not] at hzl
  split at h
  case h_2 => cases h
  rename_i id off len cap
  try simp only at h
  split at h
  · cases h
  rename_i b hb
  split at h
  case isFalse => cases h
  rename_i hcd
  obtain ⟨hlive, hro, hfit⟩ := hcd
  obtain rfl := Option.some.inj h
  have hid : id < H.length := (List.getElem?_eq_some_iff.1 hb).1
  obtain ⟨i, zv, g1, g2, g3, g4⟩ := tZero_rel (F := F) (ι := ι) (w0 := w0) hz
  have hzs : zv.cells.size = sz := by rw [← hzl, g3.length]; simp
  obtain ⟨r1, r2⟩ := zeroCells_rel g3 g4 len
  have hzc : (Builtin.zeroCells zv.cells len).toList = (madeCells zv.cells (len * zv.cells.size)).toList := rfl
  have hrl : (List.replicate len z).flatten.length = len * sz := by rw [r1.length, ← hzs]; simp [madeCells]
  simp only [VR] at hs
  rcases hs with ⟨c, ccap, off', h1, rfl, h2, h3, h4, h5⟩ | ⟨h1, rfl, rfl, ad, rfl⟩
  · have hBR : BR F ι w0 b c w := hbr id b (some c) (by simp [AV.ids]) hb hlive h1
    by_cases hl0 : len = 0
    · subst hl0
      have hput : putAt b.cells off ((List.replicate 0 z).flatten) = b.cells := by simp [putAt]
      refine ⟨.tuple #[], w, ι, ?_, by simp [VR], ?_⟩
      · simp [Builtin.clear_, run_underlying ht]
      · show Eff F w0 ι ι H (H.set id { b with cells := putAt b.cells off (List.replicate 0 z).flatten }) [id] w w
        rw [hput, show H.set id { b with cells := b.cells } = H from set_same hb]
        exact Eff.idle hb h1 fun _ => hBR
    · obtain rfl : off' = off := by omega
      obtain ⟨w', q1, q2, q3, q4, q5, q6, q7⟩ := write_row (P := P) (off := off') hBR hro r1 r2 (by omega)
      refine ⟨.tuple #[], w', ι, ?_, by simp [VR], Eff.write hid h1 q2 q3 q4 q5 q6 q7⟩
      cases len with
      | zero => exact absurd rfl hl0
      | succ len => simp [Builtin.clear_, run_underlying ht, zeroValue_run g1 g2, hzc, q1]
  · have hnone : b.cells = [] := hbr id b none (by simp [AV.ids]) hb hlive h1
    have hput : putAt b.cells off ((List.replicate 0 z).flatten) = b.cells := by simp [putAt]
    refine ⟨.tuple #[], w, ι, ?_, by simp [VR], ?_⟩
    · cases ad <;> simp [Builtin.clear_, run_underlying ht]
    · show Eff F w0 ι ι H (H.set id { b with cells := putAt b.cells off (List.replicate 0 z).flatten }) [id] w w
      rw [hput, show H.set id { b with cells := b.cells } = H from set_same hb]
      exact Eff.idle hb h1 fun _ => hnone

theorem len_sound {t ty : TypeId} {x y : AV} {v : Value} (h : aLen P t x = some y) (hx : VR F ι w0 x v) : ∃ u, (Builtin.len_ #[t] ty #[v]).run P w = .ok u w ∧ VR F ι w0 y u := by
  unfold aLen at h
  have sl : ∀ n b c, v = .slice b n c → tSli P t = true → ∃ u, (Builtin.len_ #[t] ty #[v]).run P w = .ok u w ∧ VR F ι w0 (.int .i64 n) u := by
    intro n b c hv hc
    obtain ⟨e, he⟩ := tSli_eq hc
    subst hv
    exact ⟨.int .i64 n, by simp [Builtin.len_, run_underlying he, goInt], by simp [VR]⟩
  split at h
  · obtain rfl := VR_str hx
    split at h
    · rename_i hc
      obtain rfl := Option.some.inj h
      exact ⟨_, by simp [Builtin.len_, run_underlying (tStr_eq hc), goInt]; rfl, by simp [VR]⟩
    · cases h
  · split at h
    · rename_i hc
      obtain rfl := Option.some.inj h
      simp only [VR] at hx
      obtain ⟨b, hv⟩ := hx
      exact sl 0 b 0 hv hc
    · cases h
  · split at h
    · rename_i hc
      obtain rfl := Option.some.inj h
      simp only [VR] at hx
      exact sl 0 none 0 hx hc
    · cases h
  · split at h
    · rename_i hc
      obtain rfl := Option.some.inj h
      simp only [VR] at hx
      rcases hx with ⟨c, ccap, off', h1, hv, _⟩ | ⟨h1, rfl, _, ad, hv⟩
      · exact sl _ _ _ hv hc
      · exact sl 0 _ _ hv hc
    · cases h
  · split at h
    · rename_i hc
      obtain rfl := Option.some.inj h
      simp only [VR] at hx
      obtain ⟨b, ccap, hv, _⟩ := hx
      exact sl _ _ _ hv hc
    · cases h
  · split at h
    · rename_i hc
      obtain rfl := Option.some.inj h
      simp only [VR] at hx
      obtain ⟨b, ccap, hv, _⟩ := hx
      exact sl _ _ _ hv hc
    · cases h
  · cases h
theorem cap_sound {t ty : TypeId} {x y : AV} {v : Value} (h : aCap P t x = some y) (hx : VR F ι w0 x v) : ∃ u, (Builtin.cap_ #[t] ty #[v]).run P w = .ok u w ∧ VR F ι w0 y u := by
  unfold aCap at h
  split at h
  · split at h
    · rename_i hc
      obtain rfl := Option.some.inj h
      simp only [VR] at hx
      obtain ⟨b, rfl⟩ := hx
      obtain ⟨e, he⟩ := tSli_eq hc
      exact ⟨.int .i64 0, by simp [Builtin.cap_, run_underlying he, goInt], by simp [VR]⟩
    · cases h
  · split at h
    · rename_i hc
      obtain rfl := Option.some.inj h
      simp only [VR] at hx
      subst hx
      obtain ⟨e, he⟩ := tSli_eq hc
      exact ⟨.int .i64 0, by simp [Builtin.cap_, run_underlying he, goInt], by simp [VR]⟩
    · cases h
  · cases h
end
end Go.Proofs.Ytgddflnhibhacaa.AM
