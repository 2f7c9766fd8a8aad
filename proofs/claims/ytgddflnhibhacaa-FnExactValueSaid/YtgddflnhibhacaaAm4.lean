/- The abstract machine, part 4: loads, stores, new blocks, slices: sound. No conditions. -/
import Derived.Test.YtgddflnhibhacaaAm3
set_option linter.unusedVariables false
set_option linter.unusedSimpArgs false
namespace Go.Proofs.Ytgddflnhibhacaa.AM
open Go

theorem addr_add (c off n : Nat) : (⟨c, off, none⟩ : Addr).add n = ⟨c, off + n, none⟩ := by unfold Addr.add; split <;> simp_all

section
variable {P : Program} {F : Nat → Prop} {ι ι' : Inj} {w0 w : World}

theorem CellsAt.cell {c off : Nat} {vs : List Value} (h : CellsAt w c off vs) : ∀ (j : Nat) v, vs[j]? = some v → w.cell? ((⟨c, off, none⟩ : Addr).add j) = some v := by
  obtain ⟨arr, e, fz, h1, h2⟩ := h
  intro j v hv
  rw [addr_add, cell_of_row w c (off + j) arr e fz h1]
  exact (h2 j v hv).1
theorem CellsAt.one {c off : Nat} {vs : List Value} (h : CellsAt w c off vs) : ∀ u ∈ vs, u.oneCell' = true := by
  obtain ⟨arr, e, fz, h1, h2⟩ := h
  intro u hu
  obtain ⟨i, hi⟩ := List.getElem?_of_mem hu
  exact (h2 i u hi).2
theorem CellsAt.world {c off : Nat} {vs : List Value} {w' : World} (h : CellsAt w c off vs) (hw : w'.heap[c]? = w.heap[c]?) : CellsAt w' c off vs := by
  unfold CellsAt at *; rw [hw]; exact h
theorem BR.cellsAt {b : Blk} {c : Emb} (h : BR F ι w0 b c w) : ∃ vs, VRL F ι w0 b.cells vs ∧ CellsAt w c.blk 0 vs := by
  obtain ⟨arr, t, fz, h1, h2, h4, vs, rest, h5, h6, h7⟩ := h
  refine ⟨vs, h6, arr, t, fz, h1, fun i v hv => ⟨?_, h7 v (List.mem_of_getElem? hv)⟩⟩
  rw [Nat.zero_add, ← Array.getElem?_toList, h5, List.getElem?_append_left (List.getElem?_eq_some_iff.1 hv).1]
  exact hv

/-- A variable is read. -/
theorem load_sound {t : TypeId} {xs : List AV} {vs : List Value} {x : AV} {c off : Nat} (hx : aload P t xs = some x) (hv : VRL F ι w0 xs vs) (hc : CellsAt w c off vs) :
    ∃ v, (loadVar t ⟨c, off, none⟩).run P w = .ok v w ∧ VR F ι w0 x v := by
  unfold aload at hx
  cases ha : tAgg P t with
  | none => simp [ha] at hx
  | some ag =>
    cases hs : tSize P t with
    | none => simp [ha, hs] at hx
    | some n =>
      cases ag with
      | true =>
        simp only [ha, hs] at hx
        split at hx
        · rename_i hn
          obtain rfl := Option.some.inj hx
          have hl := hv.length
          have hc' := hc.take n
          have hlen : (vs.take n).length = n := by rw [List.length_take]; omega
          refine ⟨.agg (vs.take n).toArray, ?_, ?_⟩
          · unfold loadVar
            simp only [Sem.run_bind, tAgg_run ha, Result.andThen_ok, if_true, tSize_run hs]
            have := run_loadCells_list (P := P) w ⟨c, off, none⟩ (vs.take n) hc'.cell
            rw [hlen] at this
            rw [this]
            rfl
          · simp only [VR]
            exact ⟨_, rfl, hv.take n, by simpa using hc'.one⟩
        · cases hx
      | false =>
        simp only [ha, hs] at hx
        cases xs with
        | nil => simp at hx
        | cons y ys =>
          simp at hx
          subst hx
          obtain ⟨v, rest, rfl, h1, _⟩ := VRL_cons.1 hv
          refine ⟨v, ?_, h1⟩
          have := hc.cell 0 v rfl
          rw [addr_add, Nat.add_zero] at this
          unfold loadVar
          simp [tAgg_run ha, this]

/-- The part of a struct. -/
theorem part_sound {t : TypeId} {xs : List AV} {vs : List Value} {x : AV} {off : Nat} (hx : aload P t (xs.drop off) = some x) (hv : VRL F ι w0 xs vs) (h1 : ∀ u ∈ vs, u.oneCell' = true) (w : World) :
    ∃ v, (part t vs.toArray off).run P w = .ok v w ∧ VR F ι w0 x v := by
  unfold aload at hx
  cases ha : tAgg P t with
  | none => simp [ha] at hx
  | some ag =>
    cases hs : tSize P t with
    | none => simp [ha, hs] at hx
    | some n =>
      cases ag with
      | true =>
        simp only [ha, hs] at hx
        split at hx
        · rename_i hn
          obtain rfl := Option.some.inj hx
          refine ⟨.agg (vs.toArray.extract off (off + n)), ?_, ?_⟩
          · unfold part
            simp [tAgg_run ha, tSize_run hs]
          · simp only [VR]
            refine ⟨_, rfl, ?_, ?_⟩
            · have := (hv.drop off).take n
              simpa [List.extract_eq_take_drop] using this
            · intro u hu
              simp [List.extract_eq_take_drop] at hu
              exact h1 u (List.mem_of_mem_drop (List.mem_of_mem_take hu))
        · cases hx
      | false =>
        simp only [ha, hs] at hx
        have hd := hv.drop off
        cases hxs : xs.drop off with
        | nil => rw [hxs] at hx; simp at hx
        | cons y ys =>
          rw [hxs] at hx hd
          simp at hx
          subst hx
          obtain ⟨v, rest, hvd, h2, _⟩ := VRL_cons.1 hd
          refine ⟨v, ?_, h2⟩
          have : vs[off]? = some v := by
            have := congrArg (fun l => l[0]?) hvd
            simpa [List.getElem?_drop] using this
          unfold part
          simp [tAgg_run ha, this]

theorem VRL.putAt {xs cs : List AV} {vs us : List Value} {off : Nat} (h : VRL F ι w0 xs vs) (h' : VRL F ι w0 cs us) : VRL F ι w0 (putAt xs off cs) (vs.take off ++ us ++ vs.drop (off + us.length)) := by
  unfold AM.putAt
  rw [h'.length]
  exact ((h.take off).append h').append (h.drop _)

/-- A row of an own block is written. -/
theorem write_row {b : Blk} {c : Emb} {cs : List AV} {us : List Value} {off : Nat} (hb : BR F ι w0 b c w) (hro : b.ro = false) (hcs : VRL F ι w0 cs us) (h1 : ∀ u ∈ us, u.oneCell' = true) (hl : off + cs.length ≤ b.cells.length) :
    ∃ w', (storeCells ⟨c.blk, off, none⟩ us).run P w = .ok () w' ∧ BR F ι w0 { b with cells := putAt b.cells off cs } c w' ∧ (∀ k, k ≠ c.blk → w'.heap[k]? = w.heap[k]?) ∧ w'.heap.size = w.heap.size ∧ w'.os = w.os ∧ w'.tape = w.tape ∧ w'.output = w.output := by
  obtain ⟨arr, t, fz, g1, g2, g4, vs, rest, g5, g6, g7⟩ := hb
  obtain rfl := g4 hro
  have e1 := hcs.length
  have e2 := g6.length
  have hsz : off + us.length ≤ vs.length := by omega
  have harr : arr.size = vs.length + rest.length := by rw [← Array.length_toList, g5, List.length_append]
  have hr := run_storeCells_at P c.blk off t us 0 arr w g1 (by omega) h1
  simp only [Nat.add_zero] at hr
  refine ⟨_, hr, ⟨_, t, (0, 0), setRow_heap w c.blk arr _ t (0, 0) g1, ?_, fun _ => rfl, vs.take off ++ us ++ vs.drop (off + us.length), rest, ?_, g6.putAt hcs, ?_⟩, fun k hk => setRow_other w c.blk k _ hk, by simp, rfl, rfl, rfl⟩
  · show _ = c.room * b.sz
    rw [← g2]
    simp only [List.size_toArray, List.length_append, List.length_take, List.length_drop, Array.length_toList]
    omega
  · show List.take off arr.toList ++ us ++ List.drop (off + us.length) arr.toList = _
    rw [g5, List.take_append_of_le_length (by omega), List.drop_append_of_le_length (by omega)]
    simp only [List.append_assoc]
  · intro u hu
    simp only [List.mem_append] at hu
    rcases hu with (hu | hu) | hu
    · exact g7 u (List.mem_of_mem_take hu)
    · exact h1 u hu
    · exact g7 u (List.mem_of_mem_drop hu)
end
end Go.Proofs.Ytgddflnhibhacaa.AM
