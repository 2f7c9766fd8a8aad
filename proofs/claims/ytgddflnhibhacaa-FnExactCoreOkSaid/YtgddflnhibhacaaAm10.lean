/- The abstract machine, part 10: an operation that the machine tells is sound. No conditions. -/
import Derived.Test.YtgddflnhibhacaaAm9
set_option linter.unusedVariables false
set_option linter.unusedSimpArgs false
namespace Go.Proofs.Ytgddflnhibhacaa.AM
open Go

section
variable {P : Program} {F : Nat → Prop} {ι ι' : Inj} {w0 w : World} {a : Act} {ρ : Operand → AV} {H : Heap}

theorem bytes_rel : ∀ {cs : List AV} {us : List Value} {bs : List UInt8}, bytesOf? cs = some bs → VRL F ι w0 cs us → ∃ ns : List Int, us = ns.map (fun n => Value.int .u8 n) ∧ bs = ns.map (fun n => UInt8.ofNat n.toNat)
  | [], us, bs, h, hr => by
    rw [VRL_nil] at hr
    subst hr
    simp [bytesOf?] at h
    exact ⟨[], rfl, by simp [h]⟩
  | x :: xs, us, bs, h, hr => by
    obtain ⟨v, rest, rfl, h1, h2⟩ := VRL_cons.1 hr
    simp only [bytesOf?, List.mapM_cons, Option.pure_def, Option.bind_eq_bind, Option.bind_eq_some_iff] at h
    obtain ⟨b, hb, bs', hbs, h⟩ := h
    obtain ⟨ns, g1, g2⟩ := bytes_rel (bs := bs') hbs h2
    unfold cellByte? at hb
    split at hb
    · rename_i n
      obtain rfl := VR_int h1
      obtain rfl := Option.some.inj hb
      obtain rfl := Option.some.inj h
      exact ⟨n :: ns, by simp [g1], by simp [g2]⟩
    · cases hb

theorem bytes_loop (f : Value → ByteArray → Sem (ForInStep ByteArray)) (hf : ∀ n r, f (.int .u8 n) r = pure (ForInStep.yield (r.push (UInt8.ofNat n.toNat)))) (ns : List Int) (acc : ByteArray) (w : World) :
    (forIn (ns.map fun n => Value.int .u8 n) acc f : Sem ByteArray).run P w = .ok ⟨acc.data ++ (ns.map fun n => UInt8.ofNat n.toNat).toArray⟩ w := by
  induction ns generalizing acc with
  | nil => simp
  | cons n ns ih =>
    simp only [List.map_cons, List.forIn_cons, hf, Sem.run_bind, Sem.run_pure, Result.andThen_ok]
    rw [ih]
    congr 2
    apply Array.ext'
    simp [ByteArray.push]

theorem push_modify {α : Type} (xs : Array α) (o : α) (f : α → α) : (xs.push o).modify xs.size f = xs.push (f o) := by
  apply Array.ext_getElem?
  intro k
  rw [Array.getElem?_modify, Array.getElem?_push, Array.getElem?_push]
  by_cases hk : k = xs.size
  · subst hk
    simp
  · simp [hk, Ne.symm hk]

theorem stringToBytes_run (el : TypeId) (s : ByteArray) (w : World) : (Conv.stringToBytes el s).run P w = .ok (.slice (some ⟨w.heap.size, 0, none⟩) s.size (grownCap w s.size 0 el))
    { w with drawn := w.drawn + 1, heap := w.heap.push (.cells (s.data.map (fun b : UInt8 => Value.int .u8 b.toNat) ++ Array.replicate (grownCap w s.size 0 el - s.size) (Value.int .u8 0)) el (grownCap w s.size 0 el, grownCap w s.size 0 el + 1)) } := by
  have hge : s.size ≤ grownCap w s.size 0 el := grownCap_ge w s.size 0 el
  have hd : s.data.size = s.size := rfl
  have hsz : (s.data.map (fun b : UInt8 => Value.int .u8 b.toNat) ++ Array.replicate (grownCap w s.size 0 el - s.size) (Value.int .u8 0)).size = grownCap w s.size 0 el := by
    simp only [Array.size_append, Array.size_map, Array.size_replicate]
    omega
  have hc : (choose (.appendCap s.size 0 el)).run P w = .ok (grownCap w s.size 0 el) w.drew := by
    simp [run_choose, Question.forced, grownCap]
  generalize hg : grownCap w s.size 0 el = g at *
  unfold Conv.stringToBytes
  simp only [Sem.run_bind, hc, Result.andThen_ok, newRow, run_newObj, Sem.run_pure, markStringish, run_shape]
  generalize hA : (s.data.map (fun b : UInt8 => Value.int .u8 b.toNat) ++ Array.replicate (g - s.size) (Value.int .u8 0)) = A at *
  have h1 : ({ w.drew with heap := w.drew.heap.push (.cells A el) } : World).shape? w.drew.heap.size = some (el, g) := by
    have : (w.drew.heap.push (.cells A el))[w.drew.heap.size]? = some (.cells A el) := by rw [Array.getElem?_push, if_pos rfl]
    simp only [World.shape?, this, hsz]
  simp only [h1, run_freeze, World.freeze, Result.andThen_ok]
  simp only [Nat.add_eq_zero_iff, Nat.one_ne_zero, if_false]
  congr 1
  rw [push_modify]
  rfl

theorem lt_of_some {w : World} {c : Nat} {o : Obj} (h : w.heap[c]? = some o) : c < w.heap.size := (Array.getElem?_eq_some_iff.1 h).1
theorem convert_sound {src dst : TypeId} {x : AV} {v : Value} {y : AV} {e : AEff} {o : Operand} (hop : aop P ρ H (.convert src dst o) = some (y, e)) (hx : VR F ι w0 (ρ o) v) (hF : ∀ c, F c → w.heap[c]? = w0.heap[c]?)
    (hbr : ∀ id b e, id ∈ (ρ o).ids → H[id]? = some b → b.live = true → ι id = some e → BRo F ι w0 b e w) (hnew : (e.app H).length ≠ H.length → ι H.length = none) :
    Done P F w0 w ι H (fun w v' w' => (convert src dst v).run P w = .ok v' w') y e := by
  simp only [aop] at hop
  split at hop
  · rename_i hsd
    obtain ⟨rfl, hsl⟩ := hsd
    unfold aSelf at hop
    split at hop
    case h_2 => cases hop
    rename_i id off len cap hn
    split at hop
    case h_2 => cases hop
    rename_i b h1 h2
    split at hop
    case isFalse => cases hop
    rename_i hc
    obtain ⟨rfl, rfl⟩ := Prod.mk.inj (Option.some.inj hop)
    have hlt := (List.getElem?_eq_some_iff.1 h2).1
    obtain ⟨el, he, hi⟩ := Option.bind_eq_some_iff.1 h1
    have ht := tElem_eq he
    have hu8 := tInt_eq hi
    have hx' := hx
    rw [hn] at hx'
    simp only [VR] at hx'
    rcases hx' with ⟨c, ccap, off', g1, rfl, _⟩ | ⟨_, h0, _⟩
    case inr => omega
    have hids : id ∈ (ρ o).ids := by rw [hn]; simp [AV.ids]
    obtain ⟨arr, t, fz, k1, k2, k3, vs, rest, k4, k5, k6⟩ := hbr id b (some c) hids h2 hc.1 g1
    have hfr : ∃ fz', (w.freeze ⟨c.blk, arr.size, none⟩ 1).heap = w.heap.setIfInBounds c.blk (.cells arr t fz') := by
      obtain ⟨lo, hi⟩ := fz
      refine ⟨if lo == hi then (arr.size, arr.size + 1) else (min lo arr.size, max hi (arr.size + 1)), ?_⟩
      simp only [World.freeze, Nat.one_ne_zero, if_false]
      apply Array.ext_getElem?
      intro k
      rw [Array.getElem?_modify, Array.getElem?_setIfInBounds]
      by_cases hk : c.blk = k
      · subst hk
        rw [if_pos rfl, if_pos rfl, k1, if_pos (lt_of_some k1)]
        rfl
      · rw [if_neg hk, if_neg hk]
    obtain ⟨fz', hfr⟩ := hfr
    have hblk : c.blk < w.heap.size := lt_of_some k1
    refine ⟨.slice (some ⟨c.blk, off', none⟩) len ccap, w.freeze ⟨c.blk, arr.size, none⟩ 1, ι, ?_, hn ▸ hx, Eff.write (c := c) hlt g1 ?_ ?_ ?_ rfl rfl rfl⟩
    · simp only [convert, Sem.run_bind, run_underlying ht, Result.andThen_ok, run_underlying hu8, beq_self_eq_true, markStringish, run_shape]
      have hsh : w.shape? c.blk = some (t, arr.size) := by simp only [World.shape?, k1]
      simp only [hsh, run_freeze, Result.andThen_ok, Sem.run_pure]
    · refine ⟨arr, t, fz', ?_, k2, fun h => by simp at h, vs, rest, k4, k5, k6⟩
      rw [hfr, Array.getElem?_setIfInBounds_self_of_lt hblk]
    · intro k hk
      rw [hfr, Array.getElem?_setIfInBounds_ne (fun e => hk e.symm)]
    · rw [hfr]; simp
  split at hop
  · rename_i k n hn
    rw [hn] at hx
    obtain rfl := VR_int hx
    split at hop
    · rename_i k' hk hs
      obtain ⟨rfl, rfl⟩ := Prod.mk.inj (Option.some.inj hop)
      obtain ⟨d, hd⟩ := tIs_eq hs
      refine Done.pure (v := .int k' (k'.wrap n)) ?_ (by simp [VR])
      simp [convert, run_underlying hd, run_underlying (tInt_eq hk), Conv.intToInt]
    · cases hop
  · rename_i s hn
    rw [hn] at hx
    obtain rfl := VR_str hx
    split at hop
    · rename_i h1 h2 h3
      split at hop
      · rename_i hsz
        obtain ⟨rfl, rfl⟩ := Prod.mk.inj (Option.some.inj hop)
        obtain ⟨el, he, hi⟩ := Option.bind_eq_some_iff.1 h2
        have hs1 := tStr_eq h1
        have ht := tElem_eq he
        have hu8 := tInt_eq hi
        have hge : s.size ≤ grownCap w s.size 0 el := grownCap_ge w s.size 0 el
        have hrel : VRL F ι w0 (byteCells s) (s.data.toList.map fun b => Value.int .u8 b.toNat) := by
          unfold byteCells
          generalize s.data.toList = l
          induction l with
          | nil => simp [VRL_nil]
          | cons b l ih => exact VRL_cons.2 ⟨_, _, rfl, by simp [VR], ih⟩
        refine ⟨.slice (some ⟨w.heap.size, 0, none⟩) s.size (grownCap w s.size 0 el),
          { w with drawn := w.drawn + 1, heap := w.heap.push (.cells (s.data.map (fun b : UInt8 => Value.int .u8 b.toNat) ++ Array.replicate (grownCap w s.size 0 el - s.size) (Value.int .u8 0)) el (grownCap w s.size 0 el, grownCap w s.size 0 el + 1)) }, _, ?_, ?_,
          Eff.alloc (b := ⟨1, byteCells s, true, true⟩) (room := grownCap w s.size 0 el) (vs := s.data.toList.map fun b => Value.int .u8 b.toNat) (rest := List.replicate (grownCap w s.size 0 el - s.size) (Value.int .u8 0)) (hnew (by simp [AEff.app])) ?_ rfl (fun h => by cases h) hrel ?_ ?_ rfl rfl rfl⟩
        · simp only [convert, Sem.run_bind, run_underlying hs1, run_underlying ht, Result.andThen_ok, run_underlying hu8]
          exact stringToBytes_run el s w
        · simp only [VR]
          exact Or.inl ⟨⟨w.heap.size, grownCap w s.size 0 el⟩, grownCap w s.size 0 el, 0, by unfold Inj.set; rw [if_pos rfl], rfl, by omega, hge, Or.inr rfl, fun _ => Nat.le_refl _⟩
        · simp only [Array.size_append, Array.size_map, Array.size_replicate, Nat.mul_one]
          have : s.data.size = s.size := rfl
          omega
        · intro u hu
          obtain ⟨b, _, rfl⟩ := List.mem_map.1 hu
          rfl
        · simp
      · cases hop
    · cases hop
  · split at hop
    · rename_i n0 cs0 h1 h2 h3
      split at hop
      · rename_i bs hbs
        obtain ⟨rfl, rfl⟩ := Prod.mk.inj (Option.some.inj hop)
        obtain ⟨el, he, hi⟩ := Option.bind_eq_some_iff.1 h2
        have hs1 := tStr_eq h1
        have ht := tElem_eq he
        have hu8 := tInt_eq hi
        obtain ⟨us, hu⟩ := cells_sound h3 hx hF hbr
        obtain ⟨ns, g1, g2⟩ := bytes_rel hbs hu.rel
        subst g1 g2
        have hlen := hu.len
        have hread := hu.read _ w (Nat.le_refl _) rfl
        rw [Nat.mul_one, List.take_of_length_le (by omega)] at hread
        refine Done.pure (v := .string ⟨(ns.map fun n => UInt8.ofNat n.toNat).toArray⟩) ?_ (by simp [VR])
        obtain ⟨b, c, rfl⟩ := hu.isS
        simp only [convert, Sem.run_bind, run_underlying hs1, run_underlying ht, Result.andThen_ok, run_underlying hu8, Conv.bytesToString]
        cases b with
        | none =>
          simp only [Builtin.firstCells, Sem.run_pure] at hread
          injection hread with h5
          have : ns = [] := by
            have := congrArg Array.size h5
            simp at this
            exact List.eq_nil_of_length_eq_zero this.symm
          subst this
          rfl
        | some ad =>
          have hr : (loadCells ad n0).run P w = .ok (ns.map fun n => Value.int .u8 n).toArray w := by simpa [Builtin.firstCells] using hread
          simp only [Sem.run_bind, hr, Result.andThen_ok]
          rw [← Array.forIn_toList]
          rw [bytes_loop (P := P) _ (fun n r => rfl) ns ByteArray.empty w]
          simp
      · cases hop
    · cases hop

theorem runv {s : Sem Value} {v : Value} {w w' : World} (h : s.run P w = .ok v w') : (do pure (.value (← s)) : Sem Next).run P w = .ok (.value v) w' := by
  simp [h]

theorem map_one {ys : List Operand} {x : AV} (h : ys.map ρ = [x]) : ∃ y, ys = [y] ∧ x = ρ y := by
  cases ys with
  | nil => simp at h
  | cons y ys =>
    cases ys with
    | nil => simp at h; exact ⟨y, rfl, h.symm⟩
    | cons _ _ => simp at h
theorem map_two {ys : List Operand} {x x' : AV} (h : ys.map ρ = [x, x']) : ∃ y y', ys = [y, y'] ∧ x = ρ y ∧ x' = ρ y' := by
  cases ys with
  | nil => simp at h
  | cons y ys =>
    cases ys with
    | nil => simp at h
    | cons y' ys =>
      cases ys with
      | nil => simp at h; exact ⟨y, y', rfl, h.1.symm, h.2.symm⟩
      | cons _ _ => simp at h

/-- THE LAW: what the machine tells of an operation is what the model's operation does. -/
theorem aop_sound {o : Oper} {x : AV} {e : AEff} (hop : aop P ρ H o.op = some (x, e)) (hρ : ∀ y, VR F ι w0 (ρ y) (a.eval y)) (hF : ∀ c, F c → w.heap[c]? = w0.heap[c]?)
    (hbr : ∀ id b e, id ∈ afoot ρ o.op → H[id]? = some b → b.live = true → ι id = some e → BRo F ι w0 b e w) (hnew : (e.app H).length ≠ H.length → ι H.length = none) :
    Done P F w0 w ι H (OpRun P a o) x e := by
  obtain ⟨dst, op, type, pos, after, guard⟩ := o
  simp only at hop hbr
  have lift : ∀ {s : Sem Value} {x : AV} {e : AEff}, Done P F w0 w ι H (fun w v w' => s.run P w = .ok v w') x e → execOp a.eval ⟨dst, op, type, pos, after, guard⟩ = (do pure (.value (← s)) : Sem Next) → Done P F w0 w ι H (OpRun P a ⟨dst, op, type, pos, after, guard⟩) x e := by
    rintro s x e ⟨v, w', ι', h1, h2, h3⟩ hs
    exact ⟨v, w', ι', Or.inl (by rw [hs]; exact runv h1), h2, h3⟩
  have pur : ∀ {s : Sem Value} {x : AV}, (∃ u, s.run P w = .ok u w ∧ VR F ι w0 x u) → execOp a.eval ⟨dst, op, type, pos, after, guard⟩ = (do pure (.value (← s)) : Sem Next) → Done P F w0 w ι H (OpRun P a ⟨dst, op, type, pos, after, guard⟩) x .nil := by
    rintro s x ⟨u, h1, h2⟩ hs
    exact Done.pure (v := u) (Or.inl (by rw [hs]; exact runv h1)) h2
  cases op with
  | move y =>
    simp only [aop, Option.some.injEq, Prod.mk.injEq] at hop
    obtain ⟨rfl, rfl⟩ := hop
    exact Done.pure (v := a.eval y) (Or.inl rfl) (hρ y)
  | assign y =>
    simp only [aop, Option.some.injEq, Prod.mk.injEq] at hop
    obtain ⟨rfl, rfl⟩ := hop
    exact Done.pure (v := a.eval y) (Or.inl rfl) (hρ y)
  | pick c y z =>
    simp only [aop] at hop
    split at hop
    · rename_i t ht
      obtain ⟨rfl, rfl⟩ := Prod.mk.inj (Option.some.inj hop)
      have hc := hρ c
      rw [ht] at hc
      refine Done.pure (v := if t = true then a.eval y else a.eval z) (Or.inl ?_) ?_
      · simp [execOp, VR_bool hc, asBool]
      · split <;> exact hρ _
    · cases hop
  | alloc t =>
    simp only [aop] at hop
    split at hop
    · rename_i z n hz hn
      split at hop
      · rename_i hl
        obtain ⟨rfl, rfl⟩ := Prod.mk.inj (Option.some.inj hop)
        exact lift (alloc_sound hz hl (hnew (by simp [AEff.app]))) rfl
      · cases hop
    · cases hop
  | box t y =>
    simp only [aop] at hop
    split at hop
    · rename_i cs hcs
      obtain ⟨rfl, rfl⟩ := Prod.mk.inj (Option.some.inj hop)
      obtain ⟨h1, h2⟩ := (hρ y).cells hcs
      exact lift (newVar_sound (t := t) h1 h2 (hnew (by simp [AEff.app]))) rfl
    · cases hop
  | build t ps =>
    simp only [aop] at hop
    split at hop
    · rename_i z ht hz
      split at hop
      · rename_i cs hcs
        obtain ⟨rfl, rfl⟩ := Prod.mk.inj (Option.some.inj hop)
        obtain ⟨v, h1, h2⟩ := build_sound (w := w) ht hz hcs hρ
        refine pur ⟨v, ?_, h2⟩ rfl
        have : (ps.map fun p => (p.1, a.eval p.2)) = (ps.toList.map fun p => (p.1, a.eval p.2)).toArray := by apply Array.ext'; simp
        rw [this]
        exact h1
      · cases hop
    · cases hop
  | buildSlice t n ps =>
    simp only [aop] at hop
    split at hop
    · rename_i sz z hs hz
      obtain ⟨el, he, hs⟩ := Option.bind_eq_some_iff.1 hs
      obtain ⟨el2, he2, hz⟩ := Option.bind_eq_some_iff.1 hz
      rw [he] at he2
      obtain rfl := Option.some.inj he2
      split at hop
      · rename_i h0
        obtain ⟨rfl, rfl⟩ := h0
        obtain ⟨rfl, rfl⟩ := Prod.mk.inj (Option.some.inj hop)
        refine ⟨.slice (some ⟨w.heap.size, 0, none⟩) 0 0, w.alloc (.cells #[] el), ι, Or.inl ?_, by simp [VR], ?_⟩
        · simp [execOp, Instr.buildSlice, run_underlying (tElem_eq he), tSize_run hs, Instr.fill, newRow]
          congr 2
          exact Array.eq_empty_of_size_eq_zero (by simp)
        · have h := Eff.refl F w0 ι H w
          refine ⟨h.len, h.le, h.old, fun id h1 h2 => absurd h2 (by simp [AEff.app]; omega), fun id c h1 h2 => absurd h2 (by simp [AEff.app]; omega), fun id id' c c' h1 h2 => absurd h2 (by simp [AEff.app]; omega), fun id b e hid => by simp [AEff.wr] at hid, fun _ _ _ => rfl, fun c hc _ => ?_, rfl, rfl, rfl, by simp⟩
          exact heap_alloc_old w _ c hc
      · rename_i hn0
        split at hop
        · rename_i hcd
          split at hop
          · rename_i cs hcs
            obtain ⟨rfl, rfl⟩ := Prod.mk.inj (Option.some.inj hop)
            obtain ⟨q1, q2, q3, q4⟩ := hcd
            have hn : ¬ n = 0 := by
              rintro rfl
              exact hn0 ⟨rfl, Array.eq_empty_of_size_eq_zero q1⟩
            obtain ⟨v, w', ι', h1, h2, h3⟩ := buildSlice_sound (w := w) he hs hz (by simpa using q1) q2 q3 q4 hn hcs hρ (hnew (by simp [AEff.app]))
            refine ⟨v, w', ι', Or.inl ?_, h2, h3⟩
            have : (ps.map fun p => (p.1, a.eval p.2)) = (ps.toList.map fun p => (p.1, a.eval p.2)).toArray := by apply Array.ext'; simp
            show ((do pure (.value (← Instr.buildSlice t n (ps.map fun p => (p.1, a.eval p.2)))) : Sem Next)).run P w = _
            rw [this]
            exact runv h1
          · cases hop
        · cases hop
    · cases hop
  | load t y =>
    simp only [aop] at hop
    obtain ⟨x', hx', h⟩ := Option.map_eq_some_iff.1 hop
    obtain ⟨rfl, rfl⟩ := Prod.mk.inj h
    unfold aLoad at hx'
    split at hx'
    · rename_i id off hy
      split at hx'
      · rename_i b hb
        split at hx'
        · rename_i hlive
          have hv := hρ y
          rw [hy] at hv
          simp only [VR] at hv
          obtain ⟨c, h1, h2⟩ := hv
          obtain ⟨vs, h3, h4⟩ := BR.cellsAt (hbr id b (some c) (by simp [afoot, hy, AV.ids]) hb hlive h1)
          obtain ⟨v, h5, h6⟩ := load_sound (P := P) hx' (h3.drop off) (h4.drop off)
          refine pur ⟨v, ?_, h6⟩ rfl
          rw [h2]
          simpa [Instr.loadAt, Instr.sureAddr] using h5
        · cases hx'
      · cases hx'
    · rename_i cs hy
      have hv := hρ y
      rw [hy] at hv
      simp only [VR] at hv
      obtain ⟨c, off, vs, h1, h2, h3, h4⟩ := hv
      obtain ⟨v, h5, h6⟩ := load_sound (P := P) hx' h4 (h3.world (hF c h2))
      refine pur ⟨v, ?_, h6⟩ rfl
      rw [h1]
      simpa [Instr.loadAt, Instr.sureAddr] using h5
    · cases hx'
  | store t y z =>
    simp only [aop] at hop
    obtain ⟨e', he', h⟩ := Option.map_eq_some_iff.1 hop
    obtain ⟨rfl, rfl⟩ := Prod.mk.inj h
    unfold aStore at he'
    split at he'
    case h_2 => cases he'
    rename_i id off hy
    split at he'
    case h_2 => cases he'
    rename_i b cs n hb hcs hn
    split at he'
    case isFalse => cases he'
    rename_i hcd
    obtain rfl := Option.some.inj he'
    obtain ⟨q1, q2, q3, q4⟩ := hcd
    have hv := hρ y
    rw [hy] at hv
    simp only [VR] at hv
    obtain ⟨c, h1, h2⟩ := hv
    have hBR : BR F ι w0 b c w := hbr id b (some c) (by simp [afoot, hy, AV.ids]) hb q1 h1
    obtain ⟨g1, g2⟩ := (hρ z).cells hcs
    obtain ⟨w', r1, r2, r3, r4, r5, r6, r7⟩ := write_row (P := P) (off := off) hBR q2 g1 g2 (by omega)
    refine ⟨undef, w', ι, Or.inr ⟨?_, rfl⟩, by simp [VR], Eff.write (List.getElem?_eq_some_iff.1 hb).1 h1 r2 r3 r4 r5 r6 r7⟩
    have hl : (a.eval z).cells.size = n := by rw [← q3, g1.length]; simp
    simp [execOp, h2, Instr.storeAt, Instr.sureAddr, storeVar, tSize_run hn, hl, r1]
  | nilCheck y =>
    simp only [aop] at hop
    split at hop
    · rename_i id off hy
      obtain ⟨rfl, rfl⟩ := Prod.mk.inj (Option.some.inj hop)
      have hv := hρ y
      rw [hy] at hv
      refine Done.pure (v := a.eval y) (Or.inl ?_) hv
      simp only [VR] at hv
      obtain ⟨c, h1, h2⟩ := hv
      simp [execOp, h2]
    · rename_i cs hy
      obtain ⟨rfl, rfl⟩ := Prod.mk.inj (Option.some.inj hop)
      have hv := hρ y
      rw [hy] at hv
      refine Done.pure (v := a.eval y) (Or.inl ?_) hv
      simp only [VR] at hv
      obtain ⟨c, off, vs, h1, h2⟩ := hv
      simp [execOp, h1]
    · cases hop
  | binOp op t y z t' =>
    simp only [aop] at hop
    split at hop
    · rename_i hg
      obtain ⟨x', hx', h⟩ := Option.map_eq_some_iff.1 hop
      obtain ⟨rfl, rfl⟩ := Prod.mk.inj h
      exact pur (bin_sound hx' hg (hρ y) (hρ z)) rfl
    · cases hop
  | unOp op t y =>
    simp only [aop] at hop
    obtain ⟨x', hx', h⟩ := Option.map_eq_some_iff.1 hop
    obtain ⟨rfl, rfl⟩ := Prod.mk.inj h
    exact pur (un_sound hx' (hρ y)) rfl
  | convert src dst' y => exact lift (convert_sound (x := x) hop (hρ y) hF hbr hnew) rfl
  | makeFunc f first cap =>
    cases f with
    | func f =>
      simp only [aop, Option.some.injEq, Prod.mk.injEq] at hop
      obtain ⟨rfl, rfl⟩ := hop
      refine pur ⟨.func (.func f) (first.map a.eval) (cap.map a.eval), rfl, ?_⟩ rfl
      simp only [VR]
      exact ⟨_, _, rfl, by simpa using VRL_map hρ, by simpa using VRL_map hρ⟩
    | _ => simp [aop] at hop
  | makeSlice t l c => exact lift (make_sound hop (hρ l) (hρ c) hnew) rfl
  | slice t y lo hi mx =>
    simp only [aop] at hop
    obtain ⟨x', hx', h⟩ := Option.map_eq_some_iff.1 hop
    obtain ⟨rfl, rfl⟩ := Prod.mk.inj h
    exact pur (slice_sound hx' (hρ y) (VRO_map hρ) (VRO_map hρ) (VRO_map hρ)) rfl
  | fieldAddr s y f =>
    simp only [aop] at hop
    obtain ⟨x', hx', h⟩ := Option.map_eq_some_iff.1 hop
    obtain ⟨rfl, rfl⟩ := Prod.mk.inj h
    exact pur (fieldAddr_sound hx' (hρ y)) rfl
  | field s y f =>
    simp only [aop] at hop
    obtain ⟨x', hx', h⟩ := Option.map_eq_some_iff.1 hop
    obtain ⟨rfl, rfl⟩ := Prod.mk.inj h
    exact pur (field_sound hx' (hρ y)) rfl
  | indexAddr t y i =>
    simp only [aop] at hop
    obtain ⟨x', hx', h⟩ := Option.map_eq_some_iff.1 hop
    obtain ⟨rfl, rfl⟩ := Prod.mk.inj h
    exact pur (indexAddr_sound hx' (hρ y) (hρ i)) rfl
  | index t y i =>
    simp only [aop] at hop
    obtain ⟨x', hx', h⟩ := Option.map_eq_some_iff.1 hop
    obtain ⟨rfl, rfl⟩ := Prod.mk.inj h
    exact pur (index_sound hx' (hρ y) (hρ i)) rfl
  | extract y i =>
    simp only [aop] at hop
    split at hop
    · rename_i vs hy
      obtain ⟨x', hx', h⟩ := Option.map_eq_some_iff.1 hop
      obtain ⟨rfl, rfl⟩ := Prod.mk.inj h
      have hv := hρ y
      rw [hy] at hv
      simp only [VR] at hv
      obtain ⟨us, h1, h2⟩ := hv
      obtain ⟨u, h3, h4⟩ := h2.get i x' hx'
      refine pur ⟨u, ?_, h4⟩ rfl
      have : us[i]? = some u := by simpa using h3
      simp [Instr.extract, h1, this]
    · cases hop
  | call c =>
    obtain ⟨callee, args, argTypes⟩ := c
    cases callee with
    | value f => simp [aop] at hop
    | invoke r m => simp [aop] at hop
    | builtin b =>
      simp only [aop] at hop
      obtain ⟨args⟩ := args
      obtain ⟨ts⟩ := argTypes
      have hft : ∀ id, id ∈ afoot ρ (.call ⟨.builtin b, ⟨args⟩, ⟨ts⟩⟩) ↔ ∃ y ∈ args, id ∈ (ρ y).ids := by
        intro id
        simp [afoot]
      cases b
      case len =>
        simp only [aBuiltin] at hop
        split at hop
        · rename_i x' t hxs
          obtain ⟨x'', h1, h2⟩ := Option.map_eq_some_iff.1 hop
          obtain ⟨rfl, rfl⟩ := Prod.mk.inj h2
          obtain ⟨y, rfl, rfl⟩ := map_one hxs
          exact pur (len_sound (ty := type) h1 (hρ y)) (by simp [execOp, resolve, invoke, builtin])
        · cases hop
      case cap =>
        simp only [aBuiltin] at hop
        split at hop
        · rename_i x' t hxs
          obtain ⟨x'', h1, h2⟩ := Option.map_eq_some_iff.1 hop
          obtain ⟨rfl, rfl⟩ := Prod.mk.inj h2
          obtain ⟨y, rfl, rfl⟩ := map_one hxs
          exact pur (cap_sound (ty := type) h1 (hρ y)) (by simp [execOp, resolve, invoke, builtin])
        · cases hop
      case append =>
        simp only [aBuiltin] at hop
        split at hop
        · rename_i s' x' t t' hxs
          obtain ⟨y, z, rfl, rfl, rfl⟩ := map_two hxs
          exact lift (append_sound (ty := type) hop (hρ y) (hρ z) hF (fun id b e hid => hbr id b e (by
            rw [hft]
            rcases hid with h | h
            · exact ⟨z, by simp, h⟩
            · exact ⟨y, by simp, h⟩)) hnew) (by simp [execOp, resolve, invoke, builtin])
        · cases hop
      case copy =>
        simp only [aBuiltin] at hop
        split at hop
        · rename_i s' x' t t' hxs
          obtain ⟨y, z, rfl, rfl, rfl⟩ := map_two hxs
          exact lift (copy_sound (ty := type) hop (hρ y) (hρ z) hF (fun id b e hid => hbr id b e (by
            rw [hft]
            rcases hid with h | h
            · exact ⟨z, by simp, h⟩
            · exact ⟨y, by simp, h⟩))) (by simp [execOp, resolve, invoke, builtin])
        · cases hop
      case clear =>
        simp only [aBuiltin] at hop
        split at hop
        · rename_i x' t hxs
          obtain ⟨x'', h1, h2⟩ := Option.map_eq_some_iff.1 hop
          obtain ⟨rfl, rfl⟩ := Prod.mk.inj h2
          obtain ⟨y, rfl, rfl⟩ := map_one hxs
          exact lift (clear_sound (ty := type) h1 (hρ y) (fun id b e hid => hbr id b e (by rw [hft]; exact ⟨y, by simp, hid⟩))) (by simp [execOp, resolve, invoke, builtin])
        · cases hop
      case min =>
        simp only [aBuiltin] at hop
        split at hop
        · rename_i k p k' q hxs
          split at hop
          · rename_i hk
            subst hk
            obtain ⟨rfl, rfl⟩ := Prod.mk.inj (Option.some.inj hop)
            obtain ⟨y, z, rfl, hy, hz⟩ := map_two hxs
            have h1 := hρ y
            have h2 := hρ z
            rw [← hy] at h1
            rw [← hz] at h2
            refine pur (s := Builtin.min_ ⟨ts⟩ type #[a.eval y, a.eval z]) ⟨.int k (if q < p then q else p), ?_, by simp [VR]⟩ (by simp [execOp, resolve, invoke, builtin])
            rw [VR_int h1, VR_int h2]
            simp [Builtin.min_, Builtin.min2]
          · cases hop
        · cases hop
      case max =>
        simp only [aBuiltin] at hop
        split at hop
        · rename_i k p k' q hxs
          split at hop
          · rename_i hk
            subst hk
            obtain ⟨rfl, rfl⟩ := Prod.mk.inj (Option.some.inj hop)
            obtain ⟨y, z, rfl, hy, hz⟩ := map_two hxs
            have h1 := hρ y
            have h2 := hρ z
            rw [← hy] at h1
            rw [← hz] at h2
            refine pur (s := Builtin.max_ ⟨ts⟩ type #[a.eval y, a.eval z]) ⟨.int k (if q > p then q else p), ?_, by simp [VR]⟩ (by simp [execOp, resolve, invoke, builtin])
            rw [VR_int h1, VR_int h2]
            simp [Builtin.max_, Builtin.max2]
          · cases hop
        · cases hop
      all_goals (simp [aBuiltin] at hop)
  | _ => simp [aop] at hop
end
end Go.Proofs.Ytgddflnhibhacaa.AM
