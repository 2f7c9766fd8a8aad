/- The abstract machine: a stretch whose order is drawn is sound. No conditions. -/
import Derived.Test.YtgddflnhibhacaaAmE
set_option linter.unusedVariables false
set_option linter.unusedSimpArgs false
namespace Go.Proofs.Ytgddflnhibhacaa.AM
open Go

section
variable {P : Program} {F : Nat → Prop} {ι ι' ι0 : Inj} {w0 w w' : World} {M D : Nat → Prop} {H H' : Heap} {k n : Nat} {ρ : Env} {a : Act}

/-- The states in the order of the text. -/
theorem awpD_chain {ops : Array Oper} {K : Env → Heap → Prop} : ∀ (l : List Oper) (acc : List Foot) (ρ : Env) (H : Heap), awpD P ops K l acc ρ H →
    ∃ (E : Nat → Env) (G : Nat → Heap) (X : Nat → AV) (W R : Nat → List Nat), E 0 = ρ ∧ G 0 = H ∧ (∀ j o, l[j]? = some o → SStep P ops o (E j) (G j) (X j) (G (j + 1)) (W j) (R j) ∧ E (j + 1) = updO (E j) o.dst (X j)) ∧
      (∃ A, dOk ops (acc.reverse ++ (List.range l.length).map fun j => ⟨(G j).length, (G (j + 1)).length, W j, R j⟩) A = true) ∧ K (E l.length) (G l.length)
  | [], acc, ρ, H, h => ⟨fun _ => ρ, fun _ => H, fun _ => .any, fun _ => [], fun _ => [], rfl, rfl, fun j o h => by simp at h, by simpa using h.1, h.2⟩
  | o :: rest, acc, ρ, H, h => by
    have key : ∃ x H' W R, SStep P ops o ρ H x H' W R ∧ awpD P ops K rest (⟨H.length, H'.length, W, R⟩ :: acc) (updO ρ o.dst x) H' := by
      simp only [awpD] at h
      split at h
      · exact h.elim
      · rename_i hg
        exact ⟨_, _, _, _, .skip hg, h⟩
      · rename_i hg
        split at h
        · rename_i f args hc
          split at h
          · rename_i g first cap hf
            obtain ⟨m, v, h', Hb, hC, hk⟩ := h
            exact ⟨_, _, _, _, .call hg hc hf hC, hk⟩
          · exact h.elim
        · rename_i hc
          split at h
          · rename_i x e hx
            exact ⟨_, _, _, _, .op hg hc hx, h⟩
          · exact h.elim
    obtain ⟨x, H', W0, R0, hs, hr⟩ := key
    obtain ⟨E, G, X, W, R, h1, h2, h3, h4, h5⟩ := awpD_chain rest _ _ _ hr
    refine ⟨fun j => match j with | 0 => ρ | j + 1 => E j, fun j => match j with | 0 => H | j + 1 => G j, fun j => match j with | 0 => x | j + 1 => X j, fun j => match j with | 0 => W0 | j + 1 => W j, fun j => match j with | 0 => R0 | j + 1 => R j, rfl, rfl, ?_, ?_, ?_⟩
    · intro j oj hj
      cases j with
      | zero =>
        simp at hj
        subst hj
        simp only [h1, h2]
        exact ⟨hs, trivial⟩
      | succ j => exact h3 j oj (by simpa using hj)
    · rw [List.length_cons, List.range_succ_eq_map, List.map_cons, List.map_map]
      simp only [List.reverse_cons, List.append_assoc, List.singleton_append] at h4
      simp only [h2]
      exact h4
    · simpa using h5

/-- THE LAW OF A DRAWN STRETCH. -/
theorem awpD_sound {ops : Array Oper} {K : Env → Heap → Prop} {Q : Exit → Act → World → Prop} (hFS : FS F w0 M) (hQ : ∀ ρ' H' ι' a' w', K ρ' H' → St F w0 M k ι0 n ι' ρ' H' a' w' → Q .normal a' w')
    (hd : ∀ o, o ∈ ops → ∀ d, o.dst = some d → d < n) (hS : St F w0 M k ι0 n ι ρ H a w) (h : awpD P ops K ops.toList [] ρ H) : wpAny P .any ops Q ops.size (Array.replicate ops.size false) a w := by
  obtain ⟨E, G, X, W, R, hE0, hG0, hch, ⟨A, hok⟩, hK⟩ := awpD_chain _ _ _ _ h
  simp only [List.reverse_nil, List.nil_append, Array.length_toList] at hok hK
  have hch : ∀ j o, ops[j]? = some o → SStep P ops o (E j) (G j) (X j) (G (j + 1)) (W j) (R j) ∧ E (j + 1) = updO (E j) o.dst (X j) := fun j o hj => hch j o (by simpa using hj)
  have hop : ∀ j, j < ops.size → ∃ oj, ops[j]? = some oj := fun j hj => ⟨ops[j], Array.getElem?_eq_getElem hj⟩
  have hop' : ∀ (j : Nat) o, ops[j]? = some o → j < ops.size := fun j o h => (Array.getElem?_eq_some_iff.1 h).1
  -- what the check says
  have hacyc : ∀ j o e, ops[j]? = some o → e ∈ o.after → Region.binds .any e = true → e.on < j := by
    intro j o e hj he hb
    have := List.all_eq_true.1 hok j (List.mem_range.2 (hop' j o hj))
    rw [hj, Bool.and_eq_true, Bool.and_eq_true] at this
    have := List.all_eq_true.1 this.1.1 e (by simpa using he)
    simpa [hb] using this
  have hclash : ∀ i j oi oj, i < j → ops[i]? = some oi → ops[j]? = some oj → (A.getD j 0).testBit i = true ∨
      (oi.apart ops oj = true ∧ (∀ r, r ∈ R j → ¬ (r ∈ W i ∨ ((G i).length ≤ r ∧ r < (G (i + 1)).length))) ∧ ∀ r, r ∈ W j → r ∉ R i) := by
    intro i j oi oj hij hi hj
    have h1 := List.all_eq_true.1 hok j (List.mem_range.2 (hop' j oj hj))
    rw [hj, Bool.and_eq_true] at h1
    have h2 := List.all_eq_true.1 h1.2 i (List.mem_range.2 hij)
    rw [Bool.or_eq_true] at h2
    rcases h2.symm with h2 | h2
    · right
      have fg : ∀ m, m < ops.size → (List.map (fun j => (⟨(G j).length, (G (j + 1)).length, W j, R j⟩ : Foot)) (List.range ops.size))[m]? = some ⟨(G m).length, (G (m + 1)).length, W m, R m⟩ := by
        intro m hm
        rw [List.getElem?_map, List.getElem?_range hm]
        rfl
      simp only [clashB, hi, hj, fg i (hop' i oi hi), fg j (hop' j oj hj), Bool.not_eq_true', Bool.or_eq_false_iff, Bool.not_eq_false', List.any_eq_false] at h2
      refine ⟨h2.1.1, fun r hr hw => ?_, fun r hr hm => ?_⟩
      · have := h2.1.2 r hr
        simp only [Bool.or_eq_true, Bool.and_eq_true, decide_eq_true_eq, List.contains_iff_mem] at this
        exact this hw
      · have := h2.2 r hr
        rw [List.contains_iff_mem] at this
        exact this hm
    · exact Or.inl h2
  -- the invariant
  let dst : Nat → Option Tmp := fun j => (ops[j]?).bind (·.dst)
  have hstep : ∀ j o, ops[j]? = some o → SStep P ops o (E j) (G j) (X j) (G (j + 1)) (W j) (R j) := fun j o hj => (hch j o hj).1
  have hE : ∀ j, j < ops.size → E (j + 1) = updO (E j) (dst j) (X j) := by
    intro j hj
    obtain ⟨oj, hoj⟩ := hop j hj
    show E (j + 1) = updO (E j) ((ops[j]?).bind (·.dst)) (X j)
    rw [hoj]
    exact (hch j oj hoj).2
  have hG : ∀ j, j < ops.size → (G j).length ≤ (G (j + 1)).length ∧ (∀ id, id < (G j).length → id ∉ W j → (G (j + 1))[id]? = (G j)[id]?) := by
    intro j hj
    obtain ⟨oj, hoj⟩ := hop j hj
    have := (hstep j oj hoj).facts
    exact ⟨this.1, this.2.1⟩
  have main : ∀ (fuel : Nat) (L : List Nat) (listed : Array Bool) (ι : Inj) (a : Act) (w : World), L.length ≤ fuel → listed.size = ops.size → (∀ j, j < ops.size → listed.getD j false = false → j ∈ L) →
      (∀ j o e, ops[j]? = some o → e ∈ o.after → Region.binds .any e = true → listed.getD j false = true → listed.getD e.on false = true) →
      Inv F w0 M k ι0 n dst X (E 0) G W ops.size (fun j => listed.getD j false) ι a w → wpAny P .any ops Q fuel listed a w := by
    intro fuel
    have allDone : ∀ (listed : Array Bool) (ι : Inj) (a : Act) (w : World), listed.size = ops.size → Region.ready .any ops listed = [] → Inv F w0 M k ι0 n dst X (E 0) G W ops.size (fun j => listed.getD j false) ι a w → Q .normal a w := by
      intro listed ι a w hls hr hI
      have hall : ∀ j, j < ops.size → listed.getD j false = true := by
        intro j
        induction j using Nat.strongRecOn with
        | _ j ih =>
          intro hj
          cases hs : listed.getD j false with
          | true => rfl
          | false =>
            obtain ⟨oj, hoj⟩ := hop j hj
            have : j ∈ Region.ready .any ops listed := by
              refine mem_ready.2 ⟨?_, oj, hoj, fun e he hb => ?_⟩
              · rw [Array.getD_eq_getD_getElem?] at hs ⊢
                rw [Array.getElem?_eq_getElem (by omega)] at hs ⊢
                exact hs
              · have := hacyc j oj e hoj he hb
                exact ih e.on this (by omega)
            rw [hr] at this
            cases this
      refine hQ (E ops.size) (G ops.size) ι a w hK ?_
      have hce : ∀ t, CE dst X (E 0) (fun j => listed.getD j false) ops.size t = E ops.size t := fun t => CE_at hE ops.size (Nat.le_refl _) fun j hj _ => hall j hj
      have hcl : CHL G W ops.size (fun j => listed.getD j false) = G ops.size := by
        apply List.ext_getElem?
        intro id
        by_cases hid : id < (G ops.size).length
        · rw [CHL_get (b := (G ops.size)[id]) (by rw [CH_at hG ops.size (Nat.le_refl _) fun j hj _ => hall j hj, List.getElem?_eq_getElem hid]) hid, List.getElem?_eq_getElem hid]
        · rw [List.getElem?_eq_none (by simpa [CHL] using hid), List.getElem?_eq_none (by omega)]
      have hcr : ∀ id, crt G ops.size (fun j => listed.getD j false) id ↔ id < (G ops.size).length := by
        intro id
        constructor
        · rintro (h1 | ⟨j, hj, _, h1, h2⟩)
          · have := G_mono hG (i := 0) ops.size (by omega) (Nat.le_refl _)
            omega
          · have := G_mono hG (i := j + 1) ops.size (by omega) (Nat.le_refl _)
            omega
        · have : ∀ m, m ≤ ops.size → id < (G m).length → crt G ops.size (fun j => listed.getD j false) id := by
            intro m
            induction m with
            | zero => intro _ h; exact Or.inl h
            | succ m ih =>
              intro hm h
              by_cases hmm : id < (G m).length
              · exact ih (by omega) hmm
              · exact Or.inr ⟨m, by omega, hall m (by omega), by omega, h⟩
          exact this ops.size (Nat.le_refl _)
      refine ⟨hI.defers, hI.size, fun t => ?_, ?_, fun id hid => hI.cr id ((hcr id).2 hid), fun id hid => hI.nw id fun h => ?_, hI.ws, hI.par, ?_⟩
      · have := hI.env t
        rw [hce] at this
        exact this
      · have := hI.hs
        rw [hcl] at this
        exact this.weaken fun id hid => (hcr id).2 hid
      · have := (hcr id).1 h
        omega
      · have := G_mono hG (i := 0) ops.size (by omega) (Nat.le_refl _)
        rw [hG0] at this
        exact Nat.le_trans hS.kle this
    induction fuel with
    | zero =>
      intro L listed ι a w hL hls hun hcl hI
      have hr : Region.ready .any ops listed = [] := by
        rw [List.eq_nil_iff_forall_not_mem]
        intro j hj
        obtain ⟨h1, oj, hoj, _⟩ := mem_ready.1 hj
        have hlt := hop' j oj hoj
        have : j ∈ L := hun j hlt (by
          rw [Array.getD_eq_getD_getElem?] at h1 ⊢
          rw [Array.getElem?_eq_getElem (by omega)] at h1 ⊢
          exact h1)
        rw [List.eq_nil_of_length_eq_zero (Nat.le_zero.1 hL)] at this
        cases this
      exact ⟨hr, allDone listed ι a w hls hr hI⟩
    | succ fuel ih =>
      intro L listed ι a w hL hls hun hcl hI
      refine ⟨fun hr => allDone listed ι a w hls hr hI, fun i hi => ?_⟩
      obtain ⟨hi1, oi, hoi, hi2⟩ := mem_ready.1 hi
      have hlt := hop' i oi hoi
      have hSi : listed.getD i false = false := by
        rw [Array.getD_eq_getD_getElem?] at hi1 ⊢
        rw [Array.getElem?_eq_getElem (by omega)] at hi1 ⊢
        exact hi1
      have hS' : ∀ j, (listed.setIfInBounds i true).getD j false = if j = i then true else listed.getD j false := by
        intro j
        by_cases he : j = i
        · subst he
          rw [if_pos rfl, Array.getD_eq_getD_getElem?, Array.getElem?_setIfInBounds_self_of_lt (by omega)]
          rfl
        · rw [if_neg he]
          exact getD_set_ne false (fun e => he e.symm)
      have hcl' : ∀ j o e, ops[j]? = some o → e ∈ o.after → Region.binds .any e = true → (listed.setIfInBounds i true).getD j false = true → (listed.setIfInBounds i true).getD e.on false = true := by
        intro j o e hj he hb hs
        rw [hS'] at hs
        by_cases hji : j = i
        · subst hji
          rw [hoi] at hj
          obtain rfl := Option.some.inj hj
          exact getD_set_true (hi2 e he hb)
        · rw [if_neg hji] at hs
          exact getD_set_true (hcl j o e hj he hb hs)
      unfold wpOp
      rw [hoi]
      have hst := Inv.step (P := P) (ops := ops) (S' := fun j => (listed.setIfInBounds i true).getD j false) (KC := wpAny P .any ops Q fuel (listed.setIfInBounds i true)) (Q := Q) hFS rfl (fun j => rfl) hstep hE (by rw [hG0]; exact hS.kle) (hd oi (Array.mem_of_getElem? hoi)) hoi hSi hS' ?_ ?_ hI ?_
      · simp only
        split at hst
        · rename_i hw
          rw [if_pos hw]
          exact Or.inl hst
        · rename_i hw
          rw [if_neg hw]
          exact hst
      · intro j oj hj hoj hs
        rcases hclash j i oj oi hj hoj hoi with h1 | h1
        · have := ancT_closed hok (S := fun j => (listed.setIfInBounds i true).getD j false = true) (fun j o e h1 h2 h3 h4 => hcl' j o e h1 h2 h3 h4) _ _ (by assumption) h1 (by rw [hS', if_pos rfl])
          rw [hS', if_neg (by omega), hs] at this
          cases this
        · exact ⟨h1.1, h1.2.1⟩
      · intro j oj hj hoj hs
        rcases hclash i j oi oj hj hoi hoj with h1 | h1
        · have := ancT_closed hok (S := fun j => listed.getD j false = true) (fun j o e h1 h2 h3 h4 => hcl j o e h1 h2 h3 h4) _ _ (hop' _ _ (by assumption)) h1 hs
          rw [hSi] at this
          cases this
        · exact h1
      · intro a' w' ι' hI'
        refine ih (L.erase i) (listed.setIfInBounds i true) ι' a' w' ?_ (by simpa using hls) ?_ hcl' hI'
        · rw [List.length_erase_of_mem (hun i hlt hSi)]
          omega
        · intro j hj hs
          rw [hS'] at hs
          by_cases he : j = i
          · rw [if_pos he] at hs; cases hs
          · rw [if_neg he] at hs
            exact (List.mem_erase_of_ne he).2 (hun j hj hs)
  refine main ops.size (List.range ops.size) _ ι a w (by simp) (by simp) (fun j hj _ => List.mem_range.2 hj) ?_ ?_
  · intro j o e _ _ _ h
    rw [Array.getD_eq_getD_getElem?, Array.getElem?_replicate] at h
    split at h <;> simp at h
  · have hS0 : ∀ j, (Array.replicate ops.size false).getD j false = false := by
      intro j
      rw [Array.getD_eq_getD_getElem?, Array.getElem?_replicate]
      split <;> rfl
    have hce : ∀ m, CE dst X (E 0) (fun j => (Array.replicate ops.size false).getD j false) m = E 0 := by
      intro m
      induction m with
      | zero => rfl
      | succ m ih =>
        simp only [CE]
        rw [if_neg (by rw [hS0]; simp)]
        exact ih
    have hchh : ∀ m id, CH G W (fun j => (Array.replicate ops.size false).getD j false) m id = (G 0)[id]? := by
      intro m id
      induction m with
      | zero => rfl
      | succ m ih =>
        simp only [CH]
        rw [if_neg (by rw [hS0]; simp)]
        exact ih
    have hcr : ∀ id, crt G ops.size (fun j => (Array.replicate ops.size false).getD j false) id ↔ id < H.length := by
      intro id
      rw [← hG0]
      constructor
      · rintro (h1 | ⟨j, _, hs, _⟩)
        · exact h1
        · simp only [hS0] at hs
          cases hs
      · exact Or.inl
    have hm := G_mono hG (i := 0) ops.size (by omega) (Nat.le_refl _)
    refine ⟨hS.defers, hS.size, fun t => ?_, ?_, fun id hid => hS.cr id ((hcr id).1 hid), fun id hid => hS.nw id (Nat.le_of_not_lt fun h => hid ((hcr id).2 h)), hS.ws, hS.par⟩
    · rw [hce, hE0]
      exact hS.env t
    · refine (hS.hs.weaken fun id hid => (hcr id).1 hid).congr fun id hid => ?_
      have hlt := (hcr id).1 hid
      rw [List.getElem?_eq_getElem hlt]
      refine CHL_get ?_ (by rw [hG0] at hm; omega)
      rw [hchh, hG0, List.getElem?_eq_getElem hlt]

theorem St.drawn {w2 : World} (h : St F w0 M k ι0 n ι ρ H a w) (h1 : w2.heap = w.heap) (h2 : w2.os = w.os) (h3 : w2.tape = w.tape) (h4 : w2.output = w.output) : St F w0 M k ι0 n ι ρ H a w2 := by
  refine ⟨h.defers, h.size, h.env, ⟨?_, h.hs.inj, h.hs.own⟩, h.cr, h.nw, ⟨?_, ?_, ?_, ?_, ?_⟩, h.par, h.kle⟩
  · intro id b e hd hb hl he
    exact (h.hs.br id b e hd hb hl he).mono (Inj.le_refl _) fun c _ => by rw [h1]
  · intro c hc hm; rw [h1]; exact h.ws.agree c hc hm
  · rw [h2]; exact h.ws.os
  · rw [h3]; exact h.ws.tape
  · rw [h4]; exact h.ws.out
  · rw [h1]; exact h.ws.size
end
end Go.Proofs.Ytgddflnhibhacaa.AM
