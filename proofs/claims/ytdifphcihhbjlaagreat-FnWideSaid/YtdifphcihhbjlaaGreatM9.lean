/- What settling comes to; out of order. No conditions. -/
import Derived.Test.YtdifphcihhbjlaaGreatM8
set_option linter.unusedVariables false
set_option linter.unusedSimpArgs false
namespace Go.Proofs.YtdifphcihhbjlaaGreat.AM
open Go

section
variable {l : List Ins} {c d : Cor} {s : Stt} {x y z : Ent} {p : Pik} {ps : List Pik} {n r i : Int} {k m t j : Nat} {w N : Int}
/-! ### settling -/
def First (c : Cor) : Prop := 0 < c.rob.length ∧ (c.rob.getD 0 noEnt).done = true
theorem do_first (h : corOk c = true) (h0 : 0 < c.rob.length) : First (do_ c ((0 : Nat) : Int)).1 := by
  cases hd : (c.rob.getD 0 noEnt).done with
  | true =>
    have : ready c ((0 : Nat) : Int) = false := ready_no (fun g => by have g2 : (c.rob.getD 0 noEnt).done = false := g.2.2; rw [hd] at g2; cases g2)
    rw [do_idle h this]
    exact ⟨h0, hd⟩
  | false =>
    have hv : ∀ r, (valueRaw c ((0 : Nat) : Int) r).2 = true := fun r => by
      rw [raw_reg]
      have := src_lt c.rob 0 r
      simpa using this
    have hr : ready c ((0 : Nat) : Int) = true := by
      rw [ready_eq (i := ((0 : Nat) : Int)) ⟨h, inR_iff.2 (by omega), hd⟩, hv, hv]
      simp
    rw [do_on h hr]
    show First (doE c 0 _ _)
    unfold doE
    have hg : ∀ v : Ent, (c.rob.set 0 v).getD 0 noEnt = v := fun v => by simp [h0]
    have hg1 : ∀ v : Ent, ((c.rob.set 0 v).take 1).getD 0 noEnt = v := fun v => by
      rw [List.getD_eq_getElem?_getD, List.getElem?_take_of_lt (by omega), ← List.getD_eq_getElem?_getD, hg]
    split
    · exact ⟨by simp [withRob]; omega, by simp only [withRob, hg1]⟩
    · split
      · exact ⟨by simp [withRob]; omega, by simp only [withRob, hg1]⟩
      · exact ⟨by simpa [withRob] using h0, by simp only [withRob, hg]⟩
theorem do_keep (h : corOk c = true) (h1 : First c) : First (do_ c i).1 := by
  by_cases hr : ready c i = true
  · obtain ⟨g1, g2, g3⟩ := ready_parts hr
    obtain ⟨m, rfl, hm⟩ := pick_idx g2
    rw [do_on h hr, Int.toNat_natCast]
    rw [Int.toNat_natCast] at g3
    have hm0 : ¬ m = 0 := fun e => by rw [e, h1.2] at g3; cases g3
    have hg : ∀ v : Ent, (c.rob.set m v).getD 0 noEnt = c.rob.getD 0 noEnt := fun v => by
      rw [List.getD_eq_getElem?_getD, List.getElem?_set_ne hm0, ← List.getD_eq_getElem?_getD]
    have hg1 : ∀ v : Ent, ((c.rob.set m v).take (m + 1)).getD 0 noEnt = c.rob.getD 0 noEnt := fun v => by
      rw [List.getD_eq_getElem?_getD, List.getElem?_take_of_lt (by omega), ← List.getD_eq_getElem?_getD, hg]
    unfold doE
    split
    · exact ⟨by simp [withRob]; omega, by simp only [withRob, hg1]; exact h1.2⟩
    · split
      · exact ⟨by simp [withRob]; omega, by simp only [withRob, hg1]; exact h1.2⟩
      · exact ⟨by simpa [withRob] using h1.1, by simp only [withRob, hg]; exact h1.2⟩
  · rw [do_idle h (by simpa using hr)]; exact h1
theorem all_inv : ∀ (n : Nat) {i : Nat} {c : Cor}, CInv l c → CInv l (doAll n i c) ∧ (doAll n i c).s = c.s
  | 0, _, _, h => ⟨h, rfl⟩
  | n + 1, i, c, h => by
    rw [doAll]
    split
    · have := all_inv n (i := i + 1) (do_inv (i := (i : Int)) h)
      exact ⟨this.1, this.2.trans (do_s h.ok)⟩
    · exact ⟨h, rfl⟩
theorem all_keep : ∀ (n : Nat) {i : Nat} {c : Cor}, CInv l c → First c → First (doAll n i c)
  | 0, _, _, _, h1 => h1
  | n + 1, i, c, h, h1 => by
    rw [doAll]
    split
    · exact all_keep n (do_inv (i := (i : Int)) h) (do_keep h.ok h1)
    · exact h1
theorem all_first (h : CInv l c) (h0 : 0 < c.rob.length) : First (doAll (k + 1) 0 c) := by
  rw [doAll, if_pos h0]
  exact all_keep _ (do_inv (i := ((0 : Nat) : Int)) h) (do_first h.ok h0)
theorem commit_less (h : CInv l c) (h1 : First c) : (commit c).2 = true ∧ (commit c).1.rob.length < c.rob.length := by
  have htr := (inv_first h h1.1 h1.2).1
  have hn : ¬ (c.rob = [] ∨ (c.rob.getD 0 noEnt).done = false ∨ c.s.trap ≠ 0) := by
    rintro (g | g | g)
    · have := h1.1; rw [g] at this; cases this
    · rw [h1.2] at g; cases g
    · exact g htr
  rw [commit_on h.ok hn]
  refine ⟨rfl, ?_⟩
  have := h1.1
  show (commitE c (c.rob.getD 0 noEnt)).rob.length < _
  unfold commitE
  split
  · exact this
  · split
    · exact this
    · simp; omega
theorem set_inv : ∀ (n : Nat) {c : Cor} {m : Int}, CInv l c → ∃ j : Nat, (settleGo n c m).2 = m + j ∧ CInv l (settleGo n c m).1 ∧ (settleGo n c m).1.s = stepN l j c.s ∧ clear l c.s j ∧ (c.rob.length ≤ n → (settleGo n c m).1.rob = []) ∧ j ≤ c.rob.length ∧ (0 < n → 0 < c.rob.length → 1 ≤ j)
  | 0, c, m, h => ⟨0, by simp [settleGo], h, rfl, clear_zero, fun g => List.eq_nil_of_length_eq_zero (Nat.eq_zero_of_le_zero g), Nat.zero_le _, fun g => absurd g (Nat.lt_irrefl _)⟩
  | n + 1, c, m, h => by
    by_cases hr : c.rob = []
    · rw [settleGo, if_pos hr]
      exact ⟨0, by simp, h, rfl, clear_zero, fun _ => hr, Nat.zero_le _, fun _ g => by rw [hr] at g; cases g⟩
    · have h0 : 0 < c.rob.length := Nat.pos_of_ne_zero fun g => hr (List.eq_nil_of_length_eq_zero g)
      have ha : CInv l (doAll 7 0 c) ∧ (doAll 7 0 c).s = c.s := all_inv 7 h
      have hf : First (doAll 7 0 c) := all_first (k := 6) h h0
      have hlen : (doAll 7 0 c).rob.length ≤ c.rob.length := all_len 7
      rw [settleGo, if_neg hr]
      generalize doAll 7 0 c = u at ha hf hlen ⊢
      have hc := commit_less ha.1 hf
      have hs := commit_step ha.1 hc.1
      have hi := commit_inv ha.1
      rw [if_pos hc.1]
      obtain ⟨j, j1, j2, j3, j4, j5, j6, _⟩ := set_inv n (m := m + 1) hi
      rw [hs.2, ha.2] at j3 j4
      refine ⟨j + 1, ?_, j2, j3, clear_succ (by rw [← ha.2]; exact hs.1) j4, fun g => j5 (by omega), by omega, fun _ _ => by omega⟩
      rw [j1]
      omega
theorem settle_inv (h : CInv l c) : ∃ j : Nat, (settle c).2 = j ∧ CInv l (settle c).1 ∧ (settle c).1.s = stepN l j c.s ∧ clear l c.s j ∧ (settle c).1.rob = [] ∧ j ≤ c.rob.length ∧ (0 < c.rob.length → 1 ≤ j) := by
  rw [settle_go h.ok]
  obtain ⟨j, j1, j2, j3, j4, j5, j6, j7⟩ := set_inv 600 (m := 0) h
  have := (corOk_iff.1 h.ok).2.2.1
  exact ⟨j, by rw [j1]; omega, j2, j3, j4, j5 (by omega), j6, j7 (by omega)⟩
theorem run_more (h : sttOk s = true) (hp : ps.length ≤ 590) : (settle (corRun l s ps).1).1.rob = [] ∧ (0 ≤ (settle (corRun l s ps).1).2 ∧ (settle (corRun l s ps).1).2 ≤ 6) ∧ (settle (corRun l s ps).1).1.s = run l s ((corRun l s ps).2 ++ List.replicate (settle (corRun l s ps).1).2.toNat (-1)) := by
  have hk := kept_run (l := l) (ps := ps) h (by omega)
  have hl : (corRun l s ps).2.length ≤ ps.length := by
    rw [runC_go (fun g => g.elim (fun g => by omega) (fun g => by rw [h] at g; cases g))]
    have := fold_lenC (l := l) ps (x := (corNew s, []))
    simpa using this
  obtain ⟨j, j1, j2, j3, j4, j5, j6, _⟩ := settle_inv hk.1
  have h6 := (corOk_iff.1 hk.1.ok).2.2.1
  refine ⟨j5, by omega, ?_⟩
  rw [j1, Int.toNat_natCast, j3, run_go h (by rw [List.length_append, List.length_replicate]; omega), List.foldl_append, fold_rep, ← hk.2]

/-! ### out of order -/
theorem pull_len (h : corOk c = true) : c.rob.length ≤ (pull l c).1.rob.length ∧ (pull l c).1.rob.length ≤ c.rob.length + 1 := by
  by_cases h1 : c.stop = true ∨ c.rob.length = 6 ∨ c.s.trap ≠ 0
  · rw [pull_idle h h1]; exact ⟨Nat.le_refl _, Nat.le_succ _⟩
  · by_cases h2 : (fetch l c.next).2 = 0
    · rw [pull_go h h1 h2]; simp [withRob]
    · rw [pull_trap h h1 h2]; simp [withRob]
theorem pull_one (h : CInv l c) (hr : c.rob = []) (ht : c.s.trap = 0) : 1 ≤ (pull l c).1.rob.length := by
  have h1 : ¬ (c.stop = true ∨ c.rob.length = 6 ∨ c.s.trap ≠ 0) := by
    rintro (g | g | g)
    · have := (h.stp ht g).1; rw [hr] at this; cases this
    · rw [hr] at g; cases g
    · exact g ht
  by_cases h2 : (fetch l c.next).2 = 0
  · rw [pull_go h.ok h1 h2]; simp [withRob]
  · rw [pull_trap h.ok h1 h2]; simp [withRob]
theorem pulls_inv : ∀ (n : Nat) {c : Cor}, CInv l c → CInv l (pulls l n c) ∧ (pulls l n c).s = c.s ∧ c.rob.length ≤ (pulls l n c).rob.length ∧ (pulls l n c).rob.length ≤ c.rob.length + n
  | 0, _, h => ⟨h, rfl, Nat.le_refl _, Nat.le_refl _⟩
  | n + 1, c, h => by
    have h1 := pull_len (l := l) h.ok
    have h2 := pull_s (l := l) h.ok
    obtain ⟨a, b, e, f⟩ := pulls_inv n (pull_inv h)
    rw [pulls]
    exact ⟨a, b.trans h2, by omega, by omega⟩
theorem out_inv {W : Nat} (hW : 1 ≤ W) : ∀ (n : Nat) {c : Cor} {m : Int}, CInv l c → c.rob = [] → ∃ j : Nat, (outGo l W n c m).2 = m + j ∧ (outGo l W n c m).1.s = stepN l j c.s ∧ clear l c.s j ∧ (n ≤ j ∨ ¬ (outGo l W n c m).1.s.trap = 0) ∧ (W = 1 → j ≤ n)
  | 0, c, m, h, hr => ⟨0, by simp [outGo], rfl, clear_zero, Or.inl (Nat.le_refl _), fun _ => Nat.le_refl _⟩
  | n + 1, c, m, h, hr => by
    by_cases ht : c.s.trap = 0
    · rw [outGo, if_pos ht]
      obtain ⟨V, rfl⟩ : ∃ V, W = V + 1 := ⟨W - 1, by omega⟩
      have hp1 := pull_one h hr ht
      have hu := pulls_inv (l := l) (V + 1) h
      have hu1 := (pulls_inv (l := l) V (pull_inv h)).2.2.1
      have hu2 : 1 ≤ (pulls l (V + 1) c).rob.length := Nat.le_trans hp1 hu1
      rw [hr] at hu
      generalize pulls l (V + 1) c = u at hu hu2 ⊢
      obtain ⟨a, a1, a2, a3, a4, a5, a6, a7⟩ := settle_inv hu.1
      obtain ⟨b, b1, b2, b3, b4, b5⟩ := out_inv hW n (m := m + (settle u).2) a2 a5
      have a8 := a7 hu2
      have a9 := hu.2.2.2
      simp only [List.length_nil, Nat.zero_add] at a9
      refine ⟨a + b, by rw [b1, a1]; omega, ?_, ?_, ?_, ?_⟩
      · rw [b2, a3, ← stepN_add, hu.2.1]
      · rw [hu.2.1] at a4
        rw [a3, hu.2.1] at b3
        exact clear_add a4 b3
      · rcases b4 with g | g
        · exact Or.inl (by omega)
        · exact Or.inr g
      · intro g
        have := b5 g
        omega
    · rw [outGo, if_neg ht]
      exact ⟨0, by simp, rfl, clear_zero, Or.inr ht, fun _ => Nat.zero_le _⟩
theorem out_all (h : sttOk s = true) : ∃ j : Nat, (outOrder l s w N).2 = j ∧ (outOrder l s w N).1 = stepN l j s ∧ clear l s j ∧ ((min N 600).toNat ≤ j ∨ ¬ (outOrder l s w N).1.trap = 0) ∧ (widN w = 1 → j ≤ (min N 600).toNat) := by
  rw [outO_go h]
  have hr : (corNew s).rob = [] := by rw [corNew_go h]
  have hs : (corNew s).s = s := by rw [corNew_go h]
  obtain ⟨j, j1, j2, j3, j4, j5⟩ := out_inv (wid_eq (w := w)).2.1 (min N 600).toNat (m := 0) (inv_new (l := l) h) hr
  rw [hs] at j2 j3
  exact ⟨j, by rw [j1]; omega, j2, j3, j4, j5⟩
theorem agree_yes (h : sttOk s = true) : agree l s w N = true := by
  obtain ⟨j, j1, j2, j3, _⟩ := out_all (l := l) (w := w) (N := N) h
  rw [agree_go h, j1, Int.toNat_natCast, clear_ord j j3, j2]
  exact alike_refl
theorem wide_same (h : sttOk s = true) (ha : ¬ (outOrder l s 1 150).1.trap = 0) (hb : ¬ (outOrder l s 6 150).1.trap = 0) : (outOrder l s 1 150).2 = (outOrder l s 6 150).2 ∧ (outOrder l s 1 150).1 = (outOrder l s 6 150).1 := by
  obtain ⟨j, j1, j2, j3, _⟩ := out_all (l := l) (w := 1) (N := 150) h
  obtain ⟨k, k1, k2, k3, _⟩ := out_all (l := l) (w := 6) (N := 150) h
  rw [j2] at ha
  rw [k2] at hb
  have e1 : ¬ j < k := fun g => ha (k3 j g)
  have e2 : ¬ k < j := fun g => hb (j3 k g)
  obtain rfl : j = k := by omega
  exact ⟨j1.trans k1.symm, j2.trans k2.symm⟩
theorem wide_else (h : sttOk s = true) (hb : (outOrder l s 1 150).1.trap = 0 ∨ (outOrder l s 6 150).1.trap = 0) : (outOrder l s 1 150).1.trap = 0 ∧ (outOrder l s 1 150).2 ≤ 150 := by
  obtain ⟨j, j1, j2, j3, j4, j5⟩ := out_all (l := l) (w := 1) (N := 150) h
  obtain ⟨k, k1, k2, k3, k4, _⟩ := out_all (l := l) (w := 6) (N := 150) h
  have h150 : (min (150 : Int) 600).toNat = 150 := by decide
  rw [h150] at j4 j5 k4
  have h5 := j5 (by decide)
  refine ⟨?_, by omega⟩
  by_cases ha : (outOrder l s 1 150).1.trap = 0
  · exact ha
  · rcases hb with hb | hb
    · exact hb
    · exfalso
      have h6 : 150 ≤ k := k4.resolve_right (fun g => g hb)
      rw [j2] at ha
      rw [k2] at hb
      by_cases e : j < k
      · exact ha (k3 j e)
      · obtain rfl : j = k := by omega
        exact ha hb

end
end Go.Proofs.YtdifphcihhbjlaaGreat.AM
