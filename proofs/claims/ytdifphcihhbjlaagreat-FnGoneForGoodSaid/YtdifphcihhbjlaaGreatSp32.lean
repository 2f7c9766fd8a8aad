/- What is gone stays gone. No conditions. -/
import Derived.Test.YtdifphcihhbjlaaGreatM7
set_option linter.unusedVariables false
set_option linter.unusedSimpArgs false
namespace Go.Proofs.YtdifphcihhbjlaaGreat.AM
open Go

section
variable {l : List Ins} {c d : Cor} {s : Stt} {x y z : Ent} {p : Pik} {ps : List Pik} {n r i : Int} {k m t j : Nat} {w N : Int}
/-! ### what is gone stays gone -/
theorem set_true {xs : List Bool} {a b : Nat} (h : xs.getD b false = true) : (xs.set a true).getD b false = true := by
  by_cases e : a = b
  · subst e
    have : a < xs.length := by
      by_cases g : a < xs.length
      · exact g
      · rw [List.getD_eq_getElem?_getD, List.getElem?_eq_none (by omega)] at h; cases h
    simp [this]
  · rw [List.getD_eq_getElem?_getD, List.getElem?_set_ne e, ← List.getD_eq_getElem?_getD]; exact h
theorem gone_step {b : Nat} (hs : sttOk s = true) (h : s.mem.gone.getD b false = true) : (step l s).mem.gone.getD b false = true := by
  unfold step
  rw [if_neg (by rw [hs]; exact Bool.noConfusion)]
  split
  · exact h
  · split
    · exact h
    · show (if inR (fxOf l s).drop 0 23 = true then s.mem.gone.set (fxOf l s).drop.toNat true else s.mem.gone).getD b false = true
      split
      · exact set_true h
      · exact h
theorem gone_ord {b : Nat} : ∀ (n : Nat) {s : Stt} {k : Int}, sttOk s = true → s.mem.gone.getD b false = true → (ordGo l n s k).1.mem.gone.getD b false = true ∧ sttOk (ordGo l n s k).1 = true
  | 0, _, _, hs, h => ⟨h, hs⟩
  | n + 1, s, k, hs, h => by
    rw [ordGo]
    split
    · exact gone_ord n (step_ok hs) (gone_step hs h)
    · exact ⟨h, hs⟩
theorem drop_ok {m : Mem} (h : memOk m = true) : memOk (dropM m n) = true := by
  unfold dropM
  rw [if_pos h]
  split
  · exact mem_gone h
  · exact h
theorem drop_gone {m : Mem} (h : memOk m = true) (hn : inR n 0 23 = true) : (dropM m n).gone.getD n.toNat false = true := by
  have h24 := (memOk_iff.1 h).2.1
  have := inR_iff.1 hn
  rw [dropM, if_pos h, if_pos hn]
  have : n.toNat < m.gone.length := by omega
  simp [this]
theorem root_try {i : Int} (h : 0 ≤ i ∧ i < 4096) : tryW (keyWord ⟨0, 4096, 63, 0⟩ 0) i 1 = 0 := by
  have hw : wordOk (keyWord ⟨0, 4096, 63, 0⟩ 0) = true := keyWord_ok
  have hk : keyWord ⟨0, 4096, 63, 0⟩ 0 = ⟨0, true, ⟨0, 4096, 63, 0⟩⟩ := by decide
  rw [tryW, hw, hk]
  rw [if_neg (by simp), if_neg (by simp), if_neg (by decide), if_neg (by simp only; omega)]
theorem gone_read {m : Mem} {b i : Int} (h : memOk m = true) (hb : inR b 0 23 = true) (hg : m.gone.getD b.toNat false = true) (hi : 0 ≤ i ∧ i < 24) :
    (read m (keyWord ⟨0, 4096, 63, 0⟩ 0) i).2 = 0 ∧ ¬ ((read m (keyWord ⟨0, 4096, 63, 0⟩ 0) i).1.is = true ∧ (read m (keyWord ⟨0, 4096, 63, 0⟩ 0) i).1.key.base = b) := by
  have hm := memOk_iff.1 h
  have hb2 := inR_iff.1 hb
  have ht : readT m (keyWord ⟨0, 4096, 63, 0⟩ 0) i = 0 := by
    rw [readT, root_try (by omega), if_pos rfl, if_pos (inR_iff.2 (by omega))]
  rw [read_ok ht]
  refine ⟨rfl, ?_⟩
  generalize taken (keyWord ⟨0, 4096, 63, 0⟩ 0) (m.words.getD i.toNat noWord) = u
  rintro ⟨g1, g2⟩
  unfold filt at g1 g2
  split at g1
  · cases g1
  · rename_i g3
    rw [if_neg g3] at g2
    exact g3 ⟨g1, inR_iff.2 (by simp only at g2; omega), by simp only at g2; rw [g2]; exact hg⟩
end
end Go.Proofs.YtdifphcihhbjlaaGreat.AM
