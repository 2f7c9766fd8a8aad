/- Texts in pieces, step by step. No conditions. -/
import Derived.Test.YtgpjgljgplngpaaGreatDoorTx6
import Derived.Test.YtgpjgljgplngpaaGreatDoorTx4
import Derived.Lib.Bytealg
set_option linter.unusedVariables false
set_option linter.unusedSimpArgs false
namespace Go.Proofs.YtgpjgljgplngpaaGreatDoor.AM
open Go

theorem idxT_at {xs : List Bs} {w : Bs} {i : Nat} (h : i < xs.length) : idxT (xs.drop i) w i = if xs.getD i [] = w then (i : Int) else idxT (xs.drop (i + 1)) w (i + 1) := by
  rw [List.drop_eq_getElem_cons h, idxT]
  simp [h]
theorem idxT_end {xs : List Bs} {w : Bs} {i : Nat} (h : xs.length ≤ i) : idxT (xs.drop i) w i = -1 := by
  rw [List.drop_of_length_le h]
  rfl
theorem cutB_at {l : Bs} {c : UInt8} {m : Nat} (h : Lib.indexByte l c = (m : Int)) : m < l.length ∧ c ∉ l.take m ∧ l = l.take m ++ c :: l.drop (m + 1) := by
  have hc : cutB l c = (l.take m, l.drop (m + 1), true) := by rw [cutB, if_neg (by omega), h]; rfl
  have := cut_is (l := l) (c := c) (by rw [hc])
  rw [hc] at this
  have hl := index_lt (c := c) (l := l)
  exact ⟨by omega, this.1, this.2⟩
theorem splitB_at {l : Bs} {c : UInt8} {m : Nat} (h : Lib.indexByte l c = (m : Int)) : splitB c l = l.take m :: splitB c (l.drop (m + 1)) := by
  obtain ⟨_, h1, h2⟩ := cutB_at h
  conv => lhs; rw [h2]
  exact splitB_app h1
theorem index_neg {l : Bs} {c : UInt8} (h : Lib.indexByte l c < 0) : c ∉ l := by
  intro hm
  have : ∀ l : Bs, c ∈ l → 0 ≤ Lib.indexByte l c := by
    intro l
    induction l with
    | nil => intro h; cases h
    | cons b l ih =>
      intro h
      rw [Lib.indexByte]
      split
      · exact Int.le_refl _
      · rename_i hb
        rcases List.mem_cons.1 h with rfl | h
        · simp at hb
        · have := ih h
          split
          · rename_i e; simp at e; omega
          · omega
  have := this l hm
  omega
theorem splitB_len {c : UInt8} : ∀ {l : Bs}, (splitB c l).length = l.count c + 1
  | [] => rfl
  | b :: l => by
    have ih := splitB_len (c := c) (l := l)
    rw [splitB, List.count_cons]
    split
    · rename_i e
      simp [ih, e]
    · rename_i e
      have hne := splitB_ne (c := c) (l := l)
      split
      · rename_i h; exact absurd h hne
      · rename_i w ws h
        rw [h] at ih
        simp [e] at ih ⊢
        omega
theorem split_last {c : UInt8} {l : Bs} (h : (splitB c l).length = 1) : splitB c l = [l] := by
  rw [splitB_len] at h
  exact splitB_one (List.count_eq_zero.1 (by omega))
theorem split_more {c : UInt8} {l : Bs} (h : 1 < (splitB c l).length) : 0 ≤ Lib.indexByte l c := by
  rcases Int.lt_or_le (Lib.indexByte l c) 0 with g | g
  · rw [splitB_one (index_neg g)] at h
    simp at h
  · exact g
theorem strsV_rep {n : Nat} : (List.replicate n [AV.str (bt [])]).flatten = strsV (List.replicate n []) := by
  induction n with
  | zero => rfl
  | succ n ih => rw [List.replicate_succ, List.flatten_cons, ih]; rfl
theorem strsV_app {xs ys : List Bs} : strsV (xs ++ ys) = strsV xs ++ strsV ys := List.map_append
theorem put_strs {D : List Bs} {n : Nat} {x : Bs} (h : 0 < n) : putAt (strsV (D ++ List.replicate n [])) D.length [.str (bt x)] = strsV ((D ++ [x]) ++ List.replicate (n - 1) []) := by
  obtain ⟨m, rfl⟩ : ∃ m, n = m + 1 := ⟨n - 1, by omega⟩
  rw [List.replicate_succ, Nat.add_sub_cancel]
  simp only [strsV_app, strsV_cons, strsV_nil, putAt]
  rw [← strsV_len (xs := D), List.take_left' rfl]
  simp
end Go.Proofs.YtgpjgljgplngpaaGreatDoor.AM
