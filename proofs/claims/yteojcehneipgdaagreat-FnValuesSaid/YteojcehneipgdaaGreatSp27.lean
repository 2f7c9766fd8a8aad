/- What a commit comes to. No conditions. -/
import Derived.Test.YteojcehneipgdaaGreatSp26
set_option linter.unusedVariables false
set_option linter.unusedSimpArgs false
namespace Go.Proofs.YteojcehneipgdaaGreat.AM
open Go

section
variable {c : Cor} {l : List Ins} {xs : List Ent}
theorem ents_trap0 (h : 0 < xs.length) : ((rows xs).drop 12).head? = some (.int .i64 (xs.getD 0 noEnt).e.trap) := by rw [ents_first h]; rfl
theorem commit_same (h : corOk c = true) (h2 : (commit c).2 = false) : commit c = (c, false) := by
  by_cases h1 : c.rob = [] ∨ (c.rob.getD 0 noEnt).done = false ∨ c.s.trap ≠ 0
  · exact commit_idle h h1
  · rw [commit_on h h1] at h2; cases h2
theorem commit_yes (h : corOk c = true) (h2 : (commit c).2 = true) : 0 < c.rob.length ∧ (c.rob.getD 0 noEnt).done = true ∧ (commit c).1 = commitE c (c.rob.getD 0 noEnt) := by
  by_cases h1 : c.rob = [] ∨ (c.rob.getD 0 noEnt).done = false ∨ c.s.trap ≠ 0
  · rw [commit_idle h h1] at h2; cases h2
  · rw [commit_on h h1]
    refine ⟨Nat.pos_of_ne_zero fun g => h1 (Or.inl (List.eq_nil_of_length_eq_zero g)), ?_, rfl⟩
    cases hd : (c.rob.getD 0 noEnt).done with
    | true => rfl
    | false => exact absurd (Or.inr (Or.inl hd)) h1
theorem commit_rob (h : corOk c = true) (h2 : (commit c).2 = true) (h3 : ¬ ((commit c).1.rob.length : Int) = (c.rob.length : Int) - 1) : ((commit c).1.rob.length : Int) = 0 := by
  obtain ⟨g1, g2, g3⟩ := commit_yes h h2
  rw [g3] at h3 ⊢
  unfold commitE at h3 ⊢
  split
  · rfl
  · split
    · rfl
    · rename_i a b
      rw [if_neg a, if_neg b] at h3
      simp at h3
      omega
theorem commit_trap (h : corOk c = true) (h2 : (commit c).2 = true) (h3 : ¬ (c.rob.getD 0 noEnt).e.trap = 0) : (commit c).1.s.trap = (c.rob.getD 0 noEnt).e.trap ∧ (commit c).1.stop = true := by
  obtain ⟨g1, g2, g3⟩ := commit_yes h h2
  rw [g3, commitE_trap h3]
  exact ⟨rfl, rfl⟩
theorem pull_same (h : corOk c = true) (h2 : (pull l c).2 = false) : pull l c = (c, false) := by
  by_cases h1 : c.stop = true ∨ c.rob.length = 6 ∨ c.s.trap ≠ 0
  · exact pull_idle h h1
  · by_cases h3 : (fetch l c.next).2 = 0
    · rw [pull_go h h1 h3] at h2; cases h2
    · rw [pull_trap h h1 h3] at h2; cases h2
theorem pull_yes (h : corOk c = true) (h2 : (pull l c).2 = true) : ∃ x : Ent, (pull l c).1.rob = c.rob ++ [x] ∧ (pull l c).1.s = c.s ∧ x.pc = c.next ∧ (x.done = !decide (x.e.trap = 0)) := by
  by_cases h1 : c.stop = true ∨ c.rob.length = 6 ∨ c.s.trap ≠ 0
  · rw [pull_idle h h1] at h2; cases h2
  · by_cases h3 : (fetch l c.next).2 = 0
    · rw [pull_go h h1 h3]
      exact ⟨_, rfl, rfl, rfl, rfl⟩
    · rw [pull_trap h h1 h3]
      refine ⟨_, rfl, rfl, rfl, ?_⟩
      show true = !decide ((fetch l c.next).2 = 0)
      rw [decide_eq_false h3]; rfl
end
end Go.Proofs.YteojcehneipgdaaGreat.AM
