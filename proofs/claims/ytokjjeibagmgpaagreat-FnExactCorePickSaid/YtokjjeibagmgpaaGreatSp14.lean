/- Fetching and committing, by what happens. No conditions. -/
import Derived.Test.YtokjjeibagmgpaaGreatSp13
set_option linter.unusedVariables false
set_option linter.unusedSimpArgs false
namespace Go.Proofs.YtokjjeibagmgpaaGreat.AM
open Go

section
variable {l : List Ins} {c : Cor}
theorem pull_no (h : corOk c = false) : pull l c = (noCor, false) := by rw [pull, if_pos h]
theorem pull_idle (h : corOk c = true) (h1 : c.stop = true ∨ c.rob.length = 6 ∨ c.s.trap ≠ 0) : pull l c = (c, false) := by rw [pull, if_neg (by rw [h]; exact Bool.noConfusion), if_pos h1]
theorem pull_trap (h : corOk c = true) (h1 : ¬ (c.stop = true ∨ c.rob.length = 6 ∨ c.s.trap ≠ 0)) (h2 : ¬ (fetch l c.next).2 = 0) :
    pull l c = (withRob c (c.rob ++ [⟨c.next, noIns, true, fxTrap (fetch l c.next).2 c.next, c.next⟩]) c.next true, true) := by
  rw [pull, if_neg (by rw [h]; exact Bool.noConfusion), if_neg h1, if_pos h2]
theorem pull_go (h : corOk c = true) (h1 : ¬ (c.stop = true ∨ c.rob.length = 6 ∨ c.s.trap ≠ 0)) (h2 : (fetch l c.next).2 = 0) :
    pull l c = (withRob c (c.rob ++ [⟨c.next, (fetch l c.next).1, false, noFx, guess c.guesses c.next⟩]) (guess c.guesses c.next) c.stop, true) := by
  rw [pull, if_neg (by rw [h]; exact Bool.noConfusion), if_neg h1, if_neg (fun g => g h2)]
theorem noCor_fit : noCor.fit := ⟨noStt_fit, Nat.zero_le _, Nat.zero_le _⟩
theorem pull_fit (h : c.fit) : (pull l c).1.fit := by
  by_cases hc : corOk c = true
  · have h6 := (corOk_parts hc).2.2.1
    by_cases h1 : c.stop = true ∨ c.rob.length = 6 ∨ c.s.trap ≠ 0
    · rw [pull_idle hc h1]; exact h
    · by_cases h2 : (fetch l c.next).2 = 0
      · rw [pull_go hc h1 h2]
        exact ⟨h.1, by simp [withRob]; omega, h.2.2⟩
      · rw [pull_trap hc h1 h2]
        exact ⟨h.1, by simp [withRob]; omega, h.2.2⟩
  · rw [pull_no (by simpa using hc)]
    exact noCor_fit
theorem commit_no (h : corOk c = false) : commit c = (noCor, false) := by rw [commit, if_pos h]
theorem commit_idle (h : corOk c = true) (h1 : c.rob = [] ∨ (c.rob.getD 0 noEnt).done = false ∨ c.s.trap ≠ 0) : commit c = (c, false) := by rw [commit, if_neg (by rw [h]; exact Bool.noConfusion), if_pos h1]
theorem commit_on (h : corOk c = true) (h1 : ¬ (c.rob = [] ∨ (c.rob.getD 0 noEnt).done = false ∨ c.s.trap ≠ 0)) : commit c = (commitE c (c.rob.getD 0 noEnt), true) := by rw [commit, if_neg (by rw [h]; exact Bool.noConfusion), if_neg h1]
theorem commitE_trap {x : Ent} (h : ¬ x.e.trap = 0) : commitE c x = ⟨⟨c.s.regs, x.pc, c.s.mem, x.e.trap⟩, [], c.next, true, c.guesses⟩ := by rw [commitE, if_pos h]
theorem commitE_drop {x : Ent} (h : x.e.trap = 0) (h1 : 0 ≤ x.e.drop) : commitE c x = ⟨applyFx c.s x.e, [], x.e.next, false, learn c.guesses x.pc x.e.next⟩ := by rw [commitE, if_neg (fun g => g h), if_pos h1]
theorem commitE_go {x : Ent} (h : x.e.trap = 0) (h1 : ¬ 0 ≤ x.e.drop) : commitE c x = ⟨applyFx c.s x.e, c.rob.drop 1, c.next, c.stop, learn c.guesses x.pc x.e.next⟩ := by rw [commitE, if_neg (fun g => g h), if_neg h1]
theorem commitE_fit {x : Ent} (h : c.fit) : (commitE c x).fit := by
  unfold commitE
  split
  · exact ⟨⟨h.1.1, h.1.2⟩, Nat.zero_le _, h.2.2⟩
  · split
    · exact ⟨apply_fit h.1, Nat.zero_le _, by rw [learn_len]; exact h.2.2⟩
    · exact ⟨apply_fit h.1, by have := h.2.1; simp; omega, by rw [learn_len]; exact h.2.2⟩
theorem commit_fit (h : c.fit) : (commit c).1.fit := by
  unfold commit
  split
  · exact noCor_fit
  · split
    · exact h
    · exact commitE_fit h
theorem nil_len {α : Type} {xs : List α} : ((xs.length : Int) = 0) = (xs = []) := by
  rw [eq_iff_iff]
  cases xs <;> simp
  omega
end
theorem ents_one {x : Ent} : rows [x] = Ent.cells x := rows_one
end Go.Proofs.YtokjjeibagmgpaaGreat.AM
