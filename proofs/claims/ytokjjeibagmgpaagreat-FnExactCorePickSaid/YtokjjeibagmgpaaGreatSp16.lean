/- Working, by what happens. No conditions. -/
import Derived.Test.YtokjjeibagmgpaaGreatSp15
set_option linter.unusedVariables false
set_option linter.unusedSimpArgs false
namespace Go.Proofs.YtokjjeibagmgpaaGreat.AM
open Go

section
variable {c : Cor} {i : Int} {x : Ins} {pc a b : Word}
theorem at_load (h : x.op = 10) : memAt c i x a b = found c i a (wadd a.n x.n) := by rw [memAt, if_pos h]
theorem at_store (h : ¬ x.op = 10) (h1 : x.op = 11) : memAt c i x a b = (noWord, writeT c.s.mem a (wadd a.n x.n) b) := by rw [memAt, if_neg h, if_pos h1]
theorem at_none (h : ¬ x.op = 10) (h1 : ¬ x.op = 11) : memAt c i x a b = (noWord, 0) := by rw [memAt, if_neg h, if_neg h1]
theorem fxAt_trap (h : ¬ (memAt c i x a b).2 = 0) : fxAt c i x pc a b = fxTrap (memAt c i x a b).2 pc := by rw [fxAt, if_pos h]
theorem fxAt_go (h : (memAt c i x a b).2 = 0) : fxAt c i x pc a b = work x pc a b (memAt c i x a b).1 := by rw [fxAt, if_neg (fun g => g h)]
theorem ready_parts (h : ready c i = true) : corOk c = true ∧ inR i 0 (c.rob.length - 1) = true ∧ (c.rob.getD i.toNat noEnt).done = false := by
  by_cases h0 : corOk c = true ∧ inR i 0 (c.rob.length - 1) = true ∧ (c.rob.getD i.toNat noEnt).done = false
  · exact h0
  · rw [ready_no h0] at h; cases h
theorem do_no (h : corOk c = false) : do_ c i = (noCor, false) := by rw [do_, if_pos h]
theorem do_idle (h : corOk c = true) (hr : ready c i = false) : do_ c i = (c, false) := by rw [do_, if_neg (by rw [h]; exact Bool.noConfusion), if_pos hr]
theorem do_on (h : corOk c = true) (hr : ready c i = true) : do_ c i = (doE c i.toNat (c.rob.getD i.toNat noEnt) (doneBy c i (c.rob.getD i.toNat noEnt)), true) := by
  rw [do_, if_neg (by rw [h]; exact Bool.noConfusion), if_neg (by rw [hr]; exact Bool.noConfusion)]
variable {e : Fx} {n : Nat} {y : Ent}
theorem doE_trap (h : ¬ e.trap = 0) : doE c n y e = withRob c ((c.rob.set n ⟨y.pc, y.x, true, e, y.guess⟩).take (n + 1)) c.next true := by rw [doE, if_pos h]
theorem doE_turn (h : e.trap = 0) (h1 : ¬ e.next = y.guess) : doE c n y e = withRob c ((c.rob.set n ⟨y.pc, y.x, true, e, y.guess⟩).take (n + 1)) e.next false := by rw [doE, if_neg (fun g => g h), if_pos h1]
theorem doE_go (h : e.trap = 0) (h1 : e.next = y.guess) : doE c n y e = withRob c (c.rob.set n ⟨y.pc, y.x, true, e, y.guess⟩) c.next c.stop := by rw [doE, if_neg (fun g => g h), if_neg (fun g => g h1)]
theorem doE_fit (h : c.fit) : (doE c n y e).fit := by
  unfold doE
  have := h.2.1
  split
  · exact ⟨h.1, by simp [withRob]; omega, h.2.2⟩
  · split
    · exact ⟨h.1, by simp [withRob]; omega, h.2.2⟩
    · exact ⟨h.1, by simp [withRob]; omega, h.2.2⟩
theorem do_fit (h : c.fit) : (do_ c i).1.fit := by
  unfold do_
  split
  · exact noCor_fit
  · split
    · exact h
    · exact doE_fit h
end
/-- An entry in a block is marked as done; its effect is laid in. -/
theorem put_cell {xs : List Ent} {i j : Nat} {v : AV} {y : Ent} (h : i < xs.length) (hj : j < 40) (hy : (Ent.cells (xs.getD i noEnt)).set j v = Ent.cells y) : putAt (rows xs) (i * 40 + j) [v] = rows (xs.set i y) := by
  have h1 : rows xs = rows (xs.take i) ++ rows (xs.drop i) := by rw [← rows_append, List.take_append_drop]
  have h2 : (rows (xs.take i)).length = i * 40 := by rw [ents_len, List.length_take, Nat.min_eq_left (by omega)]
  have h3 : rows (xs.drop i) = Ent.cells (xs.getD i noEnt) ++ rows (xs.drop (i + 1)) := rows_split h
  have h5 : putAt (Ent.cells (xs.getD i noEnt) ++ rows (xs.drop (i + 1))) j [v] = Ent.cells y ++ rows (xs.drop (i + 1)) := by
    rw [← hy, List.set_eq_take_append_cons_drop, if_pos (by rw [entc_len]; exact hj)]
    unfold putAt
    rw [List.take_append_of_le_length (by rw [entc_len]; omega), List.length_singleton, List.drop_append_of_le_length (by rw [entc_len]; omega)]
    simp
  rw [h1, putAt_app h2, h3, h5, List.set_eq_take_append_cons_drop, if_pos h, rows_append, rows_cons]
  rfl
end Go.Proofs.YtokjjeibagmgpaaGreat.AM
