/- The first entry, and the rest. No conditions. -/
import Derived.Test.YtokjjeibagmgpaaGreatSp14
import Derived.Test.YtokjjeibagmgpaaGreatSp12
set_option linter.unusedVariables false
set_option linter.unusedSimpArgs false
namespace Go.Proofs.YtokjjeibagmgpaaGreat.AM
open Go

section
variable {xs : List Ent}
theorem ents_first (h : 0 < xs.length) : rows xs = Ent.cells (xs.getD 0 noEnt) ++ rows (xs.drop 1) := by
  cases xs with
  | nil => exact absurd h (by simp)
  | cons x xs => rfl
theorem ents_done0 (h : 0 < xs.length) : ((rows xs).drop 11).head? = some (.bool (xs.getD 0 noEnt).done) := by rw [ents_first h]; rfl
theorem ents_take0 (h : 0 < xs.length) : (rows xs).take 40 = Ent.cells (xs.getD 0 noEnt) := by rw [ents_first h]; exact List.take_left' entc_len
theorem ents_drop1 : (rows xs).drop 40 = rows (xs.drop 1) := by
  have := rows_drop (xs := xs) (i := 1)
  rwa [show 1 * Enc.sz Ent = 40 from rfl] at this
theorem ents_takeD {n : Nat} (h : n = xs.length - 1) : (rows (xs.drop 1)).take (n * 40) = rows (xs.drop 1) := by
  rw [ents_takeN, List.take_of_length_le (by rw [List.length_drop, h]; exact Nat.le_refl _)]
theorem ents_putMany {ys : List Ent} {i : Nat} (h : i + ys.length ≤ xs.length) : putAt (rows xs) (i * 40) (rows ys) = rows (xs.take i ++ (ys ++ xs.drop (i + ys.length))) := by
  have h1 : rows xs = rows (xs.take i) ++ rows (xs.drop i) := by rw [← rows_append, List.take_append_drop]
  have h2 : (rows (xs.take i)).length = i * 40 := by rw [ents_len, List.length_take, Nat.min_eq_left (by omega)]
  have h3 : rows (xs.drop i) = rows ((xs.drop i).take ys.length) ++ rows (xs.drop (i + ys.length)) := by
    rw [← rows_append, ← List.drop_drop, List.take_append_drop]
  have h4 : (rows ((xs.drop i).take ys.length)).length = (rows ys).length := by
    rw [ents_len, ents_len, List.length_take, List.length_drop, Nat.min_eq_left (by omega)]
  rw [h1, putAt_app0 h2, h3, putAt_self h4, rows_append, rows_append]
theorem ents_putHead (h : 0 < xs.length) : putAt (rows xs) 0 (rows (xs.drop 1)) = rows (xs.drop 1 ++ xs.drop (xs.length - 1)) := by
  have := ents_putMany (xs := xs) (ys := xs.drop 1) (i := 0) (by simp)
  rw [Nat.zero_mul] at this
  rw [this]
  simp
theorem take_put {l cs : List AV} {n : Nat} (h : n ≤ l.length) : (putAt l n cs).take n = l.take n := by
  unfold putAt
  rw [List.append_assoc, List.take_left' (by rw [List.length_take]; omega)]
end
end Go.Proofs.YtokjjeibagmgpaaGreat.AM
