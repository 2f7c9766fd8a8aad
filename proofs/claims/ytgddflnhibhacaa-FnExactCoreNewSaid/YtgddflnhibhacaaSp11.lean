/- New guesses. No conditions. -/
import Derived.Test.YtgddflnhibhacaaSp10
set_option linter.unusedVariables false
set_option linter.unusedSimpArgs false
namespace Go.Proofs.Ytgddflnhibhacaa.AM
open Go

theorem ints_putMany {xs ys : List Int} {i : Nat} : putAt (ints xs) i (ints ys) = ints (xs.take i ++ (ys ++ xs.drop (i + ys.length))) := by
  simp [putAt, ints, List.map_take, List.map_drop]
theorem ints_takeN {xs : List Int} {n : Nat} : (ints xs).take n = ints (xs.take n) := by simp [ints, List.map_take]
def gfill (m : Nat) : List Int := List.replicate m (-1) ++ List.replicate (48 - m) 0
theorem gfill_len {m : Nat} (h : m ≤ 48) : (gfill m).length = 48 := by simp [gfill]; omega
theorem gfill_one : (List.replicate 48 (0 : Int)).set 0 (-1) = gfill 1 := rfl
theorem gfill_end : gfill 48 = guessNew := by simp [gfill, guessNew]
theorem gfill_copy {m : Nat} (h : m ≤ 48) : putAt (ints (gfill m)) m (((ints (gfill m)).take m).take (Nat.min m (48 - m))) = ints (gfill (m + Nat.min m (48 - m))) := by
  have e1 : (gfill m).take m = List.replicate m (-1) := by rw [gfill, List.take_left' (by simp)]
  have e2 : Nat.min m (48 - m) = min m (48 - m) := rfl
  rw [ints_takeN, e1, ints_takeN, List.take_replicate, e2, show min (min m (48 - m)) m = min m (48 - m) by omega, ints_putMany, e1]
  congr 1
  have e3 : (gfill m).drop (m + (List.replicate (min m (48 - m)) (-1 : Int)).length) = List.replicate (48 - (m + min m (48 - m))) 0 := by
    rw [List.length_replicate, ← List.drop_drop, gfill, List.drop_left' (by simp), List.drop_replicate]
    congr 1
    omega
  rw [e3, gfill, ← List.append_assoc, List.replicate_append_replicate]
theorem rep_snoc {i : Nat} : ints (List.replicate (i + 1) (-1)) = ints (List.replicate i (-1)) ++ [.int .i64 (-1)] := by
  rw [List.replicate_succ', ints, List.map_append]; rfl
theorem ints_takeR {i : Nat} : (ints (List.replicate i (-1))).take i = ints (List.replicate i (-1)) := by rw [ints_takeN, List.take_of_length_le (by simp)]
theorem ints_lenR {i : Nat} : (ints (List.replicate i (-1))).length = i := by simp [ints]
theorem ints_lenF {m : Nat} (h : m ≤ 48) : (ints (gfill m)).length = 48 := by rw [ints_len, gfill_len h]
theorem gl48 : guessNew.length = 48 := by simp [guessNew]
theorem wu1 : IntKind.u64.wrap 1 = 1 := by decide
theorem wu48 : IntKind.u64.wrap 48 = 48 := by decide
theorem wi48 : IntKind.i64.wrap 48 = 48 := by decide
theorem wi1 : IntKind.i64.wrap 1 = 1 := by decide
end Go.Proofs.Ytgddflnhibhacaa.AM
