/- An entry's cells while they are marked one by one. No conditions. -/
import Derived.Test.YtokjjeibagmgpaaGreatSp9
set_option linter.unusedVariables false
set_option linter.unusedSimpArgs false
namespace Go.Proofs.YtokjjeibagmgpaaGreat.AM
open Go

/-- A function's code; a part of some code (0: the first of two, 1: the second, 2: what stands inside). -/
def fnCode (f : Func) : Code := match f.body with
  | some c => c
  | none => .skip
def codeAt : Code → List Nat → Code
  | c, [] => c
  | .seq a b, n :: p => if n = 0 then codeAt a p else codeAt b p
  | .block _ c, _ :: p => codeAt c p
  | .loop c, _ :: p => codeAt c p
  | c, _ :: _ => c
def markQ (s : Int) : Ent := ⟨⟨s, decide ((s + 1).tmod 3 = 0), ⟨s + 2, s + 3, s + 4, s + 5⟩⟩, ⟨s + 6, s + 7, s + 8, s + 9, s + 10⟩, decide ((s + 11).tmod 3 = 0), ⟨s + 12, s + 13, ⟨s + 14, decide ((s + 15).tmod 3 = 0), ⟨s + 16, s + 17, s + 18, s + 19⟩⟩, ⟨s + 20, decide ((s + 21).tmod 3 = 0), ⟨s + 22, s + 23, s + 24, s + 25⟩⟩, s + 26, ⟨s + 27, decide ((s + 28).tmod 3 = 0), ⟨s + 29, s + 30, s + 31, s + 32⟩⟩, s + 33⟩, ⟨s + 34, decide ((s + 35).tmod 3 = 0), ⟨s + 36, s + 37, s + 38, s + 39⟩⟩⟩
/-- The first j cells are marked. -/
def mixQ (s : Int) (x : Ent) (j : Nat) : List AV := (Ent.cells (markQ s)).take j ++ (Ent.cells x).drop j
theorem entc_len {x : Ent} : (Ent.cells x).length = 40 := rfl
theorem mixQ_len {s : Int} {x : Ent} {j : Nat} : (mixQ s x j).length = 40 := by
  rw [mixQ, List.length_append, List.length_take, List.length_drop, entc_len, entc_len]
  omega
section
variable {s t : Int} {x : Ent} {n : Nat} {R : List AV}
theorem mixQ_put {j m : Nat} {v : AV} (hm : m = n * 40 + j) (hj : j < 40) (hv : (Ent.cells (markQ s))[j]? = some v) : putAt (rows (mrow markQ 40 t n) ++ (mixQ s x j ++ R)) m [v] = rows (mrow markQ 40 t n) ++ (mixQ s x (j + 1) ++ R) := by
  subst hm
  rw [putAt_app (mrowsE_len (f := markQ))]
  congr 1
  have h1 : mixQ s x j ++ R = (Ent.cells (markQ s)).take j ++ ((Ent.cells x).drop j ++ R) := by rw [mixQ, List.append_assoc]
  have h2 : ((Ent.cells (markQ s)).take j).length = j := by rw [List.length_take, entc_len]; omega
  have h3 : (Ent.cells x).drop j = (Ent.cells x)[j]'(by rw [entc_len]; exact hj) :: (Ent.cells x).drop (j + 1) := List.drop_eq_getElem_cons _
  rw [h1, putAt_app0 h2, h3, List.cons_append, putAt_zero, mixQ, List.take_add_one, hv]
  simp [putAt]

theorem mixQ0 : putAt (rows (mrow markQ 40 t n) ++ (mixQ s x 0 ++ R)) (n * 40) [.int .i64 (s)] = rows (mrow markQ 40 t n) ++ (mixQ s x 1 ++ R) := mixQ_put rfl (by decide) rfl
theorem mixQ1 : putAt (rows (mrow markQ 40 t n) ++ (mixQ s x 1 ++ R)) (n * 40 + 1) [.bool (decide ((s + 1).tmod 3 = 0))] = rows (mrow markQ 40 t n) ++ (mixQ s x 2 ++ R) := mixQ_put rfl (by decide) rfl
theorem mixQ2 : putAt (rows (mrow markQ 40 t n) ++ (mixQ s x 2 ++ R)) (n * 40 + 2) [.int .i64 (s + 2)] = rows (mrow markQ 40 t n) ++ (mixQ s x 3 ++ R) := mixQ_put rfl (by decide) rfl
theorem mixQ3 : putAt (rows (mrow markQ 40 t n) ++ (mixQ s x 3 ++ R)) (n * 40 + 2 + 1) [.int .i64 (s + 3)] = rows (mrow markQ 40 t n) ++ (mixQ s x 4 ++ R) := mixQ_put (by simp only [Nat.add_assoc]) (by decide) rfl
theorem mixQ4 : putAt (rows (mrow markQ 40 t n) ++ (mixQ s x 4 ++ R)) (n * 40 + 2 + 2) [.int .i64 (s + 4)] = rows (mrow markQ 40 t n) ++ (mixQ s x 5 ++ R) := mixQ_put (by simp only [Nat.add_assoc]) (by decide) rfl
theorem mixQ5 : putAt (rows (mrow markQ 40 t n) ++ (mixQ s x 5 ++ R)) (n * 40 + 2 + 3) [.int .i64 (s + 5)] = rows (mrow markQ 40 t n) ++ (mixQ s x 6 ++ R) := mixQ_put (by simp only [Nat.add_assoc]) (by decide) rfl
theorem mixQ6 : putAt (rows (mrow markQ 40 t n) ++ (mixQ s x 6 ++ R)) (n * 40 + 6) [.int .i64 (s + 6)] = rows (mrow markQ 40 t n) ++ (mixQ s x 7 ++ R) := mixQ_put rfl (by decide) rfl
theorem mixQ7 : putAt (rows (mrow markQ 40 t n) ++ (mixQ s x 7 ++ R)) (n * 40 + 6 + 1) [.int .i64 (s + 7)] = rows (mrow markQ 40 t n) ++ (mixQ s x 8 ++ R) := mixQ_put (by simp only [Nat.add_assoc]) (by decide) rfl
theorem mixQ8 : putAt (rows (mrow markQ 40 t n) ++ (mixQ s x 8 ++ R)) (n * 40 + 6 + 2) [.int .i64 (s + 8)] = rows (mrow markQ 40 t n) ++ (mixQ s x 9 ++ R) := mixQ_put (by simp only [Nat.add_assoc]) (by decide) rfl
theorem mixQ9 : putAt (rows (mrow markQ 40 t n) ++ (mixQ s x 9 ++ R)) (n * 40 + 6 + 3) [.int .i64 (s + 9)] = rows (mrow markQ 40 t n) ++ (mixQ s x 10 ++ R) := mixQ_put (by simp only [Nat.add_assoc]) (by decide) rfl
theorem mixQ10 : putAt (rows (mrow markQ 40 t n) ++ (mixQ s x 10 ++ R)) (n * 40 + 6 + 4) [.int .i64 (s + 10)] = rows (mrow markQ 40 t n) ++ (mixQ s x 11 ++ R) := mixQ_put (by simp only [Nat.add_assoc]) (by decide) rfl
theorem mixQ11 : putAt (rows (mrow markQ 40 t n) ++ (mixQ s x 11 ++ R)) (n * 40 + 11) [.bool (decide ((s + 11).tmod 3 = 0))] = rows (mrow markQ 40 t n) ++ (mixQ s x 12 ++ R) := mixQ_put rfl (by decide) rfl
theorem mixQ12 : putAt (rows (mrow markQ 40 t n) ++ (mixQ s x 12 ++ R)) (n * 40 + 12) [.int .i64 (s + 12)] = rows (mrow markQ 40 t n) ++ (mixQ s x 13 ++ R) := mixQ_put rfl (by decide) rfl
theorem mixQ13 : putAt (rows (mrow markQ 40 t n) ++ (mixQ s x 13 ++ R)) (n * 40 + 12 + 1) [.int .i64 (s + 13)] = rows (mrow markQ 40 t n) ++ (mixQ s x 14 ++ R) := mixQ_put (by simp only [Nat.add_assoc]) (by decide) rfl
theorem mixQ14 : putAt (rows (mrow markQ 40 t n) ++ (mixQ s x 14 ++ R)) (n * 40 + 12 + 2) [.int .i64 (s + 14)] = rows (mrow markQ 40 t n) ++ (mixQ s x 15 ++ R) := mixQ_put (by simp only [Nat.add_assoc]) (by decide) rfl
theorem mixQ15 : putAt (rows (mrow markQ 40 t n) ++ (mixQ s x 15 ++ R)) (n * 40 + 12 + 2 + 1) [.bool (decide ((s + 15).tmod 3 = 0))] = rows (mrow markQ 40 t n) ++ (mixQ s x 16 ++ R) := mixQ_put (by simp only [Nat.add_assoc]) (by decide) rfl
theorem mixQ16 : putAt (rows (mrow markQ 40 t n) ++ (mixQ s x 16 ++ R)) (n * 40 + 12 + 2 + 2) [.int .i64 (s + 16)] = rows (mrow markQ 40 t n) ++ (mixQ s x 17 ++ R) := mixQ_put (by simp only [Nat.add_assoc]) (by decide) rfl
theorem mixQ17 : putAt (rows (mrow markQ 40 t n) ++ (mixQ s x 17 ++ R)) (n * 40 + 12 + 2 + 2 + 1) [.int .i64 (s + 17)] = rows (mrow markQ 40 t n) ++ (mixQ s x 18 ++ R) := mixQ_put (by simp only [Nat.add_assoc]) (by decide) rfl
theorem mixQ18 : putAt (rows (mrow markQ 40 t n) ++ (mixQ s x 18 ++ R)) (n * 40 + 12 + 2 + 2 + 2) [.int .i64 (s + 18)] = rows (mrow markQ 40 t n) ++ (mixQ s x 19 ++ R) := mixQ_put (by simp only [Nat.add_assoc]) (by decide) rfl
theorem mixQ19 : putAt (rows (mrow markQ 40 t n) ++ (mixQ s x 19 ++ R)) (n * 40 + 12 + 2 + 2 + 3) [.int .i64 (s + 19)] = rows (mrow markQ 40 t n) ++ (mixQ s x 20 ++ R) := mixQ_put (by simp only [Nat.add_assoc]) (by decide) rfl
theorem mixQ20 : putAt (rows (mrow markQ 40 t n) ++ (mixQ s x 20 ++ R)) (n * 40 + 12 + 8) [.int .i64 (s + 20)] = rows (mrow markQ 40 t n) ++ (mixQ s x 21 ++ R) := mixQ_put (by simp only [Nat.add_assoc]) (by decide) rfl
theorem mixQ21 : putAt (rows (mrow markQ 40 t n) ++ (mixQ s x 21 ++ R)) (n * 40 + 12 + 8 + 1) [.bool (decide ((s + 21).tmod 3 = 0))] = rows (mrow markQ 40 t n) ++ (mixQ s x 22 ++ R) := mixQ_put (by simp only [Nat.add_assoc]) (by decide) rfl
theorem mixQ22 : putAt (rows (mrow markQ 40 t n) ++ (mixQ s x 22 ++ R)) (n * 40 + 12 + 8 + 2) [.int .i64 (s + 22)] = rows (mrow markQ 40 t n) ++ (mixQ s x 23 ++ R) := mixQ_put (by simp only [Nat.add_assoc]) (by decide) rfl
theorem mixQ23 : putAt (rows (mrow markQ 40 t n) ++ (mixQ s x 23 ++ R)) (n * 40 + 12 + 8 + 2 + 1) [.int .i64 (s + 23)] = rows (mrow markQ 40 t n) ++ (mixQ s x 24 ++ R) := mixQ_put (by simp only [Nat.add_assoc]) (by decide) rfl
theorem mixQ24 : putAt (rows (mrow markQ 40 t n) ++ (mixQ s x 24 ++ R)) (n * 40 + 12 + 8 + 2 + 2) [.int .i64 (s + 24)] = rows (mrow markQ 40 t n) ++ (mixQ s x 25 ++ R) := mixQ_put (by simp only [Nat.add_assoc]) (by decide) rfl
theorem mixQ25 : putAt (rows (mrow markQ 40 t n) ++ (mixQ s x 25 ++ R)) (n * 40 + 12 + 8 + 2 + 3) [.int .i64 (s + 25)] = rows (mrow markQ 40 t n) ++ (mixQ s x 26 ++ R) := mixQ_put (by simp only [Nat.add_assoc]) (by decide) rfl
theorem mixQ26 : putAt (rows (mrow markQ 40 t n) ++ (mixQ s x 26 ++ R)) (n * 40 + 12 + 14) [.int .i64 (s + 26)] = rows (mrow markQ 40 t n) ++ (mixQ s x 27 ++ R) := mixQ_put (by simp only [Nat.add_assoc]) (by decide) rfl
theorem mixQ27 : putAt (rows (mrow markQ 40 t n) ++ (mixQ s x 27 ++ R)) (n * 40 + 12 + 15) [.int .i64 (s + 27)] = rows (mrow markQ 40 t n) ++ (mixQ s x 28 ++ R) := mixQ_put (by simp only [Nat.add_assoc]) (by decide) rfl
theorem mixQ28 : putAt (rows (mrow markQ 40 t n) ++ (mixQ s x 28 ++ R)) (n * 40 + 12 + 15 + 1) [.bool (decide ((s + 28).tmod 3 = 0))] = rows (mrow markQ 40 t n) ++ (mixQ s x 29 ++ R) := mixQ_put (by simp only [Nat.add_assoc]) (by decide) rfl
theorem mixQ29 : putAt (rows (mrow markQ 40 t n) ++ (mixQ s x 29 ++ R)) (n * 40 + 12 + 15 + 2) [.int .i64 (s + 29)] = rows (mrow markQ 40 t n) ++ (mixQ s x 30 ++ R) := mixQ_put (by simp only [Nat.add_assoc]) (by decide) rfl
theorem mixQ30 : putAt (rows (mrow markQ 40 t n) ++ (mixQ s x 30 ++ R)) (n * 40 + 12 + 15 + 2 + 1) [.int .i64 (s + 30)] = rows (mrow markQ 40 t n) ++ (mixQ s x 31 ++ R) := mixQ_put (by simp only [Nat.add_assoc]) (by decide) rfl
theorem mixQ31 : putAt (rows (mrow markQ 40 t n) ++ (mixQ s x 31 ++ R)) (n * 40 + 12 + 15 + 2 + 2) [.int .i64 (s + 31)] = rows (mrow markQ 40 t n) ++ (mixQ s x 32 ++ R) := mixQ_put (by simp only [Nat.add_assoc]) (by decide) rfl
theorem mixQ32 : putAt (rows (mrow markQ 40 t n) ++ (mixQ s x 32 ++ R)) (n * 40 + 12 + 15 + 2 + 3) [.int .i64 (s + 32)] = rows (mrow markQ 40 t n) ++ (mixQ s x 33 ++ R) := mixQ_put (by simp only [Nat.add_assoc]) (by decide) rfl
theorem mixQ33 : putAt (rows (mrow markQ 40 t n) ++ (mixQ s x 33 ++ R)) (n * 40 + 12 + 21) [.int .i64 (s + 33)] = rows (mrow markQ 40 t n) ++ (mixQ s x 34 ++ R) := mixQ_put (by simp only [Nat.add_assoc]) (by decide) rfl
theorem mixQ34 : putAt (rows (mrow markQ 40 t n) ++ (mixQ s x 34 ++ R)) (n * 40 + 34) [.int .i64 (s + 34)] = rows (mrow markQ 40 t n) ++ (mixQ s x 35 ++ R) := mixQ_put rfl (by decide) rfl
theorem mixQ35 : putAt (rows (mrow markQ 40 t n) ++ (mixQ s x 35 ++ R)) (n * 40 + 34 + 1) [.bool (decide ((s + 35).tmod 3 = 0))] = rows (mrow markQ 40 t n) ++ (mixQ s x 36 ++ R) := mixQ_put (by simp only [Nat.add_assoc]) (by decide) rfl
theorem mixQ36 : putAt (rows (mrow markQ 40 t n) ++ (mixQ s x 36 ++ R)) (n * 40 + 34 + 2) [.int .i64 (s + 36)] = rows (mrow markQ 40 t n) ++ (mixQ s x 37 ++ R) := mixQ_put (by simp only [Nat.add_assoc]) (by decide) rfl
theorem mixQ37 : putAt (rows (mrow markQ 40 t n) ++ (mixQ s x 37 ++ R)) (n * 40 + 34 + 2 + 1) [.int .i64 (s + 37)] = rows (mrow markQ 40 t n) ++ (mixQ s x 38 ++ R) := mixQ_put (by simp only [Nat.add_assoc]) (by decide) rfl
theorem mixQ38 : putAt (rows (mrow markQ 40 t n) ++ (mixQ s x 38 ++ R)) (n * 40 + 34 + 2 + 2) [.int .i64 (s + 38)] = rows (mrow markQ 40 t n) ++ (mixQ s x 39 ++ R) := mixQ_put (by simp only [Nat.add_assoc]) (by decide) rfl
theorem mixQ39 : putAt (rows (mrow markQ 40 t n) ++ (mixQ s x 39 ++ R)) (n * 40 + 34 + 2 + 3) [.int .i64 (s + 39)] = rows (mrow markQ 40 t n) ++ (mixQ s x 40 ++ R) := mixQ_put (by simp only [Nat.add_assoc]) (by decide) rfl
theorem seeQ0 {z : Nat} (h : n < z) (hs : s = t + (40 * n : Nat)) : ((rows (mrow markQ 40 t z)).drop (n * 40)).head? = some (.int .i64 (s)) := by
  rw [ents_at (by rw [mrow_len]; exact h), mrow_get h, ← hs]
  rfl
theorem seeQ1 {z : Nat} (h : n < z) (hs : s = t + (40 * n : Nat)) : (((rows (mrow markQ 40 t z)).drop (n * 40)).drop 1).head? = some (.bool (decide ((s + 1).tmod 3 = 0))) := by
  rw [ents_at (by rw [mrow_len]; exact h), mrow_get h, ← hs]
  rfl
theorem seeQ2 {z : Nat} (h : n < z) (hs : s = t + (40 * n : Nat)) : (((rows (mrow markQ 40 t z)).drop (n * 40)).drop 2).head? = some (.int .i64 (s + 2)) := by
  rw [ents_at (by rw [mrow_len]; exact h), mrow_get h, ← hs]
  rfl
theorem seeQ3 {z : Nat} (h : n < z) (hs : s = t + (40 * n : Nat)) : ((((rows (mrow markQ 40 t z)).drop (n * 40)).drop 2).drop 1).head? = some (.int .i64 (s + 3)) := by
  rw [ents_at (by rw [mrow_len]; exact h), mrow_get h, ← hs]
  rfl
theorem seeQ4 {z : Nat} (h : n < z) (hs : s = t + (40 * n : Nat)) : ((((rows (mrow markQ 40 t z)).drop (n * 40)).drop 2).drop 2).head? = some (.int .i64 (s + 4)) := by
  rw [ents_at (by rw [mrow_len]; exact h), mrow_get h, ← hs]
  rfl
theorem seeQ5 {z : Nat} (h : n < z) (hs : s = t + (40 * n : Nat)) : ((((rows (mrow markQ 40 t z)).drop (n * 40)).drop 2).drop 3).head? = some (.int .i64 (s + 5)) := by
  rw [ents_at (by rw [mrow_len]; exact h), mrow_get h, ← hs]
  rfl
theorem seeQ6 {z : Nat} (h : n < z) (hs : s = t + (40 * n : Nat)) : (((rows (mrow markQ 40 t z)).drop (n * 40)).drop 6).head? = some (.int .i64 (s + 6)) := by
  rw [ents_at (by rw [mrow_len]; exact h), mrow_get h, ← hs]
  rfl
theorem seeQ7 {z : Nat} (h : n < z) (hs : s = t + (40 * n : Nat)) : ((((rows (mrow markQ 40 t z)).drop (n * 40)).drop 6).drop 1).head? = some (.int .i64 (s + 7)) := by
  rw [ents_at (by rw [mrow_len]; exact h), mrow_get h, ← hs]
  rfl
theorem seeQ8 {z : Nat} (h : n < z) (hs : s = t + (40 * n : Nat)) : ((((rows (mrow markQ 40 t z)).drop (n * 40)).drop 6).drop 2).head? = some (.int .i64 (s + 8)) := by
  rw [ents_at (by rw [mrow_len]; exact h), mrow_get h, ← hs]
  rfl
theorem seeQ9 {z : Nat} (h : n < z) (hs : s = t + (40 * n : Nat)) : ((((rows (mrow markQ 40 t z)).drop (n * 40)).drop 6).drop 3).head? = some (.int .i64 (s + 9)) := by
  rw [ents_at (by rw [mrow_len]; exact h), mrow_get h, ← hs]
  rfl
theorem seeQ10 {z : Nat} (h : n < z) (hs : s = t + (40 * n : Nat)) : ((((rows (mrow markQ 40 t z)).drop (n * 40)).drop 6).drop 4).head? = some (.int .i64 (s + 10)) := by
  rw [ents_at (by rw [mrow_len]; exact h), mrow_get h, ← hs]
  rfl
theorem seeQ11 {z : Nat} (h : n < z) (hs : s = t + (40 * n : Nat)) : (((rows (mrow markQ 40 t z)).drop (n * 40)).drop 11).head? = some (.bool (decide ((s + 11).tmod 3 = 0))) := by
  rw [ents_at (by rw [mrow_len]; exact h), mrow_get h, ← hs]
  rfl
theorem seeQ12 {z : Nat} (h : n < z) (hs : s = t + (40 * n : Nat)) : (((rows (mrow markQ 40 t z)).drop (n * 40)).drop 12).head? = some (.int .i64 (s + 12)) := by
  rw [ents_at (by rw [mrow_len]; exact h), mrow_get h, ← hs]
  rfl
theorem seeQ13 {z : Nat} (h : n < z) (hs : s = t + (40 * n : Nat)) : ((((rows (mrow markQ 40 t z)).drop (n * 40)).drop 12).drop 1).head? = some (.int .i64 (s + 13)) := by
  rw [ents_at (by rw [mrow_len]; exact h), mrow_get h, ← hs]
  rfl
theorem seeQ14 {z : Nat} (h : n < z) (hs : s = t + (40 * n : Nat)) : ((((rows (mrow markQ 40 t z)).drop (n * 40)).drop 12).drop 2).head? = some (.int .i64 (s + 14)) := by
  rw [ents_at (by rw [mrow_len]; exact h), mrow_get h, ← hs]
  rfl
theorem seeQ15 {z : Nat} (h : n < z) (hs : s = t + (40 * n : Nat)) : (((((rows (mrow markQ 40 t z)).drop (n * 40)).drop 12).drop 2).drop 1).head? = some (.bool (decide ((s + 15).tmod 3 = 0))) := by
  rw [ents_at (by rw [mrow_len]; exact h), mrow_get h, ← hs]
  rfl
theorem seeQ16 {z : Nat} (h : n < z) (hs : s = t + (40 * n : Nat)) : (((((rows (mrow markQ 40 t z)).drop (n * 40)).drop 12).drop 2).drop 2).head? = some (.int .i64 (s + 16)) := by
  rw [ents_at (by rw [mrow_len]; exact h), mrow_get h, ← hs]
  rfl
theorem seeQ17 {z : Nat} (h : n < z) (hs : s = t + (40 * n : Nat)) : ((((((rows (mrow markQ 40 t z)).drop (n * 40)).drop 12).drop 2).drop 2).drop 1).head? = some (.int .i64 (s + 17)) := by
  rw [ents_at (by rw [mrow_len]; exact h), mrow_get h, ← hs]
  rfl
theorem seeQ18 {z : Nat} (h : n < z) (hs : s = t + (40 * n : Nat)) : ((((((rows (mrow markQ 40 t z)).drop (n * 40)).drop 12).drop 2).drop 2).drop 2).head? = some (.int .i64 (s + 18)) := by
  rw [ents_at (by rw [mrow_len]; exact h), mrow_get h, ← hs]
  rfl
theorem seeQ19 {z : Nat} (h : n < z) (hs : s = t + (40 * n : Nat)) : ((((((rows (mrow markQ 40 t z)).drop (n * 40)).drop 12).drop 2).drop 2).drop 3).head? = some (.int .i64 (s + 19)) := by
  rw [ents_at (by rw [mrow_len]; exact h), mrow_get h, ← hs]
  rfl
theorem seeQ20 {z : Nat} (h : n < z) (hs : s = t + (40 * n : Nat)) : ((((rows (mrow markQ 40 t z)).drop (n * 40)).drop 12).drop 8).head? = some (.int .i64 (s + 20)) := by
  rw [ents_at (by rw [mrow_len]; exact h), mrow_get h, ← hs]
  rfl
theorem seeQ21 {z : Nat} (h : n < z) (hs : s = t + (40 * n : Nat)) : (((((rows (mrow markQ 40 t z)).drop (n * 40)).drop 12).drop 8).drop 1).head? = some (.bool (decide ((s + 21).tmod 3 = 0))) := by
  rw [ents_at (by rw [mrow_len]; exact h), mrow_get h, ← hs]
  rfl
theorem seeQ22 {z : Nat} (h : n < z) (hs : s = t + (40 * n : Nat)) : (((((rows (mrow markQ 40 t z)).drop (n * 40)).drop 12).drop 8).drop 2).head? = some (.int .i64 (s + 22)) := by
  rw [ents_at (by rw [mrow_len]; exact h), mrow_get h, ← hs]
  rfl
theorem seeQ23 {z : Nat} (h : n < z) (hs : s = t + (40 * n : Nat)) : ((((((rows (mrow markQ 40 t z)).drop (n * 40)).drop 12).drop 8).drop 2).drop 1).head? = some (.int .i64 (s + 23)) := by
  rw [ents_at (by rw [mrow_len]; exact h), mrow_get h, ← hs]
  rfl
theorem seeQ24 {z : Nat} (h : n < z) (hs : s = t + (40 * n : Nat)) : ((((((rows (mrow markQ 40 t z)).drop (n * 40)).drop 12).drop 8).drop 2).drop 2).head? = some (.int .i64 (s + 24)) := by
  rw [ents_at (by rw [mrow_len]; exact h), mrow_get h, ← hs]
  rfl
theorem seeQ25 {z : Nat} (h : n < z) (hs : s = t + (40 * n : Nat)) : ((((((rows (mrow markQ 40 t z)).drop (n * 40)).drop 12).drop 8).drop 2).drop 3).head? = some (.int .i64 (s + 25)) := by
  rw [ents_at (by rw [mrow_len]; exact h), mrow_get h, ← hs]
  rfl
theorem seeQ26 {z : Nat} (h : n < z) (hs : s = t + (40 * n : Nat)) : ((((rows (mrow markQ 40 t z)).drop (n * 40)).drop 12).drop 14).head? = some (.int .i64 (s + 26)) := by
  rw [ents_at (by rw [mrow_len]; exact h), mrow_get h, ← hs]
  rfl
theorem seeQ27 {z : Nat} (h : n < z) (hs : s = t + (40 * n : Nat)) : ((((rows (mrow markQ 40 t z)).drop (n * 40)).drop 12).drop 15).head? = some (.int .i64 (s + 27)) := by
  rw [ents_at (by rw [mrow_len]; exact h), mrow_get h, ← hs]
  rfl
theorem seeQ28 {z : Nat} (h : n < z) (hs : s = t + (40 * n : Nat)) : (((((rows (mrow markQ 40 t z)).drop (n * 40)).drop 12).drop 15).drop 1).head? = some (.bool (decide ((s + 28).tmod 3 = 0))) := by
  rw [ents_at (by rw [mrow_len]; exact h), mrow_get h, ← hs]
  rfl
theorem seeQ29 {z : Nat} (h : n < z) (hs : s = t + (40 * n : Nat)) : (((((rows (mrow markQ 40 t z)).drop (n * 40)).drop 12).drop 15).drop 2).head? = some (.int .i64 (s + 29)) := by
  rw [ents_at (by rw [mrow_len]; exact h), mrow_get h, ← hs]
  rfl
theorem seeQ30 {z : Nat} (h : n < z) (hs : s = t + (40 * n : Nat)) : ((((((rows (mrow markQ 40 t z)).drop (n * 40)).drop 12).drop 15).drop 2).drop 1).head? = some (.int .i64 (s + 30)) := by
  rw [ents_at (by rw [mrow_len]; exact h), mrow_get h, ← hs]
  rfl
theorem seeQ31 {z : Nat} (h : n < z) (hs : s = t + (40 * n : Nat)) : ((((((rows (mrow markQ 40 t z)).drop (n * 40)).drop 12).drop 15).drop 2).drop 2).head? = some (.int .i64 (s + 31)) := by
  rw [ents_at (by rw [mrow_len]; exact h), mrow_get h, ← hs]
  rfl
theorem seeQ32 {z : Nat} (h : n < z) (hs : s = t + (40 * n : Nat)) : ((((((rows (mrow markQ 40 t z)).drop (n * 40)).drop 12).drop 15).drop 2).drop 3).head? = some (.int .i64 (s + 32)) := by
  rw [ents_at (by rw [mrow_len]; exact h), mrow_get h, ← hs]
  rfl
theorem seeQ33 {z : Nat} (h : n < z) (hs : s = t + (40 * n : Nat)) : ((((rows (mrow markQ 40 t z)).drop (n * 40)).drop 12).drop 21).head? = some (.int .i64 (s + 33)) := by
  rw [ents_at (by rw [mrow_len]; exact h), mrow_get h, ← hs]
  rfl
theorem seeQ34 {z : Nat} (h : n < z) (hs : s = t + (40 * n : Nat)) : (((rows (mrow markQ 40 t z)).drop (n * 40)).drop 34).head? = some (.int .i64 (s + 34)) := by
  rw [ents_at (by rw [mrow_len]; exact h), mrow_get h, ← hs]
  rfl
theorem seeQ35 {z : Nat} (h : n < z) (hs : s = t + (40 * n : Nat)) : ((((rows (mrow markQ 40 t z)).drop (n * 40)).drop 34).drop 1).head? = some (.bool (decide ((s + 35).tmod 3 = 0))) := by
  rw [ents_at (by rw [mrow_len]; exact h), mrow_get h, ← hs]
  rfl
theorem seeQ36 {z : Nat} (h : n < z) (hs : s = t + (40 * n : Nat)) : ((((rows (mrow markQ 40 t z)).drop (n * 40)).drop 34).drop 2).head? = some (.int .i64 (s + 36)) := by
  rw [ents_at (by rw [mrow_len]; exact h), mrow_get h, ← hs]
  rfl
theorem seeQ37 {z : Nat} (h : n < z) (hs : s = t + (40 * n : Nat)) : (((((rows (mrow markQ 40 t z)).drop (n * 40)).drop 34).drop 2).drop 1).head? = some (.int .i64 (s + 37)) := by
  rw [ents_at (by rw [mrow_len]; exact h), mrow_get h, ← hs]
  rfl
theorem seeQ38 {z : Nat} (h : n < z) (hs : s = t + (40 * n : Nat)) : (((((rows (mrow markQ 40 t z)).drop (n * 40)).drop 34).drop 2).drop 2).head? = some (.int .i64 (s + 38)) := by
  rw [ents_at (by rw [mrow_len]; exact h), mrow_get h, ← hs]
  rfl
theorem seeQ39 {z : Nat} (h : n < z) (hs : s = t + (40 * n : Nat)) : (((((rows (mrow markQ 40 t z)).drop (n * 40)).drop 34).drop 2).drop 3).head? = some (.int .i64 (s + 39)) := by
  rw [ents_at (by rw [mrow_len]; exact h), mrow_get h, ← hs]
  rfl
end
def Cor.markedQ (c : Cor) (t : Int) : Cor := ⟨c.s.marked t, mrow markQ 40 (t + c.s.cost) c.rob.length, c.next, c.stop, marks (t + c.s.cost + (40 * c.rob.length : Nat)) c.guesses.length⟩
end Go.Proofs.YtokjjeibagmgpaaGreat.AM
