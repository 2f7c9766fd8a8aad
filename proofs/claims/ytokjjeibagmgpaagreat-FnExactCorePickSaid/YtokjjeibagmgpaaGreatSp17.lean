/- An entry is marked as done, and its effect laid in. No conditions. -/
import Derived.Test.YtokjjeibagmgpaaGreatSp16
set_option linter.unusedVariables false
set_option linter.unusedSimpArgs false
namespace Go.Proofs.YtokjjeibagmgpaaGreat.AM
open Go

def doneOf (x : Ent) : Ent := ⟨x.pc, x.x, true, x.e, x.guess⟩
def withE (x : Ent) (e : Fx) : Ent := ⟨x.pc, x.x, x.done, e, x.guess⟩
section
variable {xs : List Ent} {i : Nat} {e : Fx} {x y : Ent}
theorem done_put (h : i < xs.length) : putAt (rows xs) (i * 40 + 11) [.bool true] = rows (xs.set i (doneOf (xs.getD i noEnt))) := put_cell h (by decide) rfl
theorem put_cells {j : Nat} {L : List AV} (h : i < xs.length) (hj : j + L.length ≤ 40) (hy : (Ent.cells (xs.getD i noEnt)).take j ++ (L ++ (Ent.cells (xs.getD i noEnt)).drop (j + L.length)) = Ent.cells y) : putAt (rows xs) (i * 40 + j) L = rows (xs.set i y) := by
  have h1 : rows xs = rows (xs.take i) ++ rows (xs.drop i) := by rw [← rows_append, List.take_append_drop]
  have h2 : (rows (xs.take i)).length = i * 40 := by rw [ents_len, List.length_take, Nat.min_eq_left (by omega)]
  have h3 : rows (xs.drop i) = Ent.cells (xs.getD i noEnt) ++ rows (xs.drop (i + 1)) := rows_split h
  have h5 : putAt (Ent.cells (xs.getD i noEnt) ++ rows (xs.drop (i + 1))) j L = Ent.cells y ++ rows (xs.drop (i + 1)) := by
    rw [← hy]
    unfold putAt
    rw [List.take_append_of_le_length (by rw [entc_len]; omega), List.drop_append_of_le_length (by rw [entc_len]; omega)]
    simp only [List.append_assoc]
  rw [h1, putAt_app h2, h3, h5, List.set_eq_take_append_cons_drop, if_pos h, rows_append, rows_cons]
  rfl
theorem fx_put (h : i < xs.length) : putAt (rows xs) (i * 40 + 12) [AV.int .i64 e.trap, .int .i64 e.r, .int .i64 e.val.n, .bool e.val.is, .int .i64 e.val.key.base, .int .i64 e.val.key.top, .int .i64 e.val.key.perms, .int .i64 e.val.key.lock, .int .i64 e.next.n, .bool e.next.is, .int .i64 e.next.key.base, .int .i64 e.next.key.top, .int .i64 e.next.key.perms, .int .i64 e.next.key.lock, .int .i64 e.adr, .int .i64 e.put.n, .bool e.put.is, .int .i64 e.put.key.base, .int .i64 e.put.key.top, .int .i64 e.put.key.perms, .int .i64 e.put.key.lock, .int .i64 e.drop] = rows (xs.set i (withE (xs.getD i noEnt) e)) := put_cells h (Nat.le_of_ble_eq_true rfl) rfl
theorem getD_set (h : i < xs.length) : (xs.set i x).getD i noEnt = x := by simp [h]
theorem done_both (h : i < xs.length) : (xs.set i (doneOf (xs.getD i noEnt))).set i (withE ((xs.set i (doneOf (xs.getD i noEnt))).getD i noEnt) e) = xs.set i ⟨(xs.getD i noEnt).pc, (xs.getD i noEnt).x, true, e, (xs.getD i noEnt).guess⟩ := by
  rw [getD_set h, List.set_set]
  rfl
theorem done_upd (h : i < xs.length) : (xs.set i (doneOf (xs.getD i noEnt))).set i (withE (doneOf (xs.getD i noEnt)) e) = xs.set i ⟨(xs.getD i noEnt).pc, (xs.getD i noEnt).x, true, e, (xs.getD i noEnt).guess⟩ := by
  rw [List.set_set]
  rfl
end
end Go.Proofs.YtokjjeibagmgpaaGreat.AM
