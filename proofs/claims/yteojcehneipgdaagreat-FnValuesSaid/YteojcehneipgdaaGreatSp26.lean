/- What is drawn: cores. No conditions. -/
import Derived.Test.YteojcehneipgdaaGreatSp25
set_option linter.unusedVariables false
set_option linter.unusedSimpArgs false
namespace Go.Proofs.YteojcehneipgdaaGreat.AM
open Go

def cutI (gs : List Int) (g : Nat) (xs : List Int) : Prop := ((ints gs).drop g).take xs.length = ints xs ∧ g + xs.length ≤ gs.length
theorem cutI_all {xs : List Int} : cutI xs 0 xs := ⟨by rw [List.drop_zero, ints_take], by omega⟩
def smallC (c : Cor) : Prop := smallS c.s ∧ c.rob.length ≤ 12 ∧ c.guesses.length ≤ 48
theorem smallC_fit {c : Cor} (h : smallC c) : c.fit := ⟨small_fit h.1, by have := h.2.1; omega, by have := h.2.2; omega⟩
def Cor.ownC (a b c d e p o g : Nat) (x : Cor) : List AV := x.s.ownC a b c p o ++ .slice d 0 x.rob.length 0 :: (x.next.cells ++ [.bool x.stop, .slice e g x.guesses.length 0])
theorem ownCC_eq {a b c d e p o g : Nat} {x : Cor} : x.ownC a b c d e p o g = x.s.ownC a b c p o ++ .slice d 0 x.rob.length 0 :: (x.next.cells ++ [.bool x.stop, .slice e g x.guesses.length 0]) := (rfl)
attribute [go_sem] ownCC_eq
section
variable {xs : List Ent}
def ent0 (xs : List Ent) : Ent := xs.getD 0 noEnt
def withDone (x : Ent) (d : Bool) : Ent := ⟨x.pc, x.x, d, x.e, x.guess⟩
def withR (x : Ent) (n : Int) : Ent := ⟨x.pc, x.x, x.done, ⟨x.e.trap, n, x.e.val, x.e.next, x.e.adr, x.e.put, x.e.drop⟩, x.guess⟩
def withVal (x : Ent) (w : Word) : Ent := ⟨x.pc, x.x, x.done, ⟨x.e.trap, x.e.r, w, x.e.next, x.e.adr, x.e.put, x.e.drop⟩, x.guess⟩
theorem rob_done {v : Bool} (h : 0 < xs.length) : putAt (rows xs) 11 [.bool v] = rows (xs.set 0 (withDone (ent0 xs) v)) := by
  have := put_cell (xs := xs) (i := 0) (j := 11) (v := .bool v) (y := withDone (ent0 xs) v) h (by decide) rfl
  rwa [Nat.zero_mul, Nat.zero_add] at this
theorem rob_r {n : Int} (h : 0 < xs.length) : putAt (rows xs) 13 [.int .i64 n] = rows (xs.set 0 (withR (ent0 xs) n)) := by
  have := put_cell (xs := xs) (i := 0) (j := 13) (v := .int .i64 n) (y := withR (ent0 xs) n) h (by decide) rfl
  rwa [Nat.zero_mul, Nat.zero_add] at this
theorem rob_val {w : Word} (h : 0 < xs.length) : putAt (rows xs) 14 [.int .i64 w.n, .bool w.is, .int .i64 w.key.base, .int .i64 w.key.top, .int .i64 w.key.perms, .int .i64 w.key.lock] = rows (xs.set 0 (withVal (ent0 xs) w)) := by
  have := put_cells (xs := xs) (i := 0) (y := withVal (ent0 xs) w) (j := 14) (L := [.int .i64 w.n, .bool w.is, .int .i64 w.key.base, .int .i64 w.key.top, .int .i64 w.key.perms, .int .i64 w.key.lock]) h (Nat.le_of_ble_eq_true rfl) rfl
  rwa [Nat.zero_mul, Nat.zero_add] at this
end
end Go.Proofs.YteojcehneipgdaaGreat.AM
