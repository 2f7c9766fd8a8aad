/- What the program's functions come to, said plainly: keys and words. No conditions. -/
import Derived.Test.YtgddflnhibhacaaSp1
set_option linter.unusedVariables false
set_option linter.unusedSimpArgs false
namespace Go.Proofs.Ytgddflnhibhacaa.AM
open Go

structure Key where
  base : Int
  top : Int
  perms : Int
  lock : Int
  deriving DecidableEq
structure Word where
  n : Int
  is : Bool
  key : Key
  deriving DecidableEq
def Key.cells (k : Key) : List AV := [.int .i64 k.base, .int .i64 k.top, .int .i64 k.perms, .int .i64 k.lock]
def Word.cells (w : Word) : List AV := [.int .i64 w.n, .bool w.is, .int .i64 w.key.base, .int .i64 w.key.top, .int .i64 w.key.perms, .int .i64 w.key.lock]
def noKey : Key := ⟨0, 0, 0, 0⟩
/-- A plain word: the number's low bits. -/
def low (n : Int) : Int := bitop .and .i64 n 65535
def plain (n : Int) : Word := ⟨low n, false, noKey⟩
def learn (xs : List Int) (w v : Word) : List Int := if inR w.n 0 (xs.length - 1) = true then xs.set w.n.toNat (low v.n) else xs
theorem learn_len {xs : List Int} {w v : Word} : (learn xs w v).length = xs.length := by unfold learn; split <;> simp
def marks (t : Int) (n : Nat) : List Int := (List.range n).map fun i : Nat => t + (i : Int)
theorem marks_len {t : Int} {n : Nat} : (marks t n).length = n := by simp [marks]
theorem marks_succ {t : Int} {n : Nat} : marks t (n + 1) = marks t n ++ [t + (n : Int)] := by simp [marks, List.range_succ]
theorem marks_set {t : Int} {xs : List Int} {i : Nat} (h : i < xs.length) : (marks t i ++ xs.drop i).set i (t + (i : Int)) = marks t (i + 1) ++ xs.drop (i + 1) := by
  rw [List.set_append_right _ _ (by rw [marks_len]; exact Nat.le_refl _), marks_len, Nat.sub_self, List.drop_eq_getElem_cons h, List.set_cons_zero, marks_succ]
  simp
theorem marks_get {t : Int} {n i : Nat} (h : i < n) : (marks t n).getD i 0 = t + (i : Int) := by simp [marks, h]
theorem take_learn {xs : List Int} {w v : Word} : (ints (learn xs w v)).take xs.length = ints (learn xs w v) := by rw [← learn_len (w := w) (v := v), ints_take]
theorem take_marks {t : Int} {n : Nat} : (ints (marks t n)).take n = ints (marks t n) := by
  have := ints_take (xs := marks t n)
  rwa [marks_len] at this
theorem word_eq {a b : Word} : a = b ↔ a.n = b.n ∧ a.is = b.is ∧ a.key.base = b.key.base ∧ a.key.top = b.key.top ∧ a.key.perms = b.key.perms ∧ a.key.lock = b.key.lock := by
  cases a; rename_i n i k; cases k; cases b; rename_i n i k; cases k
  simp
theorem word_deq {a b : Word} : (decide (a.n = b.n) && (a.is == b.is && (decide (a.key.base = b.key.base) && (decide (a.key.top = b.key.top) && (decide (a.key.perms = b.key.perms) && decide (a.key.lock = b.key.lock)))))) = decide (a = b) := by
  rw [Bool.eq_iff_iff]
  simp [word_eq]
attribute [go_sem] take_learn take_marks plain low Key.cells Word.cells
end Go.Proofs.Ytgddflnhibhacaa.AM
