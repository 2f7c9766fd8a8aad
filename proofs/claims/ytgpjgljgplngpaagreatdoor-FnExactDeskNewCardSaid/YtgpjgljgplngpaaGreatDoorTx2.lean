/- Texts: keys and words, and how they are read. No conditions. -/
import Derived.Test.YtgpjgljgplngpaaGreatDoorTx1
set_option linter.unusedVariables false
set_option linter.unusedSimpArgs false
namespace Go.Proofs.YtgpjgljgplngpaaGreatDoor.AM
open Go

/-! ### a text is cut -/
theorem index_app {c : UInt8} {r : Bs} : ∀ {a : Bs}, c ∉ a → Lib.indexByte (a ++ c :: r) c = a.length
  | [], _ => by simp [Lib.indexByte]
  | b :: a, h => by
    simp at h
    have h1 : (b == c) = false := by simpa using fun e => h.1 e.symm
    rw [List.cons_append, Lib.indexByte, h1, index_app h.2]
    have h2 : ((a.length : Int) == -1) = false := by simp <;> omega
    rw [h2]
    simp
theorem index_lt {c : UInt8} : ∀ {l : Bs}, Lib.indexByte l c < l.length
  | [] => by simp [Lib.indexByte]
  | b :: l => by
    have := index_lt (c := c) (l := l)
    rw [Lib.indexByte]
    split
    · simp <;> omega
    · split
      · simp <;> omega
      · simp <;> omega
def cutB (l : Bs) (c : UInt8) : Bs × Bs × Bool := if Lib.indexByte l c < 0 then (l, [], false) else (l.take (Lib.indexByte l c).toNat, l.drop ((Lib.indexByte l c).toNat + 1), true)
theorem cutB_app {a r : Bs} {c : UInt8} (h : c ∉ a) : cutB (a ++ c :: r) c = (a, r, true) := by
  rw [cutB, index_app h, if_neg (by omega), Int.toNat_natCast, List.take_left' rfl, ← List.drop_drop, List.drop_left' rfl]
  rfl
theorem cutB_len {l : Bs} {c : UInt8} : (cutB l c).1.length ≤ l.length ∧ (cutB l c).2.1.length ≤ l.length := by
  unfold cutB
  split
  · exact ⟨Nat.le_refl _, Nat.zero_le _⟩
  · simp only [List.length_take, List.length_drop]; omega

/-! ### keys -/
def itoa (n : Int) : Bs := Lib.itoa n
def lets : Bs := [108, 115, 114, 116, 112, 107]
def bitB (p : Int) (i : Nat) : Bool := decide (band (p.fdiv (2 ^ i)) 1 = 1)
def bior (a b : Int) : Int := bitop .or .i64 a b
def permT (p : Int) : Nat → Bs
  | 0 => []
  | i + 1 => permT p i ++ if bitB p i = true then [lets.getD i 0] else []
def lockT (n : Int) : Bs := if n = 0 then [] else 35 :: itoa n
def keyB (k : Key) : Bs := 91 :: (itoa k.base ++ 44 :: (itoa k.top ++ 41 :: (permT k.perms 6 ++ lockT k.lock)))
def keyT (k : Key) : Bs := if keyOk k = true then keyB k else []
def wordT (w : Word) : Bs := if wordOk w = true then (if w.is = true then itoa w.n ++ 32 :: keyT w.key else itoa w.n) else []
/-- What strconv.Atoi tells, and whether without an error. -/
def atoV (l : Bs) : Int × Bool := match Lib.atoiAll l with
  | .ok v => (v, true)
  | Lib.NumEnd.syntax => (0, false)
  | .range => (Lib.atoiSat l, false)
theorem atoV_itoa {n : Int} (h : -1000000000000000000 < n ∧ n < 1000000000000000000) : atoV (itoa n) = (n, true) := by rw [atoV, itoa, atoi_itoa h]
def permI (ls : Bs) : Nat → Int
  | 0 => 0
  | i + 1 => if 0 ≤ Lib.indexByte ls (lets.getD i 0) then bior (permI ls i) (2 ^ i) else permI ls i
structure KI where
  a : Bs × Bs × Bool
  b : Bs × Bs × Bool
  c : Bs × Bs × Bool
  d : Bs
def kiOf (s : Bs) : KI :=
  ⟨cutB (Lib.trimPrefix s [91]) 44, cutB (cutB (Lib.trimPrefix s [91]) 44).2.1 41, cutB (cutB (cutB (Lib.trimPrefix s [91]) 44).2.1 41).2.1 35,
   if (cutB (cutB (cutB (Lib.trimPrefix s [91]) 44).2.1 41).2.1 35).2.2 = true then (cutB (cutB (cutB (Lib.trimPrefix s [91]) 44).2.1 41).2.1 35).2.1 else [48]⟩
def keyI (s : Bs) : Key := ⟨(atoV (kiOf s).a.1).1, (atoV (kiOf s).b.1).1, permI (kiOf s).c.1 6, (atoV (kiOf s).d).1⟩
def okI (s : Bs) : Bool := (kiOf s).a.2.2 && (kiOf s).b.2.2 && (atoV (kiOf s).a.1).2 && (atoV (kiOf s).b.1).2 && (atoV (kiOf s).d).2
def keyRead (s : Bs) : Key × Bool := if okI s = true ∧ keyOk (keyI s) = true ∧ keyT (keyI s) = s then (keyI s, true) else (noKey, false)
def numA (s : Bs) (a : Nat) : Nat × Nat := ((scan 4 (s.drop a) 0).1, a + (scan 4 (s.drop a) 0).2)
def orL (b : UInt8) : Nat → Int → Int
  | 0, p => p
  | i + 1, p => if b = lets.getD i 0 then bior (orL b i p) (2 ^ i) else orL b i p
def tailS : Bs → Int → Int × Int
  | [], p => (p, 0)
  | b :: r, p => if b = 35 then (p, ((scan 4 r 0).1 : Nat)) else tailS r (orL b 6 p)
def keyS (s : Bs) : Key := ⟨(numA s 1).1, (numA s ((numA s 1).2 + 1)).1, (tailS (s.drop ((numA s ((numA s 1).2 + 1)).2 + 1)) 0).1, (tailS (s.drop ((numA s ((numA s 1).2 + 1)).2 + 1)) 0).2⟩
theorem itoa_nat {n : Int} (h : 0 ≤ n) : itoa n = Lib.decDigits n.toNat := by rw [itoa, Lib.itoa, if_neg (by omega)]
end Go.Proofs.YtgpjgljgplngpaaGreatDoor.AM
