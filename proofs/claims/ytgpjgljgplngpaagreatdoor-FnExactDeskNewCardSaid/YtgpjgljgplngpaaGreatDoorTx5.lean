/- Texts: a desk and its lines. No conditions. -/
import Derived.Test.YtgpjgljgplngpaaGreatDoorTx4
import Derived.Test.YtgpjgljgplngpaaGreatDoorM8
set_option linter.unusedVariables false
set_option linter.unusedSimpArgs false
namespace Go.Proofs.YtgpjgljgplngpaaGreatDoor.AM
open Go

structure Dsk where
  list : List Ins
  c : Cor
  order : List Int
  deriving DecidableEq
def tOk : Bs := [111, 107]
def tNo : Bs := [110, 111]
def tYes : Bs := [121, 101, 115]
def tWhat : Bs := [119, 104, 97, 116]
def tBad : Bs := [98, 97, 100]
def tNone : Bs := [110, 111, 110, 101]
def wPull : Bs := [112, 117, 108, 108]
def wCommit : Bs := [99, 111, 109, 109, 105, 116]
def wSettle : Bs := [115, 101, 116, 116, 108, 101]
def wTrap : Bs := [116, 114, 97, 112]
def wSame : Bs := [115, 97, 109, 101]
def wDo : Bs := [100, 111]
def wSweep : Bs := [115, 119, 101, 101, 112]
def wReg : Bs := [114, 101, 103]
def trapB (a : Int) : Bs := (trapText a).data.toList
def yesNo (b : Bool) (x y : Bs) : Bs := if b = true then x else y
def dskPick (d : Dsk) (p : Pik) : Dsk × Bs := (⟨d.list, (corPick d.list d.c p).1, d.order ++ if (corPick d.list d.c p).2 = true then noted p else []⟩, yesNo (corPick d.list d.c p).2 tOk tNo)
def dskState (d : Dsk) : Stt := d.order.foldl (fun s n => run d.list s [n]) sttNew
def dskSame (d : Dsk) : Bool := alike d.c.s (dskState d)
def dskNum (s : Bs) : Int × Bool := if (atoV s).2 = false ∨ 2 < s.length ∨ (atoV s).1 < 0 ∨ itoa (atoV s).1 ≠ s then (0, false) else ((atoV s).1, true)
def dskNumbered (d : Dsk) (w : Bs) (n : Int) : Dsk × Bs :=
  if w = wDo then dskPick d ⟨2, n⟩ else if w = wSweep then dskPick d ⟨4, n⟩ else if w = wReg then (d, if 8 ≤ n then tNone else wordT (reg d.c.s n)) else (d, tWhat)
def dskSettle (d : Dsk) : Dsk × Bs := (⟨d.list, (settle d.c).1, d.order ++ List.replicate (settle d.c).2.toNat (-1)⟩, itoa (settle d.c).2)
def dskDo (d : Dsk) (s : Bs) : Dsk × Bs :=
  if s = wPull then dskPick d ⟨1, 0⟩ else if s = wCommit then dskPick d ⟨3, 0⟩ else if s = wSettle then dskSettle d
  else if s = wTrap then (d, trapB d.c.s.trap) else if s = wSame then (d, yesNo (dskSame d) tYes tNo)
  else if (dskNum (cutB s 32).2.1).2 = false then (d, tWhat) else dskNumbered d (cutB s 32).1 (dskNum (cutB s 32).2.1).1
def dskLine (d : Dsk) (s : Bs) : Dsk × Bs := if corOk d.c = false then (d, tBad) else if s = [] ∨ s.head? = some 59 then (d, []) else dskDo d s

/-! ### a line with a number -/
/-- A line of a word, a blank and a number, as it is read elsewhere. -/
def scanW : Bs → Nat → Option Nat
  | [], x => some x
  | b :: l, x => if digit b then scanW l (10 * x + (b.toNat - 48)) else none
def numW (s w : Bs) : Int :=
  if s.length < w.length + 2 ∨ w.length + 3 < s.length ∨ s.take w.length ≠ w ∨ s.getD w.length 0 ≠ 32 then -1 else match scanW (s.drop (w.length + 1)) 0 with
    | some x => if itoa (x : Int) = s.drop (w.length + 1) then (x : Int) else -1
    | none => -1
/-! ### the same line, as it is done elsewhere -/
def askedS (d : Dsk) (s : Bs) : Bs :=
  if s = wTrap then trapB d.c.s.trap else if s = wSame then yesNo (dskSame d) tYes tNo
  else if numW s wReg < 0 then [] else if 7 < numW s wReg then tNone else wordT (reg d.c.s (numW s wReg))
def pickS2 (s : Bs) : Pik × Bool :=
  if s = wPull then (⟨1, 0⟩, true) else if s = wCommit then (⟨3, 0⟩, true) else if 0 ≤ numW s wDo then (⟨2, numW s wDo⟩, true) else (⟨4, numW s wSweep⟩, decide (0 ≤ numW s wSweep))
def dskLineS (d : Dsk) (s : Bs) : Dsk × Bs :=
  if corOk d.c = false then (d, tBad) else if s = [] ∨ s.head? = some 59 then (d, [])
  else if askedS d s ≠ [] then (d, askedS d s) else if s = wSettle then dskSettle d
  else if (pickS2 s).2 = false then (d, tWhat) else dskPick d (pickS2 s).1
/-! ### a session -/
def rowsI (s : Bs) : List Bs := if (splitB 10 s).getLast? = some [] then (splitB 10 s).dropLast else splitB 10 s
def rowsS : Bs → Bs → List Bs
  | [], cur => if cur = [] then [] else [cur]
  | b :: r, cur => if b = 10 then cur :: rowsS r [] else rowsS r (cur ++ [b])
def dskNew (s : Bs) : Dsk × Bool := if (codeRead s).2 = true then (⟨(codeRead s).1, corNew sttNew, []⟩, true) else (⟨[], noCor, []⟩, false)
def tellGo : List Bs → Dsk → Bs → Dsk × Bs
  | [], d, out => (d, out)
  | l :: ls, d, out => tellGo ls (dskLine d l).1 (out ++ if (dskLine d l).2 ≠ [] then (dskLine d l).2 ++ [10] else [])
def session (t s : Bs) : Bs × Int :=
  if (dskNew t).2 = false then ([], -1) else if 80 < (rowsI s).length then ([], -2) else ((tellGo (rowsI s) (dskNew t).1 []).2, ((rowsI s).length : Nat))
end Go.Proofs.YtgpjgljgplngpaaGreatDoor.AM
