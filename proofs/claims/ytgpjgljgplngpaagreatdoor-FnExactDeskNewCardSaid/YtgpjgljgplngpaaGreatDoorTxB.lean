/- Desks: what is one's own of them; what is marked. No conditions. -/
import Derived.Test.YtgpjgljgplngpaaGreatDoorTxA
import Derived.Test.YtgpjgljgplngpaaGreatDoorTx5
set_option linter.unusedVariables false
set_option linter.unusedSimpArgs false
namespace Go.Proofs.YtgpjgljgplngpaaGreatDoor.AM
open Go

def Dsk.cells (d : Dsk) : List AV := .sl d.list.length d.list.length (rows d.list) :: (d.c.cells ++ [.sl d.order.length d.order.length (ints d.order)])
def Dsk.own (a b c e f g h : Nat) (d : Dsk) : List AV := .slice a 0 d.list.length 0 :: (d.c.own b c e f g ++ [.slice h 0 d.order.length 0])
def Dsk.blks (d : Dsk) : Heap := ⟨5, rows d.list, true, false⟩ :: (d.c.blks ++ [⟨1, ints d.order, true, false⟩])
theorem dskCells_eq {d : Dsk} : d.cells = .sl d.list.length d.list.length (rows d.list) :: (d.c.cells ++ [.sl d.order.length d.order.length (ints d.order)]) := (rfl)
theorem dskOwn_eq {a b c e f g h : Nat} {d : Dsk} : d.own a b c e f g h = .slice a 0 d.list.length 0 :: (d.c.own b c e f g ++ [.slice h 0 d.order.length 0]) := (rfl)
theorem dskBlks_eq {d : Dsk} : d.blks = ⟨5, rows d.list, true, false⟩ :: (d.c.blks ++ [⟨1, ints d.order, true, false⟩]) := (rfl)
attribute [go_sem] dskCells_eq dskOwn_eq dskBlks_eq
theorem dskNew_yes {l : Bs} (h : (codeRead l).2 = true) : dskNew l = (⟨(codeRead l).1, corNew sttNew, []⟩, true) := by rw [dskNew, if_pos h]
theorem dskNew_no {l : Bs} (h : (codeRead l).2 = false) : dskNew l = (⟨[], noCor, []⟩, false) := by rw [dskNew, if_neg (by rw [h]; exact Bool.noConfusion)]
def Dsk.marked (d : Dsk) (t : Int) : Dsk := ⟨mrow markI 5 t d.list.length, d.c.markedQ (t + (5 * d.list.length : Nat)), marks (t + (5 * d.list.length : Nat) + (d.c.cost : Nat)) d.order.length⟩
def Dsk.cost (d : Dsk) : Nat := 5 * d.list.length + d.c.cost + d.order.length
def Dsk.fit (d : Dsk) : Prop := d.list.length ≤ 1048576 ∧ d.c.fit ∧ d.order.length ≤ 1048576
theorem sttNew_fit : sttNew.fit := by simp [Stt.fit, Mem.fit, sttNew, memNew]
theorem dskNew_fit {l : Bs} : (dskNew l).1.fit := by
  cases h : (codeRead l).2 with
  | true =>
    rw [dskNew_yes h]
    have h1 := codeOk_len (codeRead_is h).1
    exact ⟨by show (codeRead l).1.length ≤ 1048576; omega, corNew_fit sttNew_fit, Nat.zero_le _⟩
  | false =>
    rw [dskNew_no h]
    exact ⟨Nat.zero_le _, by simp [Cor.fit, Stt.fit, Mem.fit, noCor, noStt, noMem], Nat.zero_le _⟩
end Go.Proofs.YtgpjgljgplngpaaGreatDoor.AM
