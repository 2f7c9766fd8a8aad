/- What the program's functions come to, said plainly: commands, memory, states, steps, runs. No conditions. -/
import Derived.Test.YtlkpicpeoimcjaaSp4
set_option linter.unusedVariables false
set_option linter.unusedSimpArgs false
namespace Go.Proofs.Ytlkpicpeoimcjaa.AM
open Go

/-! ### commands: which parts they bear (1: r, 2: a, 4: b, 8: n) -/
def hasL : List Int := [0, 9, 7, 3, 7, 7, 15, 7, 7, 3, 11, 14, 3, 10, 2, 0]
def has (op : Int) : Int := if inR op 1 15 = true then hasL.getD op.toNat 0 else 0
def hasR (op : Int) : Bool := decide (band (has op) 1 ≠ 0)
def hasA (op : Int) : Bool := decide (band (has op) 2 ≠ 0)
def hasB (op : Int) : Bool := decide (band (has op) 4 ≠ 0)
def hasN (op : Int) : Bool := decide (band (has op) 8 ≠ 0)
def fieldOk (x : Int) (h : Bool) : Bool := inR x 0 7 && (h || decide (x = 0))
def insOk (x : Ins) : Bool := inR x.op 1 15 && fieldOk x.r (hasR x.op) && fieldOk x.a (hasA x.op) && fieldOk x.b (hasB x.op) && inR x.n (-128) 127 && (hasN x.op || decide (x.n = 0))
def sets (x : Ins) : Int := if hasR x.op = true then x.r else -1

/-! ### memory -/
def memOk (m : Mem) : Bool := decide (m.words.length = 24) && decide (m.gone.length = 24) && m.words.all wordOk
def memNew : Mem := ⟨List.replicate 24 noWord, List.replicate 24 false⟩
def filt (m : Mem) (w : Word) : Word := if w.is = true ∧ inR w.key.base 0 (m.gone.length - 1) = true ∧ m.gone.getD w.key.base.toNat false = true then bare w else w
def readT (m : Mem) (by_ : Word) (n : Int) : Int := if tryW by_ n 1 = 0 then (if inR n 0 (m.words.length - 1) = true then 0 else 4) else tryW by_ n 1
def read (m : Mem) (by_ : Word) (n : Int) : Word × Int := if readT m by_ n = 0 then (filt m (taken by_ (m.words.getD n.toNat noWord)), 0) else (noWord, readT m by_ n)
def writeT (m : Mem) (by_ : Word) (n : Int) (w : Word) : Int := if tryW by_ n 2 ≠ 0 then tryW by_ n 2 else if inR n 0 (m.words.length - 1) = false then 4 else if mayPut by_ w = false then 3 else 0
def sweep (m : Mem) (n : Int) : Mem := if memOk m = true then (if inR n 0 23 = true then ⟨m.words.set n.toNat (filt m (m.words.getD n.toNat noWord)), m.gone⟩ else m) else noMem
def dropM (m : Mem) (n : Int) : Mem := if memOk m = true then (if inR n 0 23 = true then ⟨m.words, m.gone.set n.toNat true⟩ else m) else noMem

/-! ### states -/
def sttOk (s : Stt) : Bool := s.regs.all wordOk && decide (s.regs.length = 8) && wordOk s.pc && memOk s.mem && inR s.trap 0 5
def fetch (l : List Ins) (pc : Word) : Ins × Int :=
  if tryW pc pc.n 4 ≠ 0 then (noIns, tryW pc pc.n 4) else if inR pc.n 0 (l.length - 1) = true ∧ insOk (l.getD pc.n.toNat noIns) = true then (l.getD pc.n.toNat noIns, 0) else (noIns, 4)
def fxTrap (t : Int) (pc : Word) : Fx := ⟨t, -1, noWord, pc, -1, noWord, -1⟩
def isW (a : Word) : Word := if a.is = true then plain 1 else plain 0
def valueOf (x : Ins) (a b got : Word) : Word :=
  if x.op = 1 then plain x.n else if x.op = 2 then plain (wadd a.n b.n) else if x.op = 3 then a else if x.op = 4 then weaken a b.n else if x.op = 5 then narrow a b.n
  else if x.op = 6 then point a (wadd (wadd a.n b.n) x.n) else if x.op = 7 then sealBy a b else if x.op = 8 then openBy a b else if x.op = 10 then got else isW a
def nextPc (pc : Word) : Word := point pc (wadd pc.n 1)
def work (x : Ins) (pc a b got : Word) : Fx :=
  if x.op = 11 then ⟨0, -1, noWord, nextPc pc, wadd a.n x.n, b, -1⟩
  else if x.op = 12 then (if tryW a a.n 4 ≠ 0 then fxTrap (tryW a a.n 4) pc else ⟨0, x.r, nextPc pc, a, -1, noWord, -1⟩)
  else if x.op = 13 then ⟨0, -1, noWord, if a.n = 0 then point pc (wadd pc.n x.n) else nextPc pc, -1, noWord, -1⟩
  else if x.op = 14 then (if tryW a a.n 32 ≠ 0 then fxTrap (tryW a a.n 32) pc else ⟨0, -1, noWord, nextPc pc, -1, noWord, a.key.base⟩)
  else if x.op = 15 then fxTrap 5 pc
  else ⟨0, sets x, if 0 ≤ sets x then valueOf x a b got else noWord, nextPc pc, -1, noWord, -1⟩
def memOf (m : Mem) (x : Ins) (a b : Word) : Word × Int := if x.op = 10 then read m a (wadd a.n x.n) else if x.op = 11 then (noWord, writeT m a (wadd a.n x.n) b) else (noWord, 0)
def applyFx (s : Stt) (e : Fx) : Stt :=
  ⟨if inR e.r 0 7 = true then s.regs.set e.r.toNat e.val else s.regs, e.next,
   ⟨if inR e.adr 0 23 = true then s.mem.words.set e.adr.toNat e.put else s.mem.words, if inR e.drop 0 23 = true then s.mem.gone.set e.drop.toNat true else s.mem.gone⟩, s.trap⟩
def reg (s : Stt) (r : Int) : Word := s.regs.getD r.toNat noWord
/-- What the command at the place comes to. -/
def fxOf (l : List Ins) (s : Stt) : Fx :=
  if (fetch l s.pc).2 ≠ 0 then fxTrap (fetch l s.pc).2 s.pc
  else if (memOf s.mem (fetch l s.pc).1 (reg s (fetch l s.pc).1.a) (reg s (fetch l s.pc).1.b)).2 ≠ 0 then fxTrap (memOf s.mem (fetch l s.pc).1 (reg s (fetch l s.pc).1.a) (reg s (fetch l s.pc).1.b)).2 s.pc
  else work (fetch l s.pc).1 s.pc (reg s (fetch l s.pc).1.a) (reg s (fetch l s.pc).1.b) (memOf s.mem (fetch l s.pc).1 (reg s (fetch l s.pc).1.a) (reg s (fetch l s.pc).1.b)).1
def withTrap (s : Stt) (t : Int) : Stt := ⟨s.regs, s.pc, s.mem, t⟩
def step (l : List Ins) (s : Stt) : Stt :=
  if sttOk s = false then noStt else if s.trap ≠ 0 then s else if (fxOf l s).trap ≠ 0 then withTrap s (fxOf l s).trap else applyFx s (fxOf l s)
def withMem (s : Stt) (m : Mem) : Stt := ⟨s.regs, s.pc, m, s.trap⟩
def runOne (l : List Ins) (s : Stt) (n : Int) : Stt := if n < 0 then step l s else withMem s (sweep s.mem n)
def run (l : List Ins) (s : Stt) (ns : List Int) : Stt := if sttOk s = false then noStt else if 600 < ns.length then s else ns.foldl (runOne l) s
def keysOf (ws : List Word) : List Word := ws.filter (·.is)
def keys (s : Stt) : List Word := keysOf (s.regs ++ [s.pc] ++ s.mem.words)
def allUnder (ws by_ : List Word) : Bool := ws.all fun w => unders w by_
def closed (s t : Stt) : Bool := sttOk s && sttOk t && allUnder (keys t) (keys s)
def alike (s t : Stt) : Bool := decide (s.regs = t.regs) && decide (s.pc = t.pc) && decide (s.mem.words = t.mem.words) && decide (s.mem.gone = t.mem.gone) && decide (s.trap = t.trap)
end Go.Proofs.Ytlkpicpeoimcjaa.AM
