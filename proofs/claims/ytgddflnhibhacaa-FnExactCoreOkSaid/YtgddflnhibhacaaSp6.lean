/- What the program's functions come to, said plainly: many commands under way at once. No conditions. -/
import Derived.Test.YtgddflnhibhacaaSp5
set_option linter.unusedVariables false
set_option linter.unusedSimpArgs false
namespace Go.Proofs.Ytgddflnhibhacaa.AM
open Go

def entOk (x : Ent) : Bool := wordOk x.pc && wordOk x.guess && wordOk x.e.val && wordOk x.e.next && wordOk x.e.put && (insOk x.x || decide (x.x = noIns)) && inR x.e.trap 0 5 && inR x.e.r (-1) 7 && decide (x.e.drop ≤ 4096)
def corOk (c : Cor) : Bool := c.rob.all entOk && sttOk c.s && decide (c.rob.length ≤ 6) && wordOk c.next && guessOk c.guesses
def corNew (s : Stt) : Cor := if sttOk s = true then ⟨s, [], s.pc, false, guessNew⟩ else noCor
def setBy (x : Ent) : Int := if x.done = true then x.e.r else sets x.x
/-- The last of the first k entries that is so, or -1. -/
def lastAt {α : Type} (p : α → Bool) (d : α) (xs : List α) : Nat → Int
  | 0 => -1
  | k + 1 => if p (xs.getD k d) = true then (k : Int) else lastAt p d xs k
def upTo (i : Int) (n : Nat) : Nat := min i.toNat n
def source (rob : List Ent) (i r : Int) : Int := if r < 0 then -1 else lastAt (fun x => decide (setBy x = r)) noEnt rob (upTo i rob.length)
def valueRaw (c : Cor) (i r : Int) : Word × Bool :=
  if source c.rob i r < 0 then (reg c.s r, true) else if (c.rob.getD (source c.rob i r).toNat noEnt).done = false then (noWord, false) else ((c.rob.getD (source c.rob i r).toNat noEnt).e.val, true)
def value (c : Cor) (i r : Int) : Word × Bool := if inR r 0 7 = true ∧ corOk c = true then valueRaw c i r else (noWord, false)
def withRob (c : Cor) (rob : List Ent) (next : Word) (stop : Bool) : Cor := ⟨c.s, rob, next, stop, c.guesses⟩
def pull (l : List Ins) (c : Cor) : Cor × Bool :=
  if corOk c = false then (noCor, false)
  else if c.stop = true ∨ c.rob.length = 6 ∨ c.s.trap ≠ 0 then (c, false)
  else if (fetch l c.next).2 ≠ 0 then (withRob c (c.rob ++ [⟨c.next, noIns, true, fxTrap (fetch l c.next).2 c.next, c.next⟩]) c.next true, true)
  else (withRob c (c.rob ++ [⟨c.next, (fetch l c.next).1, false, noFx, guess c.guesses c.next⟩]) (guess c.guesses c.next) c.stop, true)
def waits (y : Ent) : Bool := decide (y.x.op = 11) && !y.done || decide (y.x.op = 14)
def ready (c : Cor) (i : Int) : Bool :=
  corOk c && inR i 0 (c.rob.length - 1) && !(c.rob.getD i.toNat noEnt).done &&
  (!hasA (c.rob.getD i.toNat noEnt).x.op || (valueRaw c i (c.rob.getD i.toNat noEnt).x.a).2) && (!hasB (c.rob.getD i.toNat noEnt).x.op || (valueRaw c i (c.rob.getD i.toNat noEnt).x.b).2) &&
  (!decide ((c.rob.getD i.toNat noEnt).x.op = 10) || !(c.rob.take i.toNat).any waits)
def puts (n : Int) (x : Ent) : Bool := decide (x.x.op = 11) && x.done && decide (x.e.trap = 0) && decide (x.e.adr = n)
def found (c : Cor) (i : Int) (by_ : Word) (n : Int) : Word × Int :=
  if (read c.s.mem by_ n).2 ≠ 0 then (noWord, (read c.s.mem by_ n).2)
  else if lastAt (puts n) noEnt c.rob (upTo i c.rob.length) < 0 then (read c.s.mem by_ n)
  else (filt c.s.mem (taken by_ (c.rob.getD (lastAt (puts n) noEnt c.rob (upTo i c.rob.length)).toNat noEnt).e.put), 0)
def memAt (c : Cor) (i : Int) (x : Ins) (a b : Word) : Word × Int := if x.op = 10 then found c i a (wadd a.n x.n) else if x.op = 11 then (noWord, writeT c.s.mem a (wadd a.n x.n) b) else (noWord, 0)
def fxAt (c : Cor) (i : Int) (x : Ins) (pc a b : Word) : Fx := if (memAt c i x a b).2 ≠ 0 then fxTrap (memAt c i x a b).2 pc else work x pc a b (memAt c i x a b).1
def doneBy (c : Cor) (i : Int) (x : Ent) : Fx := fxAt c i x.x x.pc (valueRaw c i x.x.a).1 (valueRaw c i x.x.b).1
def doE (c : Cor) (i : Nat) (x : Ent) (e : Fx) : Cor :=
  if e.trap ≠ 0 then withRob c ((c.rob.set i ⟨x.pc, x.x, true, e, x.guess⟩).take (i + 1)) c.next true
  else if e.next ≠ x.guess then withRob c ((c.rob.set i ⟨x.pc, x.x, true, e, x.guess⟩).take (i + 1)) e.next false
  else withRob c (c.rob.set i ⟨x.pc, x.x, true, e, x.guess⟩) c.next c.stop
def do_ (c : Cor) (i : Int) : Cor × Bool :=
  if corOk c = false then (noCor, false) else if ready c i = false then (c, false) else (doE c i.toNat (c.rob.getD i.toNat noEnt) (doneBy c i (c.rob.getD i.toNat noEnt)), true)
def commitE (c : Cor) (x : Ent) : Cor :=
  if x.e.trap ≠ 0 then ⟨⟨c.s.regs, x.pc, c.s.mem, x.e.trap⟩, [], c.next, true, c.guesses⟩
  else if 0 ≤ x.e.drop then ⟨applyFx c.s x.e, [], x.e.next, false, learn c.guesses x.pc x.e.next⟩
  else ⟨applyFx c.s x.e, c.rob.drop 1, c.next, c.stop, learn c.guesses x.pc x.e.next⟩
def commit (c : Cor) : Cor × Bool :=
  if corOk c = false then (noCor, false) else if c.rob = [] ∨ (c.rob.getD 0 noEnt).done = false ∨ c.s.trap ≠ 0 then (c, false) else (commitE c (c.rob.getD 0 noEnt), true)
def withS (c : Cor) (s : Stt) : Cor := ⟨s, c.rob, c.next, c.stop, c.guesses⟩
def corPick (l : List Ins) (c : Cor) (p : Pik) : Cor × Bool :=
  if corOk c = false then (noCor, false) else if p.kind = 1 then pull l c else if p.kind = 2 then do_ c p.n else if p.kind = 3 then commit c
  else if p.kind = 4 then (withS c (withMem c.s (sweep c.s.mem p.n)), inR p.n 0 23) else (c, false)
def noted (p : Pik) : List Int := if p.kind = 3 then [-1] else if p.kind = 4 then [p.n] else []
def corStep (l : List Ins) (x : Cor × List Int) (p : Pik) : Cor × List Int := ((corPick l x.1 p).1, x.2 ++ if (corPick l x.1 p).2 = true then noted p else [])
def corRun (l : List Ins) (s : Stt) (ps : List Pik) : Cor × List Int := if 600 < ps.length ∨ sttOk s = false then (noCor, []) else ps.foldl (corStep l) (corNew s, [])
/-- All that is under way is done as far as it can be, one behind the other. n: so many rounds at most. -/
def doAll : Nat → Nat → Cor → Cor
  | 0, _, c => c
  | n + 1, i, c => if i < c.rob.length then doAll n (i + 1) (do_ c i).1 else c
def settleGo : Nat → Cor → Int → Cor × Int
  | 0, c, k => (c, k)
  | n + 1, c, k => if c.rob = [] then (c, k) else settleGo n (commit (doAll 7 0 c)).1 (if (commit (doAll 7 0 c)).2 = true then k + 1 else k)
def settle (c : Cor) : Cor × Int := if corOk c = false then (noCor, 0) else settleGo 600 c 0
def judgeSame (l : List Ins) (s : Stt) (ps : List Pik) : Bool := sttOk s && decide (ps.length ≤ 600) && alike (corRun l s ps).1.s (run l s (corRun l s ps).2)
def heldE (x : Ent) : List Word := keysOf [x.pc, x.guess, x.e.val, x.e.next, x.e.put]
def held (c : Cor) : List Word := keys c.s ++ (c.rob.map heldE).flatten ++ keysOf [c.next]
def judgeGo (l : List Ins) (ks : List Word) : List Pik → Cor → Bool
  | [], _ => true
  | p :: ps, c => allUnder (held (corPick l c p).1) ks && judgeGo l ks ps (corPick l c p).1
def judgeKeys (l : List Ins) (s : Stt) (ps : List Pik) : Bool := sttOk s && decide (ps.length ≤ 600) && judgeGo l (keys s) ps (corNew s)
def judgeAll (l : List Ins) (s : Stt) (ps : List Pik) : Bool := judgeSame l s ps && judgeKeys l s ps
/-- Step by step, n at most, while nothing has trapped. -/
def ordGo (l : List Ins) : Nat → Stt → Int → Stt × Int
  | 0, s, k => (s, k)
  | n + 1, s, k => if s.trap = 0 then ordGo l n (step l s) (k + 1) else (s, k)
def inOrder (l : List Ins) (s : Stt) (n : Int) : Stt × Int := if sttOk s = false then (noStt, 0) else ordGo l (min n 600).toNat s 0
def pulls (l : List Ins) : Nat → Cor → Cor
  | 0, c => c
  | n + 1, c => pulls l n (pull l c).1
def outGo (l : List Ins) (w : Nat) : Nat → Cor → Int → Cor × Int
  | 0, c, k => (c, k)
  | n + 1, c, k => if c.s.trap = 0 then outGo l w n (settle (pulls l w c)).1 (k + (settle (pulls l w c)).2) else (c, k)
def outOrder (l : List Ins) (s : Stt) (w n : Int) : Stt × Int :=
  if sttOk s = false then (noStt, 0) else ((outGo l (if inR w 1 6 = true then w.toNat else 1) (min n 600).toNat (corNew s) 0).1.s, (outGo l (if inR w 1 6 = true then w.toNat else 1) (min n 600).toNat (corNew s) 0).2)
def agree (l : List Ins) (s : Stt) (w n : Int) : Bool := sttOk s && alike (outOrder l s w n).1 (ordGo l (outOrder l s w n).2.toNat s 0).1
end Go.Proofs.Ytgddflnhibhacaa.AM
