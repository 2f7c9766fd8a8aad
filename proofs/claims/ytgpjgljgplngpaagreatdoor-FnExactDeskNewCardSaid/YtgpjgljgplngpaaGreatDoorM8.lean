/- A core on its way: what is for good is what is done in order. No conditions. -/
import Derived.Test.YtgpjgljgplngpaaGreatDoorM7
set_option linter.unusedVariables false
set_option linter.unusedSimpArgs false
namespace Go.Proofs.YtgpjgljgplngpaaGreatDoor.AM
open Go

section
variable {α : Type} {p q : α → Bool} {d x : α} {xs ys : List α} {k n : Nat}
end

section
variable {l : List Ins} {c c' : Cor} {s : Stt} {x y z : Ent} {i i' : Ins} {pc a b g by_ w : Word} {n r : Int} {k : Nat}
/-- An entry stays, or one that was under way is done. -/
def Turn (x y : Ent) : Prop := y = x ∨ (x.done = false ∧ y.x = x.x ∧ setBy y = setBy x)
def Turns (c c' : Cor) (k : Nat) : Prop := k ≤ c.rob.length ∧ k ≤ c'.rob.length ∧ ∀ j, j < k → Turn (c.rob.getD j noEnt) (c'.rob.getD j noEnt)
def Known (c : Cor) (k : Nat) (x : Ins) : Prop := (hasA x.op = true → (valueRaw c k x.a).2 = true) ∧ (hasB x.op = true → (valueRaw c k x.b).2 = true) ∧ (x.op = 10 → (c.rob.take k).any waits = false)
/-- Two memories that tell the same. -/
def likeMem (m m' : Mem) : Prop := m'.words.length = m.words.length ∧ m'.gone = m.gone ∧ ∀ by_ n, read m' by_ n = read m by_ n
/-! ### the first entry goes -/
structure Shift (c c' : Cor) (x : Ent) : Prop where
  rob : c.rob = x :: c'.rob
  dn : x.done = true
  tr : x.e.trap = 0
  dr : ¬ 0 ≤ x.e.drop
  ad : x.x.op = 11 ∨ x.e.adr = -1
  s : c'.s = applyFx c.s x.e
  ok : sttOk c.s = true
/-! ### what is swept tells the same -/
end
end Go.Proofs.YtgpjgljgplngpaaGreatDoor.AM
set_option linter.unusedVariables false
set_option linter.unusedSimpArgs false
namespace Go.Proofs.YtgpjgljgplngpaaGreatDoor.AM
open Go

section
variable {l : List Ins} {c c' d : Cor} {s : Stt} {x y z : Ent} {p : Pik} {pc a b g by_ w nx : Word} {n r i : Int} {k m t : Nat} {e : Fx} {st : Bool} {i' : Ins}
def nxt (x : Ent) : Word := if x.done = true then x.e.next else x.guess
def pcAt (c : Cor) (k : Nat) : Word := if k = 0 then c.s.pc else nxt (c.rob.getD (k - 1) noEnt)
def trapD (x : Ent) : Prop := x.done = true ∧ ¬ x.e.trap = 0
def fetOk (l : List Ins) (x : Ent) : Prop := ((fetch l x.pc).2 = 0 ∧ x.x = (fetch l x.pc).1) ∨ (¬ (fetch l x.pc).2 = 0 ∧ x.done = true ∧ x.x = noIns ∧ x.e = fxTrap (fetch l x.pc).2 x.pc)
def effOk (l : List Ins) (c : Cor) (k : Nat) (x : Ent) : Prop := x.done = true → (fetch l x.pc).2 = 0 → Known c k x.x ∧ x.e = doneBy c k x
structure CInv (l : List Ins) (c : Cor) : Prop where
  ok : corOk c = true
  fet : ∀ k, k < c.rob.length → fetOk l (c.rob.getD k noEnt)
  eff : ∀ k, k < c.rob.length → effOk l c k (c.rob.getD k noEnt)
  pcs : c.s.trap = 0 → ∀ k, k < c.rob.length → (c.rob.getD k noEnt).pc = pcAt c k
  nex : c.s.trap = 0 → c.stop = false → c.next = pcAt c c.rob.length
  mid : ∀ k, k < c.rob.length → trapD (c.rob.getD k noEnt) → k + 1 = c.rob.length ∧ c.stop = true
  stp : c.s.trap = 0 → c.stop = true → 0 < c.rob.length ∧ trapD (c.rob.getD (c.rob.length - 1) noEnt)
  trp : ¬ c.s.trap = 0 → c.rob = []
/-- What a pick makes of the state. -/
def pickS (l : List Ins) (c : Cor) (p : Pik) : Stt :=
  if (corPick l c p).2 = true ∧ p.kind = 3 then step l c.s else if (corPick l c p).2 = true ∧ p.kind = 4 then withMem c.s (sweep c.s.mem p.n) else c.s
end
end Go.Proofs.YtgpjgljgplngpaaGreatDoor.AM
set_option linter.unusedVariables false
set_option linter.unusedSimpArgs false
namespace Go.Proofs.YtgpjgljgplngpaaGreatDoor.AM
open Go

section
variable {l : List Ins} {c d : Cor} {s : Stt} {x y z : Ent} {p : Pik} {ps : List Pik} {n r i : Int} {k m t j : Nat} {w N : Int}
/-- Steps, one behind the other. -/
def stepN (l : List Ins) : Nat → Stt → Stt
  | 0, s => s
  | n + 1, s => stepN l n (step l s)
/-- Up to here nothing has trapped. -/
def clear (l : List Ins) (s : Stt) (j : Nat) : Prop := ∀ i, i < j → (stepN l i s).trap = 0
/-! ### runs of picks -/
def Kept (l : List Ins) (s : Stt) (x : Cor × List Int) : Prop := CInv l x.1 ∧ x.1.s = x.2.foldl (runOne l) s
/-! ### keys that are held -/
def fromEnt (ws : List Word) (x : Ent) : Prop := fromW ws x.pc ∧ fromW ws x.guess ∧ fromE ws x.e
def fromC (ws : List Word) (c : Cor) : Prop := fromS ws c.s ∧ (∀ x, x ∈ c.rob → fromEnt ws x) ∧ fromW ws c.next
section
variable {ws : List Word} {a b by_ g : Word} {e : Fx} {q : Int}
end
end
end Go.Proofs.YtgpjgljgplngpaaGreatDoor.AM
