/- What is drawn: rows that begin further on, cores; what a commit comes to. No conditions. -/
import Derived.Test.YtgpjgljgplngpaaGreatDoorM6
import Derived.ProofKit
import Derived.OpenShut
import Derived.WalkKit
set_option linter.unusedVariables false
set_option linter.unusedSimpArgs false
namespace Go.Proofs.YtgpjgljgplngpaaGreatDoor.AM
open Go

def cutW (ws : List Word) (o : Nat) (xs : List Word) : Prop := ((rows ws).drop o).take (xs.length * 6) = rows xs ∧ o + xs.length * 6 ≤ (rows ws).length
def smallS (s : Stt) : Prop := s.regs.length ≤ 8 ∧ s.mem.words.length ≤ 24 ∧ s.mem.gone.length ≤ 24
def Stt.ownC (a b c p o : Nat) (s : Stt) : List AV := .slice a p s.regs.length 0 :: (s.pc.cells ++ [.slice b o s.mem.words.length 0, .slice c 0 s.mem.gone.length 0, .int .i64 s.trap])
theorem ownC_eq {a b c p o : Nat} {s : Stt} : s.ownC a b c p o = .slice a p s.regs.length 0 :: (s.pc.cells ++ [.slice b o s.mem.words.length 0, .slice c 0 s.mem.gone.length 0, .int .i64 s.trap]) := (rfl)
attribute [go_sem] ownC_eq
end Go.Proofs.YtgpjgljgplngpaaGreatDoor.AM
set_option linter.unusedVariables false
set_option linter.unusedSimpArgs false
namespace Go.Proofs.YtgpjgljgplngpaaGreatDoor.AM
open Go

def cutI (gs : List Int) (g : Nat) (xs : List Int) : Prop := ((ints gs).drop g).take xs.length = ints xs ∧ g + xs.length ≤ gs.length
def smallC (c : Cor) : Prop := smallS c.s ∧ c.rob.length ≤ 12 ∧ c.guesses.length ≤ 48
def Cor.ownC (a b c d e p o g : Nat) (x : Cor) : List AV := x.s.ownC a b c p o ++ .slice d 0 x.rob.length 0 :: (x.next.cells ++ [.bool x.stop, .slice e g x.guesses.length 0])
theorem ownCC_eq {a b c d e p o g : Nat} {x : Cor} : x.ownC a b c d e p o g = x.s.ownC a b c p o ++ .slice d 0 x.rob.length 0 :: (x.next.cells ++ [.bool x.stop, .slice e g x.guesses.length 0]) := (rfl)
attribute [go_sem] ownCC_eq
section
variable {xs : List Ent}
def ent0 (xs : List Ent) : Ent := xs.getD 0 noEnt
def withDone (x : Ent) (d : Bool) : Ent := ⟨x.pc, x.x, d, x.e, x.guess⟩
def withR (x : Ent) (n : Int) : Ent := ⟨x.pc, x.x, x.done, ⟨x.e.trap, n, x.e.val, x.e.next, x.e.adr, x.e.put, x.e.drop⟩, x.guess⟩
def withVal (x : Ent) (w : Word) : Ent := ⟨x.pc, x.x, x.done, ⟨x.e.trap, x.e.r, w, x.e.next, x.e.adr, x.e.put, x.e.drop⟩, x.guess⟩
end
end Go.Proofs.YtgpjgljgplngpaaGreatDoor.AM
set_option linter.unusedVariables false
set_option linter.unusedSimpArgs false
namespace Go.Proofs.YtgpjgljgplngpaaGreatDoor.AM
open Go

section
variable {c : Cor} {l : List Ins} {xs : List Ent}
end
end Go.Proofs.YtgpjgljgplngpaaGreatDoor.AM
