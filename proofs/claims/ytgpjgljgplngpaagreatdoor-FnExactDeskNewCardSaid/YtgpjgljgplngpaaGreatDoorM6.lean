/- What is drawn; what steps and picks keep right. No conditions. -/
import Derived.Test.YtgpjgljgplngpaaGreatDoorM5
set_option linter.unusedVariables false
set_option linter.unusedSimpArgs false
namespace Go.Proofs.YtgpjgljgplngpaaGreatDoor.AM
open Go

/-! ### numbers -/
/-! ### what is made of words -/
/-! ### bounds that are packed are packed as they are -/
/-! ### steps -/
section
variable {m : Mem} {s : Stt} {l : List Ins} {x : Ins} {pc a b g by_ w : Word} {n : Int}
def fxOk (e : Fx) : Prop := wordOk e.val = true ∧ wordOk e.next = true ∧ wordOk e.put = true ∧ (0 ≤ e.trap ∧ e.trap ≤ 5)
end
end Go.Proofs.YtgpjgljgplngpaaGreatDoor.AM
set_option linter.unusedVariables false
set_option linter.unusedSimpArgs false
namespace Go.Proofs.YtgpjgljgplngpaaGreatDoor.AM
open Go

/-- A cursor over bytes. -/
structure Cu where
  b : List UInt8
  i : Int
  h : Int
  ok : 0 ≤ i ∧ b.length ≤ 1048576
def Cu.cells (c : Cu) : List AV := [.sl c.b.length c.b.length (bytesV c.b), .int .i64 c.i, .int .i64 c.h]
theorem cu_cells {c : Cu} : c.cells = [.sl c.b.length c.b.length (bytesV c.b), .int .i64 c.i, .int .i64 c.h] := (rfl)
theorem sh_bytesV {mm : Nat → Nat} {l : List UInt8} : shL mm (bytesV l) = bytesV l := by
  induction l with
  | nil => rfl
  | cons x l ih => simp only [bytesV, List.map_cons] at ih ⊢; rw [shL, ih]; rfl
attribute [go_sem] cu_cells sh_bytesV
/-! ### rows that begin further on -/
end Go.Proofs.YtgpjgljgplngpaaGreatDoor.AM
set_option linter.unusedVariables false
set_option linter.unusedSimpArgs false
namespace Go.Proofs.YtgpjgljgplngpaaGreatDoor.AM
open Go

/-! ### guesses -/
/-! ### how much is turned -/
def dif {α : Type} [DecidableEq α] (d : α) (xs ys : List α) : Nat → Nat
  | 0 => 0
  | n + 1 => dif d xs ys n + (if xs.getD n d = ys.getD n d then 0 else 1)
def difS (s t : Stt) : Nat := dif noWord t.regs s.regs 8 + dif noWord t.mem.words s.mem.words 24 + dif false t.mem.gone s.mem.gone 24
def chs (e : Fx) : Nat := (if inR e.r 0 7 = true then 1 else 0) + (if inR e.adr 0 23 = true then 1 else 0) + (if inR e.drop 0 23 = true then 1 else 0)
/-! ### no key comes of nothing -/
/-- A word is no key, or a key that is under one of some others. -/
def fromW (ws : List Word) (w : Word) : Prop := w.is = true → ∃ x, x ∈ ws ∧ x.is = true ∧ covers x.key w.key = true
section
variable {s : Stt} {l : List Ins} {ws : List Word}
def fromS (ws : List Word) (s : Stt) : Prop := (∀ w, w ∈ s.regs → fromW ws w) ∧ fromW ws s.pc ∧ ∀ w, w ∈ s.mem.words → fromW ws w
def fromE (ws : List Word) (e : Fx) : Prop := fromW ws e.val ∧ fromW ws e.next ∧ fromW ws e.put
end
end Go.Proofs.YtgpjgljgplngpaaGreatDoor.AM
set_option linter.unusedVariables false
set_option linter.unusedSimpArgs false
namespace Go.Proofs.YtgpjgljgplngpaaGreatDoor.AM
open Go

section
variable {l : List Ins} {c : Cor} {i : Int} {s : Stt} {p : Pik} {x : Ins} {pc a b g by_ w : Word} {n : Int}
def fxIn (e : Fx) : Prop := fxOk e ∧ (-1 ≤ e.r ∧ e.r ≤ 7) ∧ e.drop ≤ 4096
end
end Go.Proofs.YtgpjgljgplngpaaGreatDoor.AM
set_option linter.unusedVariables false
set_option linter.unusedSimpArgs false
namespace Go.Proofs.YtgpjgljgplngpaaGreatDoor.AM
open Go

/-- A function's end, where it is only said what comes back, and rows are told by other blocks. -/
theorem retNE {P : Program} {H : Heap} {ρ : Env} {k : Nat} {Qv : AV → Heap → Prop} {rs : List ResultVar} {vs : List AV} {v w w' : AV} {h' H' : Heap} (szs keep m : List Nat) (hm : List.range k ++ keep = m) (h1 : aRes P H ρ rs = some vs) (ha : aResult vs = v) (hr : Ref H.length (H.length + szs.length) v w)
    (hH : H ++ szs.map (fun s => (⟨s, [], true, false⟩ : Blk)) = H') (h2 : m.Nodup) (h3 : Nat.ble k H'.length = true) (h4 : (keep.all fun id => match H'[id]? with | some b => b.live | none => false) = true)
    (hv : bor [] (idx m) fuel w = w') (hh : gcH m H' = h') (hq : Qv w' h') : retQ P rs k Qv .ret ρ H := by
  subst hm ha hv hh
  refine ret_norm szs keep vs w h1 hr hH h2 (Nat.le_of_ble_eq_true h3) (fun id hid => ?_) hq
  have := List.all_eq_true.1 h4 id hid
  split at this
  · rename_i b hb
    exact ⟨b, hb, this⟩
  · cases this
theorem words_put0 {xs : List Word} {w : Word} (h : 0 < xs.length) : putAt (rows xs) 0 [.int .i64 w.n, .bool w.is, .int .i64 w.key.base, .int .i64 w.key.top, .int .i64 w.key.perms, .int .i64 w.key.lock] = rows (xs.set 0 w) := by
  have := words_put (x := w) h
  rwa [Nat.zero_mul] at this
def sttNew : Stt := ⟨(List.replicate 8 noWord).set 0 (keyWord ⟨0, 24, 59, 0⟩ 0), keyWord ⟨0, 48, 4, 0⟩ 0, memNew, 0⟩
end Go.Proofs.YtgpjgljgplngpaaGreatDoor.AM
