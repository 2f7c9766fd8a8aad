/- What is drawn; what steps and picks keep right; What is drawn: rows that begin further on, cores; what a commit comes to; A core on its way: what is for good is what is done in order; What settling comes to; out of order; Texts: a desk and its lines; Desks: what is one's own of them; what is marked; Desks: what stays so whatever is told, and how a line is read step by step; Desks: lines, one behind the other. No conditions but those each theorem bears. -/
import Derived.Test.YtgpjgljgplngpaaGreatDoorM5
import Derived.ProofKit
import Derived.OpenShut
import Derived.WalkKit
import Derived.Test.YtgpjgljgplngpaaGreatDoorX1
import Derived.Lib.AtoiAllCases
set_option linter.unusedVariables false
set_option linter.unusedSimpArgs false
namespace Go.Proofs.YtgpjgljgplngpaaGreatDoor.AM
open Go
theorem noWord_ok : wordOk noWord = true := by decide
section
variable {m : Mem} {s : Stt} {l : List Ins} {x : Ins} {pc a b g by_ w : Word} {n : Int}
theorem sttOk_iff : sttOk s = true ↔ (∀ w, w ∈ s.regs → wordOk w = true) ∧ s.regs.length = 8 ∧ wordOk s.pc = true ∧ memOk s.mem = true ∧ (0 ≤ s.trap ∧ s.trap ≤ 5) := by
 simp only [sttOk, Bool.and_eq_true, decide_eq_true_eq, List.all_eq_true, inR_iff, and_assoc]
theorem getW_ok {ws : List Word} {i : Nat} (h : ∀ w, w ∈ ws → wordOk w = true) : wordOk (ws.getD i noWord) = true := by
 rw [List.getD_eq_getElem?_getD]
 cases hq : ws[i]? with
 | none => exact noWord_ok
 | some w => exact h w (List.mem_of_getElem? hq)
theorem reg_ok {r : Int} (h : sttOk s = true) : wordOk (reg s r) = true := getW_ok (sttOk_iff.1 h).1
def fxOk (e : Fx) : Prop := wordOk e.val = true ∧ wordOk e.next = true ∧ wordOk e.put = true ∧ (0 ≤ e.trap ∧ e.trap ≤ 5)
end
structure Cu where
 b : List UInt8
 i : Int
 h : Int
 ok : 0 ≤ i ∧ b.length ≤ 1048576
def Cu.cells (c : Cu) : List AV := [.sl c.b.length c.b.length (bytesV c.b), .int .i64 c.i, .int .i64 c.h]
theorem cu_cells {c : Cu} : c.cells = [.sl c.b.length c.b.length (bytesV c.b), .int .i64 c.i, .int .i64 c.h] := (rfl)
theorem sh_bytesV {mm : Nat → Nat} {l : List UInt8} : shL mm (bytesV l) = bytesV l := by
 induction l with
 | nil => rfl
 | cons x l ih => simp only [bytesV, List.map_cons] at ih ⊢; rw [shL, ih]; rfl
attribute [go_sem] cu_cells sh_bytesV
def dif {α : Type} [DecidableEq α] (d : α) (xs ys : List α) : Nat → Nat
 | 0 => 0
 | n + 1 => dif d xs ys n + (if xs.getD n d = ys.getD n d then 0 else 1)
def difS (s t : Stt) : Nat := dif noWord t.regs s.regs 8 + dif noWord t.mem.words s.mem.words 24 + dif false t.mem.gone s.mem.gone 24
def chs (e : Fx) : Nat := (if inR e.r 0 7 = true then 1 else 0) + (if inR e.adr 0 23 = true then 1 else 0) + (if inR e.drop 0 23 = true then 1 else 0)
def fromW (ws : List Word) (w : Word) : Prop := w.is = true → ∃ x, x ∈ ws ∧ x.is = true ∧ covers x.key w.key = true
section
variable {s : Stt} {l : List Ins} {ws : List Word}
def fromS (ws : List Word) (s : Stt) : Prop := (∀ w, w ∈ s.regs → fromW ws w) ∧ fromW ws s.pc ∧ ∀ w, w ∈ s.mem.words → fromW ws w
def fromE (ws : List Word) (e : Fx) : Prop := fromW ws e.val ∧ fromW ws e.next ∧ fromW ws e.put
end
section
variable {l : List Ins} {c : Cor} {i : Int} {s : Stt} {p : Pik} {x : Ins} {pc a b g by_ w : Word} {n : Int}
theorem corOk_iff : corOk c = true ↔ (∀ x, x ∈ c.rob → entOk x = true) ∧ sttOk c.s = true ∧ c.rob.length ≤ 6 ∧ wordOk c.next = true ∧ guessOk c.guesses = true := by
 simp only [corOk, Bool.and_eq_true, decide_eq_true_eq, List.all_eq_true, and_assoc]
def fxIn (e : Fx) : Prop := fxOk e ∧ (-1 ≤ e.r ∧ e.r ≤ 7) ∧ e.drop ≤ 4096
end
theorem retNE {P : Program} {H : Heap} {ρ : Env} {k : Nat} {Qv : AV → Heap → Prop} {rs : List ResultVar} {vs : List AV} {v w w' : AV} {h' H' : Heap} (szs keep m : List Nat) (hm : List.range k ++ keep = m) (h1 : aRes P H ρ rs = some vs) (ha : aResult vs = v) (hr : Ref H.length (H.length + szs.length) v w)
 (hH : H ++ szs.map (fun s => (⟨s, [], true, false⟩ : Blk)) = H') (h2 : m.Nodup) (h3 : Nat.ble k H'.length = true) (h4 : (keep.all fun id => match H'[id]? with | some b => b.live | none => false) = true)
 (hv : bor [] (idx m) fuel w = w') (hh : gcH m H' = h') (hq : Qv w' h') : retQ P rs k Qv .ret ρ H := by
 subst hm ha hv hh
 refine ret_norm szs keep vs w h1 hr hH h2 (Nat.le_of_ble_eq_true h3) (fun id hid => ?_) hq
 have := List.all_eq_true.1 h4 id hid
 split at this
 ·rename_i b hb
  exact ⟨b, hb, this⟩
 ·cases this
theorem words_put0 {xs : List Word} {w : Word} (h : 0 < xs.length) : putAt (rows xs) 0 [.int .i64 w.n, .bool w.is, .int .i64 w.key.base, .int .i64 w.key.top, .int .i64 w.key.perms, .int .i64 w.key.lock] = rows (xs.set 0 w) := by
 have := words_put (x := w) h
 rwa [Nat.zero_mul] at this
def sttNew : Stt := ⟨(List.replicate 8 noWord).set 0 (keyWord ⟨0, 24, 59, 0⟩ 0), keyWord ⟨0, 48, 4, 0⟩ 0, memNew, 0⟩
end Go.Proofs.YtgpjgljgplngpaaGreatDoor.AM
namespace Go.Proofs.YtgpjgljgplngpaaGreatDoor.AM
open Go
def cutW (ws : List Word) (o : Nat) (xs : List Word) : Prop := ((rows ws).drop o).take (xs.length * 6) = rows xs ∧ o + xs.length * 6 ≤ (rows ws).length
def smallS (s : Stt) : Prop := s.regs.length ≤ 8 ∧ s.mem.words.length ≤ 24 ∧ s.mem.gone.length ≤ 24
def Stt.ownC (a b c p o : Nat) (s : Stt) : List AV := .slice a p s.regs.length 0 :: (s.pc.cells ++ [.slice b o s.mem.words.length 0, .slice c 0 s.mem.gone.length 0, .int .i64 s.trap])
theorem ownC_eq {a b c p o : Nat} {s : Stt} : s.ownC a b c p o = .slice a p s.regs.length 0 :: (s.pc.cells ++ [.slice b o s.mem.words.length 0, .slice c 0 s.mem.gone.length 0, .int .i64 s.trap]) := (rfl)
attribute [go_sem] ownC_eq
def cutI (gs : List Int) (g : Nat) (xs : List Int) : Prop := ((ints gs).drop g).take xs.length = ints xs ∧ g + xs.length ≤ gs.length
def smallC (c : Cor) : Prop := smallS c.s ∧ c.rob.length ≤ 12 ∧ c.guesses.length ≤ 48
def Cor.ownC (a b c d e p o g : Nat) (x : Cor) : List AV := x.s.ownC a b c p o ++ .slice d 0 x.rob.length 0 :: (x.next.cells ++ [.bool x.stop, .slice e g x.guesses.length 0])
theorem ownCC_eq {a b c d e p o g : Nat} {x : Cor} : x.ownC a b c d e p o g = x.s.ownC a b c p o ++ .slice d 0 x.rob.length 0 :: (x.next.cells ++ [.bool x.stop, .slice e g x.guesses.length 0]) := (rfl)
attribute [go_sem] ownCC_eq
section
variable {xs : List Ent}
def ent0 (xs : List Ent) : Ent := xs.getD 0 noEnt
def withDone (x : Ent) (d : Bool) : Ent := ⟨x.pc, x.x, d, x.e, x.guess⟩
def withR (x : Ent) (n : Int) : Ent := ⟨x.pc, x.x, x.done, ⟨x.e.trap, n, x.e.val, x.e.next, x.e.adr, x.e.put, x.e.drop⟩, x.guess⟩
def withVal (x : Ent) (w : Word) : Ent := ⟨x.pc, x.x, x.done, ⟨x.e.trap, x.e.r, w, x.e.next, x.e.adr, x.e.put, x.e.drop⟩, x.guess⟩
end
section
variable {c : Cor} {l : List Ins} {xs : List Ent}
end
end Go.Proofs.YtgpjgljgplngpaaGreatDoor.AM
namespace Go.Proofs.YtgpjgljgplngpaaGreatDoor.AM
open Go
section
variable {α : Type} {p q : α → Bool} {d x : α} {xs ys : List α} {k n : Nat}
end
section
variable {l : List Ins} {c c' : Cor} {s : Stt} {x y z : Ent} {i i' : Ins} {pc a b g by_ w : Word} {n r : Int} {k : Nat}
def Turn (x y : Ent) : Prop := y = x ∨ (x.done = false ∧ y.x = x.x ∧ setBy y = setBy x)
def Turns (c c' : Cor) (k : Nat) : Prop := k ≤ c.rob.length ∧ k ≤ c'.rob.length ∧ ∀ j, j < k → Turn (c.rob.getD j noEnt) (c'.rob.getD j noEnt)
def Known (c : Cor) (k : Nat) (x : Ins) : Prop := (hasA x.op = true → (valueRaw c k x.a).2 = true) ∧ (hasB x.op = true → (valueRaw c k x.b).2 = true) ∧ (x.op = 10 → (c.rob.take k).any waits = false)
def likeMem (m m' : Mem) : Prop := m'.words.length = m.words.length ∧ m'.gone = m.gone ∧ ∀ by_ n, read m' by_ n = read m by_ n
structure Shift (c c' : Cor) (x : Ent) : Prop where
 rob : c.rob = x :: c'.rob
 dn : x.done = true
 tr : x.e.trap = 0
 dr : ¬ 0 ≤ x.e.drop
 ad : x.x.op = 11 ∨ x.e.adr = -1
 s : c'.s = applyFx c.s x.e
 ok : sttOk c.s = true
end
section
variable {l : List Ins} {c c' d : Cor} {s : Stt} {x y z : Ent} {p : Pik} {pc a b g by_ w nx : Word} {n r i : Int} {k m t : Nat} {e : Fx} {st : Bool} {i' : Ins}
def nxt (x : Ent) : Word := if x.done = true then x.e.next else x.guess
def pcAt (c : Cor) (k : Nat) : Word := if k = 0 then c.s.pc else nxt (c.rob.getD (k - 1) noEnt)
def trapD (x : Ent) : Prop := x.done = true ∧ ¬ x.e.trap = 0
def fetOk (l : List Ins) (x : Ent) : Prop := ((fetch l x.pc).2 = 0 ∧ x.x = (fetch l x.pc).1) ∨ (¬ (fetch l x.pc).2 = 0 ∧ x.done = true ∧ x.x = noIns ∧ x.e = fxTrap (fetch l x.pc).2 x.pc)
def effOk (l : List Ins) (c : Cor) (k : Nat) (x : Ent) : Prop := x.done = true → (fetch l x.pc).2 = 0 → Known c k x.x ∧ x.e = doneBy c k x
structure CInv (l : List Ins) (c : Cor) : Prop where
 ok : corOk c = true
 fet : ∀ k, k < c.rob.length → fetOk l (c.rob.getD k noEnt)
 eff : ∀ k, k < c.rob.length → effOk l c k (c.rob.getD k noEnt)
 pcs : c.s.trap = 0 → ∀ k, k < c.rob.length → (c.rob.getD k noEnt).pc = pcAt c k
 nex : c.s.trap = 0 → c.stop = false → c.next = pcAt c c.rob.length
 mid : ∀ k, k < c.rob.length → trapD (c.rob.getD k noEnt) → k + 1 = c.rob.length ∧ c.stop = true
 stp : c.s.trap = 0 → c.stop = true → 0 < c.rob.length ∧ trapD (c.rob.getD (c.rob.length - 1) noEnt)
 trp : ¬ c.s.trap = 0 → c.rob = []
def pickS (l : List Ins) (c : Cor) (p : Pik) : Stt :=
 if (corPick l c p).2 = true ∧ p.kind = 3 then step l c.s else if (corPick l c p).2 = true ∧ p.kind = 4 then withMem c.s (sweep c.s.mem p.n) else c.s
end
section
variable {l : List Ins} {c d : Cor} {s : Stt} {x y z : Ent} {p : Pik} {ps : List Pik} {n r i : Int} {k m t j : Nat} {w N : Int}
def stepN (l : List Ins) : Nat → Stt → Stt
 | 0, s => s
 | n + 1, s => stepN l n (step l s)
def clear (l : List Ins) (s : Stt) (j : Nat) : Prop := ∀ i, i < j → (stepN l i s).trap = 0
def Kept (l : List Ins) (s : Stt) (x : Cor × List Int) : Prop := CInv l x.1 ∧ x.1.s = x.2.foldl (runOne l) s
def fromEnt (ws : List Word) (x : Ent) : Prop := fromW ws x.pc ∧ fromW ws x.guess ∧ fromE ws x.e
def fromC (ws : List Word) (c : Cor) : Prop := fromS ws c.s ∧ (∀ x, x ∈ c.rob → fromEnt ws x) ∧ fromW ws c.next
section
variable {ws : List Word} {a b by_ g : Word} {e : Fx} {q : Int}
end
end
end Go.Proofs.YtgpjgljgplngpaaGreatDoor.AM
namespace Go.Proofs.YtgpjgljgplngpaaGreatDoor.AM
open Go
section
variable {l : List Ins} {c d : Cor} {s : Stt} {x y z : Ent} {p : Pik} {ps : List Pik} {n r i : Int} {k m t j : Nat} {w N : Int}
def First (c : Cor) : Prop := 0 < c.rob.length ∧ (c.rob.getD 0 noEnt).done = true
end
end Go.Proofs.YtgpjgljgplngpaaGreatDoor.AM
namespace Go.Proofs.YtgpjgljgplngpaaGreatDoor.AM
open Go
structure Dsk where
 list : List Ins
 c : Cor
 order : List Int
 deriving DecidableEq
def tOk : Bs := [111, 107]
def tNo : Bs := [110, 111]
def tYes : Bs := [121, 101, 115]
def tWhat : Bs := [119, 104, 97, 116]
def tBad : Bs := [98, 97, 100]
def tNone : Bs := [110, 111, 110, 101]
def wPull : Bs := [112, 117, 108, 108]
def wCommit : Bs := [99, 111, 109, 109, 105, 116]
def wSettle : Bs := [115, 101, 116, 116, 108, 101]
def wTrap : Bs := [116, 114, 97, 112]
def wSame : Bs := [115, 97, 109, 101]
def wDo : Bs := [100, 111]
def wSweep : Bs := [115, 119, 101, 101, 112]
def wReg : Bs := [114, 101, 103]
def trapB (a : Int) : Bs := (trapText a).data.toList
def yesNo (b : Bool) (x y : Bs) : Bs := if b = true then x else y
def dskPick (d : Dsk) (p : Pik) : Dsk × Bs := (⟨d.list, (corPick d.list d.c p).1, d.order ++ if (corPick d.list d.c p).2 = true then noted p else []⟩, yesNo (corPick d.list d.c p).2 tOk tNo)
def dskState (d : Dsk) : Stt := d.order.foldl (fun s n => run d.list s [n]) sttNew
def dskSame (d : Dsk) : Bool := alike d.c.s (dskState d)
def dskNum (s : Bs) : Int × Bool := if (atoV s).2 = false ∨ 2 < s.length ∨ (atoV s).1 < 0 ∨ itoa (atoV s).1 ≠ s then (0, false) else ((atoV s).1, true)
def dskNumbered (d : Dsk) (w : Bs) (n : Int) : Dsk × Bs :=
 if w = wDo then dskPick d ⟨2, n⟩ else if w = wSweep then dskPick d ⟨4, n⟩ else if w = wReg then (d, if 8 ≤ n then tNone else wordT (reg d.c.s n)) else (d, tWhat)
def dskSettle (d : Dsk) : Dsk × Bs := (⟨d.list, (settle d.c).1, d.order ++ List.replicate (settle d.c).2.toNat (-1)⟩, itoa (settle d.c).2)
def dskDo (d : Dsk) (s : Bs) : Dsk × Bs :=
 if s = wPull then dskPick d ⟨1, 0⟩ else if s = wCommit then dskPick d ⟨3, 0⟩ else if s = wSettle then dskSettle d
 else if s = wTrap then (d, trapB d.c.s.trap) else if s = wSame then (d, yesNo (dskSame d) tYes tNo)
 else if (dskNum (cutB s 32).2.1).2 = false then (d, tWhat) else dskNumbered d (cutB s 32).1 (dskNum (cutB s 32).2.1).1
def dskLine (d : Dsk) (s : Bs) : Dsk × Bs := if corOk d.c = false then (d, tBad) else if s = [] ∨ s.head? = some 59 then (d, []) else dskDo d s
theorem num_back {n : Int} (h : 0 ≤ n ∧ n ≤ 99) : dskNum (itoa n) = (n, true) := by
 have hv := atoV_itoa (n := n) (by omega)
 have hl : (itoa n).length ≤ 2 := by
  rw [itoa_nat h.1, Lib.decDigits_length]
  by_cases a : n.toNat < 10
  ·rw [Lib.nDigits_small a]; omega
  ·rw [Lib.nDigits_unique 1 n.toNat (by omega) (by omega)]; omega
 rw [dskNum, hv, if_neg]
 rintro (g | g | g | g)
 ·cases g
 ·omega
 ·simp only at g; omega
 ·exact g rfl
theorem len_two {n : Int} (h : 0 ≤ n) (hl : (itoa n).length ≤ 2) : n ≤ 99 := by
 rw [itoa_nat h, Lib.decDigits_length] at hl
 have h1 := Lib.lt_pow_nDigits n.toNat
 have h2 : 10 ^ Lib.nDigits n.toNat ≤ 10 ^ 2 := Nat.pow_le_pow_right (by decide) hl
 omega
theorem num_is {s : Bs} (h : (dskNum s).2 = true) : (0 ≤ (dskNum s).1 ∧ (dskNum s).1 ≤ 99) ∧ itoa (dskNum s).1 = s := by
 unfold dskNum at h ⊢
 split at h
 ·cases h
 ·rename_i hc
  rw [if_neg hc]
  have h1 : 0 ≤ (atoV s).1 := Int.not_lt.1 fun g => hc (Or.inr (Or.inr (Or.inl g)))
  have h2 : itoa (atoV s).1 = s := Decidable.not_not.1 fun g => hc (Or.inr (Or.inr (Or.inr g)))
  have h3 : s.length ≤ 2 := Nat.not_lt.1 fun g => hc (Or.inr (Or.inl g))
  exact ⟨⟨h1, len_two h1 (by rw [h2]; exact h3)⟩, h2⟩
def scanW : Bs → Nat → Option Nat
 | [], x => some x
 | b :: l, x => if digit b then scanW l (10 * x + (b.toNat - 48)) else none
def numW (s w : Bs) : Int :=
 if s.length < w.length + 2 ∨ w.length + 3 < s.length ∨ s.take w.length ≠ w ∨ s.getD w.length 0 ≠ 32 then -1 else match scanW (s.drop (w.length + 1)) 0 with
  | some x => if itoa (x : Int) = s.drop (w.length + 1) then (x : Int) else -1
  | none => -1
theorem scanW_digits : ∀ (ds : Bs) (x : Nat), (∀ b, b ∈ ds → digit b) → scanW ds x = some (valD x ds)
 | [], x, _ => rfl
 | d :: ds, x, hd => by
  rw [scanW, if_pos (hd d (by simp)), scanW_digits ds _ fun b hb => hd b (by simp [hb])]
  rfl
theorem numW_back {w : Bs} {n : Int} (h : 0 ≤ n ∧ n ≤ 99) : numW (w ++ 32 :: itoa n) w = n := by
 have hl : 1 ≤ (itoa n).length ∧ (itoa n).length ≤ 2 := by
  rw [itoa_nat h.1, Lib.decDigits_length]
  refine ⟨Lib.nDigits_pos _, ?_⟩
  by_cases a : n.toNat < 10
  ·rw [Lib.nDigits_small a]; omega
  ·rw [Lib.nDigits_unique 1 n.toNat (by omega) (by omega)]; omega
 have hd : (w ++ 32 :: itoa n).drop (w.length + 1) = itoa n := by rw [← List.drop_drop, List.drop_left' rfl]; rfl
 have hs : scanW (itoa n) 0 = some n.toNat := by rw [itoa_nat h.1, scanW_digits _ 0 (dec_all _), valD_dec]
 rw [numW, if_neg, hd, hs]
 ·simp only
  rw [if_pos (by rw [show ((n.toNat : Nat) : Int) = n by omega])]
  omega
 ·rintro (g | g | g | g)
  ·simp at g; omega
  ·simp at g; omega
  ·exact g (by rw [List.take_left' rfl])
  ·exact g (by simp)
theorem numW_is {s w : Bs} (h : 0 ≤ numW s w) : (0 ≤ numW s w ∧ numW s w ≤ 99) ∧ s = w ++ 32 :: itoa (numW s w) := by
 unfold numW at h ⊢
 split at h
 ·omega
 ·rename_i hc
  rw [if_neg hc]
  split at h
  ·rename_i x hx
   split at h
   ·rename_i e
    rw [if_pos e]
    have h1 : ¬ s.length < w.length + 2 := fun g => hc (Or.inl g)
    have h2 : ¬ w.length + 3 < s.length := fun g => hc (Or.inr (Or.inl g))
    have h3 : s.take w.length = w := Decidable.not_not.1 fun g => hc (Or.inr (Or.inr (Or.inl g)))
    have h4 : s.getD w.length 0 = 32 := Decidable.not_not.1 fun g => hc (Or.inr (Or.inr (Or.inr g)))
    have hl : (itoa (x : Int)).length ≤ 2 := by rw [e, List.length_drop]; omega
    refine ⟨⟨h, len_two h hl⟩, ?_⟩
    rw [e]
    conv => lhs; rw [← List.take_append_drop w.length s]
    rw [h3]
    congr 1
    have hw : w.length < s.length := by omega
    rw [List.drop_eq_getElem_cons hw]
    congr 1
    simpa [hw] using h4
   ·omega
  ·omega
def askedS (d : Dsk) (s : Bs) : Bs :=
 if s = wTrap then trapB d.c.s.trap else if s = wSame then yesNo (dskSame d) tYes tNo
 else if numW s wReg < 0 then [] else if 7 < numW s wReg then tNone else wordT (reg d.c.s (numW s wReg))
def pickS2 (s : Bs) : Pik × Bool :=
 if s = wPull then (⟨1, 0⟩, true) else if s = wCommit then (⟨3, 0⟩, true) else if 0 ≤ numW s wDo then (⟨2, numW s wDo⟩, true) else (⟨4, numW s wSweep⟩, decide (0 ≤ numW s wSweep))
def dskLineS (d : Dsk) (s : Bs) : Dsk × Bs :=
 if corOk d.c = false then (d, tBad) else if s = [] ∨ s.head? = some 59 then (d, [])
 else if askedS d s ≠ [] then (d, askedS d s) else if s = wSettle then dskSettle d
 else if (pickS2 s).2 = false then (d, tWhat) else dskPick d (pickS2 s).1
theorem numW_of {s w : Bs} (h : ∀ n, 0 ≤ n ∧ n ≤ 99 → s ≠ w ++ 32 :: itoa n) : numW s w < 0 := by
 refine Int.not_le.1 fun g => ?_
 have := numW_is g
 exact h _ this.1 this.2
theorem split_eq {a b : Bs} {n m : Int} (ha : 32 ∉ a) (hb : 32 ∉ b) (h : a ++ 32 :: itoa n = b ++ 32 :: itoa m) : a = b ∧ itoa n = itoa m := by
 have h1 := cutB_app (r := itoa n) ha
 rw [h, cutB_app (r := itoa m) hb] at h1
 simp only [Prod.mk.injEq] at h1
 exact ⟨h1.1.symm, h1.2.1.symm⟩
theorem no_blank {w s : Bs} {n : Int} (hw : 32 ∉ s) : s ≠ w ++ 32 :: itoa n := fun e => hw (by rw [e]; simp)
theorem word_ne {w : Word} (h : wordOk w = true) : wordT w ≠ [] := by
 rw [wordT, if_pos h]
 split
 ·simp
 ·exact itoa_ne
theorem trapB_ne {a : Int} (h : 0 ≤ a ∧ a ≤ 5) : trapB a ≠ [] := by
 have : ∀ n : Fin 6, trapB (n.val : Int) ≠ [] := by decide
 have := this ⟨a.toNat, by omega⟩
 simp only at this
 rwa [show ((a.toNat : Nat) : Int) = a by omega] at this
theorem yn_ne {b : Bool} : yesNo b tYes tNo ≠ [] := by cases b <;> decide
theorem line_eq {d : Dsk} {s : Bs} : dskLineS d s = dskLine d s := by
 unfold dskLineS dskLine
 by_cases hk : corOk d.c = false
 ·rw [if_pos hk, if_pos hk]
 ·rw [if_neg hk, if_neg hk]
  have hko : corOk d.c = true := by simpa using hk
  have hst := sttOk_iff.1 (corOk_iff.1 hko).2.1
  by_cases he : s = [] ∨ s.head? = some 59
  ·rw [if_pos he, if_pos he]
  ·rw [if_neg he, if_neg he]
   have nb : ∀ w : Bs, 32 ∉ s → numW s w < 0 := fun w h => numW_of fun n _ => no_blank h
   unfold dskDo
   by_cases h1 : s = wPull
   ·have hb : 32 ∉ s := by rw [h1]; decide
    have ha : askedS d s = [] := by rw [askedS, if_neg (by rw [h1]; decide), if_neg (by rw [h1]; decide), if_pos (nb _ hb)]
    have hp : pickS2 s = (⟨1, 0⟩, true) := by rw [pickS2, if_pos h1]
    rw [ha, if_neg (fun g => g rfl), if_neg (show ¬ s = wSettle by rw [h1]; decide), hp, if_pos h1, if_neg (show ¬ (true = false) from fun g => Bool.noConfusion g)]
   ·by_cases h2 : s = wCommit
    ·have hb : 32 ∉ s := by rw [h2]; decide
     have ha : askedS d s = [] := by rw [askedS, if_neg (by rw [h2]; decide), if_neg (by rw [h2]; decide), if_pos (nb _ hb)]
     have hp : pickS2 s = (⟨3, 0⟩, true) := by rw [pickS2, if_neg h1, if_pos h2]
     rw [ha, if_neg (fun g => g rfl), if_neg (show ¬ s = wSettle by rw [h2]; decide), hp, if_neg h1, if_pos h2, if_neg (show ¬ (true = false) from fun g => Bool.noConfusion g)]
    ·by_cases h3 : s = wSettle
     ·have hb : 32 ∉ s := by rw [h3]; decide
      have ha : askedS d s = [] := by rw [askedS, if_neg (by rw [h3]; decide), if_neg (by rw [h3]; decide), if_pos (nb _ hb)]
      rw [ha, if_neg (fun g => g rfl), if_pos h3, if_neg h1, if_neg h2, if_pos h3]
     ·by_cases h4 : s = wTrap
      ·have ha : askedS d s = trapB d.c.s.trap := by rw [askedS, if_pos h4]
       rw [ha, if_pos (trapB_ne hst.2.2.2.2), if_neg h1, if_neg h2, if_neg h3, if_pos h4]
      ·by_cases h5 : s = wSame
       ·have ha : askedS d s = yesNo (dskSame d) tYes tNo := by rw [askedS, if_neg h4, if_pos h5]
        rw [ha, if_pos yn_ne, if_neg h1, if_neg h2, if_neg h3, if_neg h4, if_pos h5]
       ·rw [if_neg h1, if_neg h2, if_neg h3, if_neg h4, if_neg h5]
        cases hn : (dskNum (cutB s 32).2.1).2 with
        | false =>
         rw [if_pos (show (false : Bool) = false from rfl)]
         have hno : ∀ w : Bs, 32 ∉ w → numW s w < 0 := fun w hw => numW_of fun n hn2 e => by
          rw [e, cutB_app hw, num_back hn2] at hn
          cases hn
         have ha : askedS d s = [] := by rw [askedS, if_neg h4, if_neg h5, if_pos (hno _ (by decide))]
         have hd := hno wDo (by decide)
         have hsw := hno wSweep (by decide)
         have hp : pickS2 s = (⟨4, numW s wSweep⟩, false) := by rw [pickS2, if_neg h1, if_neg h2, if_neg (Int.not_le.2 hd), decide_eq_false (Int.not_le.2 hsw)]
         rw [ha, if_neg (fun g => g rfl), if_neg h3, hp, if_pos (show (false : Bool) = false from rfl)]
        | true =>
         rw [if_neg (show ¬ (true = false) from fun g => Bool.noConfusion g)]
         obtain ⟨hr, hi⟩ := num_is hn
         generalize hN : (dskNum (cutB s 32).2.1).1 = N at hr hi ⊢
         have hf : (cutB s 32).2.2 = true := by
          cases hq : (cutB s 32).2.2 with
          | true => rfl
          | false =>
           exfalso
           unfold cutB at hq hi
           split at hq
           ·rename_i e
            rw [if_pos e] at hi
            exact itoa_ne hi
           ·cases hq
         obtain ⟨c1, c2⟩ := cut_is hf
         rw [← hi] at c2
         generalize hA : (cutB s 32).1 = A at c1 c2 ⊢
         have hw : ∀ w : Bs, 32 ∉ w → (A = w → numW s w = N) ∧ (A ≠ w → numW s w < 0) := fun w hw2 => by
          refine ⟨fun e => ?_, fun e => ?_⟩
          ·rw [c2, e]; exact numW_back hr
          ·refine numW_of fun n _ e2 => ?_
           rw [c2] at e2
           exact e (split_eq c1 hw2 e2).1
         have hreg := hw wReg (by decide)
         have hdo := hw wDo (by decide)
         have hsw := hw wSweep (by decide)
         unfold dskNumbered
         by_cases e1 : A = wDo
         ·have r1 := hreg.2 (by rw [e1]; decide)
          have r2 := hdo.1 e1
          have ha : askedS d s = [] := by rw [askedS, if_neg h4, if_neg h5, if_pos r1]
          have hp : pickS2 s = (⟨2, numW s wDo⟩, true) := by rw [pickS2, if_neg h1, if_neg h2, if_pos (by omega)]
          rw [ha, if_neg (fun g => g rfl), if_neg h3, hp, if_neg (show ¬ (true = false) from fun g => Bool.noConfusion g), if_pos e1, r2]
         ·rw [if_neg e1]
          have r2 := hdo.2 e1
          by_cases e2 : A = wSweep
          ·have r1 := hreg.2 (by rw [e2]; decide)
           have r3 := hsw.1 e2
           have ha : askedS d s = [] := by rw [askedS, if_neg h4, if_neg h5, if_pos r1]
           have hdec : decide (0 ≤ numW s wSweep) = true := decide_eq_true (by omega)
           have hp : pickS2 s = (⟨4, numW s wSweep⟩, true) := by rw [pickS2, if_neg h1, if_neg h2, if_neg (Int.not_le.2 r2), hdec]
           rw [ha, if_neg (fun g => g rfl), if_neg h3, hp, if_neg (show ¬ (true = false) from fun g => Bool.noConfusion g), if_pos e2, r3]
          ·rw [if_neg e2]
           have r3 := hsw.2 e2
           by_cases e3 : A = wReg
           ·have r1 := hreg.1 e3
            rw [if_pos e3]
            have ha : askedS d s = if 8 ≤ N then tNone else wordT (reg d.c.s N) := by
             rw [askedS, if_neg h4, if_neg h5, r1, if_neg (by omega)]
             by_cases h8 : 8 ≤ N
             ·rw [if_pos (by omega), if_pos h8]
             ·rw [if_neg (by omega), if_neg h8]
            have hne : (if 8 ≤ N then tNone else wordT (reg d.c.s N)) ≠ [] := by
             split
             ·decide
             ·exact word_ne (reg_ok (corOk_iff.1 hko).2.1)
            rw [ha, if_pos hne]
            split <;> rfl
           ·rw [if_neg e3]
            have r1 := hreg.2 e3
            have ha : askedS d s = [] := by rw [askedS, if_neg h4, if_neg h5, if_pos r1]
            have hp : pickS2 s = (⟨4, numW s wSweep⟩, false) := by rw [pickS2, if_neg h1, if_neg h2, if_neg (Int.not_le.2 r2), decide_eq_false (Int.not_le.2 r3)]
            rw [ha, if_neg (fun g => g rfl), if_neg h3, hp, if_pos (show (false : Bool) = false from rfl)]
def rowsI (s : Bs) : List Bs := if (splitB 10 s).getLast? = some [] then (splitB 10 s).dropLast else splitB 10 s
def rowsS : Bs → Bs → List Bs
 | [], cur => if cur = [] then [] else [cur]
 | b :: r, cur => if b = 10 then cur :: rowsS r [] else rowsS r (cur ++ [b])
theorem split_cur : ∀ (s cur : Bs), splitB 10 s ≠ [] ∧ rowsS s cur = (let ws := match splitB 10 s with | [] => [] | w :: ws => (cur ++ w) :: ws; if ws.getLast? = some [] then ws.dropLast else ws)
 | [], cur => by
  refine ⟨by simp [splitB], ?_⟩
  simp only [splitB, rowsS, List.append_nil]
  by_cases h : cur = []
  ·rw [if_pos h, h]; rfl
  ·rw [if_neg h, if_neg]
   intro g
   simp at g
   exact h g
 | b :: r, cur => by
  refine ⟨splitB_ne, ?_⟩
  rw [rowsS, splitB]
  by_cases hb : b = 10
  ·rw [if_pos hb, if_pos hb]
   obtain ⟨i1, i2⟩ := split_cur r []
   rw [i2]
   cases hq : splitB 10 r with
   | nil => exact absurd hq i1
   | cons w ws =>
    simp only [List.append_nil, List.nil_append]
    by_cases hl : (w :: ws).getLast? = some []
    ·have h2 : (cur :: w :: ws).getLast? = some [] := by simpa [List.getLast?_cons_cons] using hl
     rw [if_pos hl, if_pos h2]
     rfl
    ·have h2 : ¬ (cur :: w :: ws).getLast? = some [] := by simpa [List.getLast?_cons_cons] using hl
     rw [if_neg hl, if_neg h2]
  ·rw [if_neg hb, if_neg hb]
   obtain ⟨i1, i2⟩ := split_cur r (cur ++ [b])
   rw [i2]
   cases hq : splitB 10 r with
   | nil => exact absurd hq i1
   | cons w ws => simp only [List.append_assoc, List.singleton_append]
theorem rows_eq {s : Bs} : rowsS s [] = rowsI s := by
 obtain ⟨i1, i2⟩ := split_cur s []
 rw [i2, rowsI]
 cases hq : splitB 10 s with
 | nil => exact absurd hq i1
 | cons w ws => simp only [List.nil_append]
def dskNew (s : Bs) : Dsk × Bool := if (codeRead s).2 = true then (⟨(codeRead s).1, corNew sttNew, []⟩, true) else (⟨[], noCor, []⟩, false)
def tellGo : List Bs → Dsk → Bs → Dsk × Bs
 | [], d, out => (d, out)
 | l :: ls, d, out => tellGo ls (dskLine d l).1 (out ++ if (dskLine d l).2 ≠ [] then (dskLine d l).2 ++ [10] else [])
def session (t s : Bs) : Bs × Int :=
 if (dskNew t).2 = false then ([], -1) else if 80 < (rowsI s).length then ([], -2) else ((tellGo (rowsI s) (dskNew t).1 []).2, ((rowsI s).length : Nat))
end Go.Proofs.YtgpjgljgplngpaaGreatDoor.AM
namespace Go.Proofs.YtgpjgljgplngpaaGreatDoor.AM
open Go
def Dsk.cells (d : Dsk) : List AV := .sl d.list.length d.list.length (rows d.list) :: (d.c.cells ++ [.sl d.order.length d.order.length (ints d.order)])
def Dsk.own (a b c e f g h : Nat) (d : Dsk) : List AV := .slice a 0 d.list.length 0 :: (d.c.own b c e f g ++ [.slice h 0 d.order.length 0])
def Dsk.blks (d : Dsk) : Heap := ⟨5, rows d.list, true, false⟩ :: (d.c.blks ++ [⟨1, ints d.order, true, false⟩])
theorem dskCells_eq {d : Dsk} : d.cells = .sl d.list.length d.list.length (rows d.list) :: (d.c.cells ++ [.sl d.order.length d.order.length (ints d.order)]) := (rfl)
theorem dskOwn_eq {a b c e f g h : Nat} {d : Dsk} : d.own a b c e f g h = .slice a 0 d.list.length 0 :: (d.c.own b c e f g ++ [.slice h 0 d.order.length 0]) := (rfl)
theorem dskBlks_eq {d : Dsk} : d.blks = ⟨5, rows d.list, true, false⟩ :: (d.c.blks ++ [⟨1, ints d.order, true, false⟩]) := (rfl)
attribute [go_sem] dskCells_eq dskOwn_eq dskBlks_eq
theorem dskNew_yes {l : Bs} (h : (codeRead l).2 = true) : dskNew l = (⟨(codeRead l).1, corNew sttNew, []⟩, true) := by rw [dskNew, if_pos h]
theorem dskNew_no {l : Bs} (h : (codeRead l).2 = false) : dskNew l = (⟨[], noCor, []⟩, false) := by rw [dskNew, if_neg (by rw [h]; exact Bool.noConfusion)]
def Dsk.marked (d : Dsk) (t : Int) : Dsk := ⟨mrow markI 5 t d.list.length, d.c.markedQ (t + (5 * d.list.length : Nat)), marks (t + (5 * d.list.length : Nat) + (d.c.cost : Nat)) d.order.length⟩
def Dsk.cost (d : Dsk) : Nat := 5 * d.list.length + d.c.cost + d.order.length
def Dsk.fit (d : Dsk) : Prop := d.list.length ≤ 1048576 ∧ d.c.fit ∧ d.order.length ≤ 1048576
theorem sttNew_fit : sttNew.fit := by simp [Stt.fit, Mem.fit, sttNew, memNew]
theorem dskNew_fit {l : Bs} : (dskNew l).1.fit := by
 cases h : (codeRead l).2 with
 | true =>
  rw [dskNew_yes h]
  have h1 := codeOk_len (codeRead_is h).1
  exact ⟨by show (codeRead l).1.length ≤ 1048576; omega, corNew_fit sttNew_fit, Nat.zero_le _⟩
 | false =>
  rw [dskNew_no h]
  exact ⟨Nat.zero_le _, by simp [Cor.fit, Stt.fit, Mem.fit, noCor, noStt, noMem], Nat.zero_le _⟩
end Go.Proofs.YtgpjgljgplngpaaGreatDoor.AM
namespace Go.Proofs.YtgpjgljgplngpaaGreatDoor.AM
open Go
theorem wordT_len {w : Word} : (wordT w).length ≤ 102 := by
 unfold wordT
 split
 ·rename_i h
  have hn : 0 ≤ w.n ∧ w.n ≤ 65535 := by
   simp only [wordOk, Bool.and_eq_true, inR_iff] at h
   exact h.1
  have l1 := itoa_len (n := w.n) (by omega)
  have l2 := keyT_len (k := w.key)
  split
  ·simp only [List.length_append, List.length_cons]; omega
  ·omega
 ·simp
theorem trapB_len {a : Int} : (trapB a).length ≤ 102 := by
 unfold trapB trapText
 split
 ·rename_i h
  have h := inR_iff.1 h
  have : ∀ n : Fin 6, ((traps.getD (n.val) ⟨#[]⟩ : ByteArray).data.toList).length ≤ 102 := by decide
  have := this ⟨a.toNat, by omega⟩
  exact this
 ·decide
theorem line_cases {d : Dsk} {s : Bs} {Q : Dsk × Bs → Prop} (h0 : ∀ t : Bs, t.length ≤ 102 → Q (d, t)) (hp : ∀ p, Q (dskPick d p)) (hs : Q (dskSettle d)) : Q (dskLine d s) := by
 have hi : ∀ {c : Prop} [Decidable c] {x y : Dsk × Bs}, Q x → Q y → Q (if c then x else y) := fun hx hy => by split <;> assumption
 have hy : ∀ {b : Bool} {x y : Bs}, x.length ≤ 102 → y.length ≤ 102 → (yesNo b x y).length ≤ 102 := fun {b x y} hx hy => by unfold yesNo; split <;> assumption
 unfold dskLine dskDo dskNumbered
 refine hi (h0 _ (by decide)) (hi (h0 _ (by decide)) (hi (hp _) (hi (hp _) (hi hs (hi (h0 _ trapB_len) (hi (h0 _ (hy (by decide) (by decide))) (hi (h0 _ (by decide)) (hi (hp _) (hi (hp _) (hi (h0 _ ?_) (h0 _ (by decide))))))))))))
 split
 ·decide
 ·exact wordT_len
section
variable {l : List Ins} {c : Cor} {d : Dsk} {s : Bs} {p : Pik}
def DKept (d : Dsk) : Prop := Kept d.list sttNew (d.c, d.order)
theorem dskPick_fit (h : d.fit) (ho : d.order.length + 1 ≤ 1048576) : (dskPick d p).1.fit := by
 refine ⟨h.1, pick_fit h.2.1, ?_⟩
 show (d.order ++ if (corPick d.list d.c p).2 = true then noted p else []).length ≤ _
 have := note_len (p := p)
 rw [List.length_append]
 split
 ·omega
 ·simp; omega
end
end Go.Proofs.YtgpjgljgplngpaaGreatDoor.AM
namespace Go.Proofs.YtgpjgljgplngpaaGreatDoor.AM
open Go
theorem deadBlk_eq : deadBlk = ⟨0, [], false, false⟩ := (rfl)
attribute [go_sem] deadBlk_eq
def rIv (l : Bs) (D : List Bs) (a i : Nat) : Prop := (i ≤ l.length ∧ a ≤ i ∧ D ++ rowsS (l.drop i) ((l.take i).drop a) = rowsS l []) ∨ (i = l.length + 1 ∧ D = rowsS l [])
section
variable {l : Bs} {D : List Bs} {a i : Nat}
theorem rIv_zero : rIv l [] 0 0 := Or.inl ⟨Nat.zero_le _, Nat.le_refl _, rfl⟩
theorem rIv_get (h : rIv l D a i) (hi : i ≤ l.length) : a ≤ i ∧ D ++ rowsS (l.drop i) ((l.take i).drop a) = rowsS l [] := h.elim (fun h => h.2) (fun h => absurd h.1 (by omega))
theorem rIv_end (h : rIv l D a i) (hi : ¬ i ≤ l.length) : D = rowsS l [] := h.elim (fun h => absurd h.1 hi) (fun h => h.2)
theorem rIv_on (h : rIv l D a i) (hi : i ≤ l.length) (c : (i < l.length ∧ ¬ (l.getD i 0).toNat = 10) ∨ (i = l.length ∧ a = l.length)) : rIv l D a (i + 1) := by
 obtain ⟨h1, h2⟩ := rIv_get h hi
 rcases c with ⟨c1, c2⟩ | ⟨c1, c2⟩
 ·refine Or.inl ⟨c1, Nat.le_succ_of_le h1, ?_⟩
  rw [drop_at c1, rowsS, if_neg (fun e => c2 (byte10.2 e)), ← cur_on h1 c1] at h2
  exact h2
 ·subst c1
  refine Or.inr ⟨rfl, ?_⟩
  rw [List.drop_length, c2, List.take_length, List.drop_length, rowsS, if_pos rfl, List.append_nil] at h2
  exact h2
theorem rIv_cut (h : rIv l D a i) (hi : i ≤ l.length) (c : ¬ ((i < l.length ∧ ¬ (l.getD i 0).toNat = 10) ∨ (i = l.length ∧ a = l.length))) : rIv l (D ++ [(l.take i).drop a]) (i + 1) (i + 1) := by
 obtain ⟨h1, h2⟩ := rIv_get h hi
 by_cases hlt : i < l.length
 ·have hb : (l.getD i 0).toNat = 10 := Decidable.not_not.1 fun g => c (Or.inl ⟨hlt, g⟩)
  refine Or.inl ⟨hlt, Nat.le_refl _, ?_⟩
  rw [drop_at hlt, rowsS, if_pos (byte10.1 hb)] at h2
  rw [cur_new, List.append_assoc]
  exact h2
 ·have hie : i = l.length := by omega
  subst hie
  have ha : a < l.length := by
   have : ¬ a = l.length := fun g => c (Or.inr ⟨rfl, g⟩)
   omega
  refine Or.inr ⟨rfl, ?_⟩
  rw [List.drop_length, rowsS, if_neg] at h2
  ·exact h2
  ·intro e
   have := congrArg List.length e
   rw [List.take_length, List.length_drop] at this
   simp at this
   omega
theorem rowsS_len : ∀ (s cur : Bs), (rowsS s cur).length ≤ s.length + 1
 | [], cur => by rw [rowsS]; split <;> simp
 | b :: r, cur => by
  rw [rowsS]
  split
  ·have := rowsS_len r []
   simp only [List.length_cons]
   omega
  ·have := rowsS_len r (cur ++ [b])
   simp only [List.length_cons]
   omega
theorem rIv_len (h : rIv l D a i) : D.length ≤ (rowsS l []).length := by
 rcases h with ⟨_, _, h⟩ | ⟨_, h⟩
 ·rw [← h, List.length_append]; omega
 ·rw [h]; exact Nat.le_refl _
theorem rows_mem : ∀ (s cur : Bs) {x : Bs}, x ∈ rowsS s cur → x.length ≤ cur.length + s.length
 | [], cur, x, h => by
  rw [rowsS] at h
  split at h
  ·cases h
  ·obtain rfl := List.mem_singleton.1 h
   omega
 | b :: r, cur, x, h => by
  rw [rowsS] at h
  split at h
  ·rcases List.mem_cons.1 h with rfl | h
   ·omega
   ·have := rows_mem r [] h
    simp only [List.length_nil, List.length_cons] at this ⊢
    omega
  ·have := rows_mem r (cur ++ [b]) h
   simp only [List.length_append, List.length_nil, List.length_cons] at this ⊢
   omega
end
theorem split_mem {s x : Bs} (h : x ∈ rowsI s) : x.length ≤ s.length := by
 rw [← rows_eq] at h
 have := rows_mem s [] h
 simpa using this
theorem line_len {d : Dsk} {s : Bs} : (dskLine d s).2.length ≤ 102 := by
 refine line_cases (Q := fun x => x.2.length ≤ 102) (fun t h => h) (fun p => ?_) ?_
 ·show (yesNo (corPick d.list d.c p).2 tOk tNo).length ≤ 102
  unfold yesNo
  split <;> decide
 ·have h := settle_many (c := d.c)
  have := itoa_len (n := (settle d.c).2) (by omega)
  show (itoa (settle d.c).2).length ≤ 102
  omega
theorem line_fit {d : Dsk} {s : Bs} (h : d.fit) (ho : d.order.length ≤ 1000000) : (dskLine d s).1.fit ∧ (dskLine d s).1.order.length ≤ d.order.length + 600 := by
 refine line_cases (Q := fun x => x.1.fit ∧ x.1.order.length ≤ d.order.length + 600) (fun t _ => ⟨h, by show d.order.length ≤ _; omega⟩) (fun p => ?_) ?_
 ·refine ⟨dskPick_fit h (by omega), ?_⟩
  show (d.order ++ if (corPick d.list d.c p).2 = true then noted p else []).length ≤ _
  have := note_len (p := p)
  rw [List.length_append]
  split
  ·omega
  ·simp
 ·have h1 := settle_many (c := d.c)
  have h2 : (dskSettle d).1.order.length = d.order.length + (settle d.c).2.toNat := by
   show (d.order ++ List.replicate (settle d.c).2.toNat (-1)).length = _
   rw [List.length_append, List.length_replicate]
  refine ⟨⟨h.1, settle_fit h.2.1, ?_⟩, ?_⟩ <;> rw [h2] <;> omega
theorem tell_snoc : ∀ (ls : List Bs) {d d1 : Dsk} {o o1 x : Bs}, tellGo ls d o = (d1, o1) → tellGo (ls ++ [x]) d o = ((dskLine d1 x).1, o1 ++ if (dskLine d1 x).2 ≠ [] then (dskLine d1 x).2 ++ [10] else [])
 | [], d, d1, o, o1, x, h => by
  obtain ⟨rfl, rfl⟩ := Prod.mk.inj h
  rfl
 | y :: ls, d, d1, o, o1, x, h => by
  rw [List.cons_append, tellGo]
  rw [tellGo] at h
  exact tell_snoc ls h
theorem take_snoc {α : Type} {xs : List α} {i : Nat} {z : α} (h : i < xs.length) : xs.take (i + 1) = xs.take i ++ [xs.getD i z] := by rw [List.take_add_one]; simp [h]
theorem tell_yes {ls : List Bs} {d0 d : Dsk} {o : Bs} {i : Nat} (h : i < ls.length) (ht : tellGo (ls.take i) d0 [] = (d, o)) (hn : ¬ (dskLine d (ls.getD i [])).2 = []) : tellGo (ls.take (i + 1)) d0 [] = ((dskLine d (ls.getD i [])).1, o ++ ((dskLine d (ls.getD i [])).2 ++ [10])) := by
 rw [take_snoc (z := []) h, tell_snoc _ ht, if_pos hn]
theorem tell_no {ls : List Bs} {d0 d : Dsk} {o : Bs} {i : Nat} (h : i < ls.length) (ht : tellGo (ls.take i) d0 [] = (d, o)) (hn : (dskLine d (ls.getD i [])).2 = []) : tellGo (ls.take (i + 1)) d0 [] = ((dskLine d (ls.getD i [])).1, o) := by
 rw [take_snoc (z := []) h, tell_snoc _ ht, if_neg (fun g => g hn), List.append_nil]
theorem ses_new {t s : Bs} (h : (dskNew t).2 = false) : session t s = ([], -1) := by rw [session, if_pos h]
theorem ses_long {t s : Bs} (h : (dskNew t).2 = true) (h2 : 80 < (rowsI s).length) : session t s = ([], -2) := by rw [session, if_neg (by rw [h]; exact Bool.noConfusion), if_pos h2]
theorem ses_go {t s o : Bs} {d : Dsk} (h : (dskNew t).2 = true) (h2 : ¬ 80 < (rowsI s).length) (ht : tellGo (rowsI s) (dskNew t).1 [] = (d, o)) : session t s = (o, (((rowsI s).length : Nat) : Int)) := by rw [session, if_neg (by rw [h]; exact Bool.noConfusion), if_neg h2, ht]
theorem tell_len : ∀ (ls : List Bs) {d : Dsk} {o : Bs}, (tellGo ls d o).2.length ≤ o.length + 103 * ls.length
 | [], _, o => by rw [tellGo]; show o.length ≤ _; omega
 | x :: ls, d, o => by
  rw [tellGo]
  refine Nat.le_trans (tell_len ls) ?_
  have := line_len (d := d) (s := x)
  split
  ·simp only [List.length_append, List.length_cons, List.length_nil]; omega
  ·simp only [List.length_append, List.length_cons, List.length_nil]; omega
theorem tell_fit : ∀ (ls : List Bs) {d : Dsk} {o : Bs}, d.fit → d.order.length + 600 * ls.length ≤ 1000000 → (tellGo ls d o).1.fit ∧ (tellGo ls d o).1.order.length ≤ d.order.length + 600 * ls.length
 | [], d, _, h, _ => by rw [tellGo]; exact ⟨h, by show d.order.length ≤ _; omega⟩
 | x :: ls, d, o, h, hl => by
  rw [tellGo]
  simp only [List.length_cons] at hl
  have h1 := line_fit (s := x) h (by omega)
  have h2 := tell_fit ls (o := o ++ if (dskLine d x).2 ≠ [] then (dskLine d x).2 ++ [10] else []) h1.1 (by omega)
  refine ⟨h2.1, Nat.le_trans h2.2 ?_⟩
  simp only [List.length_cons]
  omega
theorem dskNew_order {t : Bs} : (dskNew t).1.order = [] := by unfold dskNew; split <;> rfl
theorem new_bounds {ls : List Bs} {t o : Bs} {d : Dsk} (h : ls.length ≤ 80) (ht : tellGo ls (dskNew t).1 [] = (d, o)) : d.fit ∧ d.order.length ≤ 48000 ∧ o.length ≤ 8240 := by
 have h1 := tell_fit ls (o := []) (dskNew_fit (l := t)) (by rw [dskNew_order]; simp only [List.length_nil]; omega)
 have h2 := tell_len ls (d := (dskNew t).1) (o := [])
 rw [ht] at h1 h2
 rw [dskNew_order] at h1
 simp only [List.length_nil] at h1 h2
 exact ⟨h1.1, by omega, by omega⟩
section
variable {d : Dsk} {s w : Bs} {p : Pik} {x i k : Nat}
theorem pickD_on (h : (corPick d.list d.c p).2 = true) (h2 : isN p = true) : dskPick d p = (⟨d.list, (corPick d.list d.c p).1, d.order ++ [numI p]⟩, tOk) := by
 rw [dskPick, h, if_pos rfl, noteI h2]; rfl
theorem pickD_onS (h : (corPick d.list d.c p).2 = true) (h2 : isN p = true) : dskPick d p = (⟨d.list, (corPick d.list d.c p).1, d.order ++ [numS p]⟩, tOk) := by
 rw [dskPick, h, if_pos rfl, noteS h2]; rfl
theorem pickD_off (h : (corPick d.list d.c p).2 = false ∨ isN p = false) : dskPick d p = (⟨d.list, (corPick d.list d.c p).1, d.order⟩, yesNo (corPick d.list d.c p).2 tOk tNo) := by
 have e : (d.order ++ if (corPick d.list d.c p).2 = true then noted p else []) = d.order := by
  rcases h with h | h
  ·rw [if_neg (by rw [h]; exact Bool.noConfusion), List.append_nil]
  ·rw [note_off h, ite_self, List.append_nil]
 rw [dskPick, e]
theorem pick_not (h : (corPick d.list d.c p).2 = false ∨ isN p = false) : (corPick d.list d.c p).2 = false ∨ isN p = false := h
theorem numW_no (h : s.length < w.length + 2 ∨ w.length + 3 < s.length ∨ s.take w.length ≠ w ∨ s.getD w.length 0 ≠ 32) : numW s w = -1 := by rw [numW, if_pos h]
theorem numW_none (h : ¬ (s.length < w.length + 2 ∨ w.length + 3 < s.length ∨ s.take w.length ≠ w ∨ s.getD w.length 0 ≠ 32)) (e : scanW (s.drop (w.length + 1)) 0 = none) : numW s w = -1 := by rw [numW, if_neg h, e]
theorem numW_some (h : ¬ (s.length < w.length + 2 ∨ w.length + 3 < s.length ∨ s.take w.length ≠ w ∨ s.getD w.length 0 ≠ 32)) (e : scanW (s.drop (w.length + 1)) 0 = some x) : numW s w = if itoa (x : Int) = s.drop (w.length + 1) then (x : Int) else -1 := by rw [numW, if_neg h, e]
theorem scanW_go (h : i < s.length) (hd : digit (s.getD i 0)) : scanW (s.drop i) x = scanW (s.drop (i + 1)) (10 * x + ((s.getD i 0).toNat - 48)) := by rw [drop_at h, scanW, if_pos hd]
theorem scanW_no (h : i < s.length) (hd : ¬ digit (s.getD i 0)) : scanW (s.drop i) x = none := by rw [drop_at h, scanW, if_neg hd]
theorem scanW_end (h : s.length ≤ i) : scanW (s.drop i) x = some x := by rw [List.drop_of_length_le h, scanW]
end
section
variable {l w : Bs}
theorem atoV_rng (l : Bs) : -9223372036854775808 ≤ (atoV l).1 ∧ (atoV l).1 ≤ 9223372036854775807 := by
 unfold atoV
 split
 ·rename_i h
  exact Lib.atoiAll_bounds h
 ·exact ⟨by decide, by decide⟩
 ·simp only [Lib.atoiSat]
  split <;> exact ⟨by decide, by decide⟩
theorem num_off (h : (((atoV l).2 = false ∨ (l.length : Int) > 2) ∨ (atoV l).1 < 0) ∨ ¬ bt (itoa (atoV l).1) = bt l) : dskNum l = (0, false) := by
 rw [dskNum, if_pos]
 rcases h with ((h | h) | h) | h
 ·exact Or.inl h
 ·exact Or.inr (Or.inl (by omega))
 ·exact Or.inr (Or.inr (Or.inl h))
 ·exact Or.inr (Or.inr (Or.inr fun e => h (by rw [e])))
theorem num_on (h : (((atoV l).2 = true ∧ ¬ (l.length : Int) > 2) ∧ ¬ (atoV l).1 < 0) ∧ bt (itoa (atoV l).1) = bt l) : dskNum l = ((atoV l).1, true) := by
 rw [dskNum, if_neg]
 rintro (g | g | g | g)
 ·rw [h.1.1.1] at g; cases g
 ·have := h.1.1.2; omega
 ·exact h.1.2 g
 ·exact g (bt_inj.1 h.2)
abbrev numOff (l w : Bs) : Prop := l.length < w.length + 2 ∨ w.length + 3 < l.length ∨ l.take w.length ≠ w ∨ l.getD w.length 0 ≠ 32
theorem nw_yes (h : (((l.length : Int) < ((w.length + 2 : Nat) : Int) ∨ (l.length : Int) > ((w.length + 3 : Nat) : Int)) ∨ ¬ bt (l.take w.length) = bt w) ∨ ¬ ((l.getD w.length 0).toNat : Int) = 32) : numOff l w := by
 rcases h with ((h | h) | h) | h
 ·exact Or.inl (by omega)
 ·exact Or.inr (Or.inl (by omega))
 ·exact Or.inr (Or.inr (Or.inl fun e => h (by rw [e])))
 ·exact Or.inr (Or.inr (Or.inr fun e => h (by rw [e]; rfl)))
theorem nw_not (h : ((¬ (l.length : Int) < ((w.length + 2 : Nat) : Int) ∧ ¬ (l.length : Int) > ((w.length + 3 : Nat) : Int)) ∧ bt (l.take w.length) = bt w) ∧ ((l.getD w.length 0).toNat : Int) = 32) : ¬ numOff l w := by
 rintro (g | g | g | g)
 ·have := h.1.1.1; omega
 ·have := h.1.1.2; omega
 ·exact g (bt_inj.1 h.1.2)
 ·exact g (by rw [← UInt8.toNat_inj]; have := h.2; have h2 : ((32 : UInt8).toNat) = 32 := rfl; omega)
end
def fillK (k m : Nat) : List Int := List.replicate m (-1) ++ List.replicate (k - m) 0
section
variable {k m : Nat}
theorem fillK_len (h : m ≤ k) : (fillK k m).length = k := by simp [fillK]; omega
theorem fillK_lenI (h : m ≤ k) : (ints (fillK k m)).length = k := by rw [ints_len, fillK_len h]
theorem fillK_start : putAt (ints (List.replicate k 0)) 0 (List.take (Nat.min 1 k) [.int .i64 (-1)]) = ints (fillK k (Nat.min 1 k)) := by
 cases k with
 | zero => rfl
 | succ k =>
  have e : Nat.min 1 (k + 1) = 1 := by show min 1 (k + 1) = 1; omega
  rw [e]
  show putAt (ints (List.replicate (k + 1) 0)) 0 (ints [-1]) = _
  rw [ints_putMany]
  simp [fillK, List.replicate_succ]
theorem fillK_end : fillK k k = List.replicate k (-1) := by simp [fillK]
theorem fillK_copy (h : m ≤ k) : putAt (ints (fillK k m)) m (((ints (fillK k m)).take m).take (Nat.min m (k - m))) = ints (fillK k (m + Nat.min m (k - m))) := by
 have e1 : (fillK k m).take m = List.replicate m (-1) := by rw [fillK, List.take_left' (by simp)]
 have e2 : Nat.min m (k - m) = min m (k - m) := rfl
 rw [ints_takeN, e1, ints_takeN, List.take_replicate, e2, show min (min m (k - m)) m = min m (k - m) by omega, ints_putMany, e1]
 congr 1
 have e3 : (fillK k m).drop (m + (List.replicate (min m (k - m)) (-1 : Int)).length) = List.replicate (k - (m + min m (k - m))) 0 := by
  rw [List.length_replicate, ← List.drop_drop, fillK, List.drop_left' (by simp), List.drop_replicate]
  congr 1
  omega
 rw [e3, fillK, ← List.append_assoc, List.replicate_append_replicate]
theorem wrapU_small (h : k ≤ 600) : IntKind.u64.wrap (k : Int) = (k : Int) := by
 have : ∀ n : Fin 601, IntKind.u64.wrap (n.val : Int) = (n.val : Int) := by decide +kernel
 exact this ⟨k, by omega⟩
end
section
variable {d : Dsk} {l w : Bs} {n : Int} {os : List Int} {ls : List Ins} {s u : Stt} {i : Nat}
theorem foldR_take (h : i < os.length) (he : (os.take i).foldl (fun s n => run ls s [n]) s = u) : (os.take (i + 1)).foldl (fun s n => run ls s [n]) s = run ls u [os.getD i 0] := by
 rw [take_snoc (z := 0) h, List.foldl_append, he]
 rfl
theorem nm_do (c1 : bt w = bt [100, 111]) : dskNumbered d w n = dskPick d ⟨2, n⟩ := by rw [dskNumbered, if_pos (show w = wDo from bt_inj.1 c1)]
theorem ne_of {x y : Bs} (h : ¬ bt x = bt y) : ¬ x = y := fun e => h (by rw [e])
theorem nm_sweep (c1 : ¬ bt w = bt [100, 111]) (c2 : bt w = bt [115, 119, 101, 101, 112]) : dskNumbered d w n = dskPick d ⟨4, n⟩ := by rw [dskNumbered, if_neg (show ¬ w = wDo from ne_of c1), if_pos (show w = wSweep from bt_inj.1 c2)]
theorem nm_none (c1 : ¬ bt w = bt [100, 111]) (c2 : ¬ bt w = bt [115, 119, 101, 101, 112]) (c3 : bt w = bt [114, 101, 103]) (c4 : n ≥ 8) : dskNumbered d w n = (d, tNone) := by rw [dskNumbered, if_neg (show ¬ w = wDo from ne_of c1), if_neg (show ¬ w = wSweep from ne_of c2), if_pos (show w = wReg from bt_inj.1 c3), if_pos c4]
theorem nm_reg (c1 : ¬ bt w = bt [100, 111]) (c2 : ¬ bt w = bt [115, 119, 101, 101, 112]) (c3 : bt w = bt [114, 101, 103]) (c4 : ¬ n ≥ 8) : dskNumbered d w n = (d, wordT (reg d.c.s n)) := by rw [dskNumbered, if_neg (show ¬ w = wDo from ne_of c1), if_neg (show ¬ w = wSweep from ne_of c2), if_pos (show w = wReg from bt_inj.1 c3), if_neg c4]
theorem nm_what (c1 : ¬ bt w = bt [100, 111]) (c2 : ¬ bt w = bt [115, 119, 101, 101, 112]) (c3 : ¬ bt w = bt [114, 101, 103]) : dskNumbered d w n = (d, tWhat) := by rw [dskNumbered, if_neg (show ¬ w = wDo from ne_of c1), if_neg (show ¬ w = wSweep from ne_of c2), if_neg (show ¬ w = wReg from ne_of c3)]
theorem ln_pull (c1 : bt l = bt [112, 117, 108, 108]) : dskDo d l = dskPick d ⟨1, 0⟩ := by rw [dskDo, if_pos (show l = wPull from bt_inj.1 c1)]
theorem ln_commit (c1 : ¬ bt l = bt [112, 117, 108, 108]) (c2 : bt l = bt [99, 111, 109, 109, 105, 116]) : dskDo d l = dskPick d ⟨3, 0⟩ := by rw [dskDo, if_neg (show ¬ l = wPull from ne_of c1), if_pos (show l = wCommit from bt_inj.1 c2)]
theorem ln_settle (c1 : ¬ bt l = bt [112, 117, 108, 108]) (c2 : ¬ bt l = bt [99, 111, 109, 109, 105, 116]) (c3 : bt l = bt [115, 101, 116, 116, 108, 101]) : dskDo d l = dskSettle d := by rw [dskDo, if_neg (show ¬ l = wPull from ne_of c1), if_neg (show ¬ l = wCommit from ne_of c2), if_pos (show l = wSettle from bt_inj.1 c3)]
theorem ln_trap (c1 : ¬ bt l = bt [112, 117, 108, 108]) (c2 : ¬ bt l = bt [99, 111, 109, 109, 105, 116]) (c3 : ¬ bt l = bt [115, 101, 116, 116, 108, 101]) (c4 : bt l = bt [116, 114, 97, 112]) : dskDo d l = (d, trapB d.c.s.trap) := by rw [dskDo, if_neg (show ¬ l = wPull from ne_of c1), if_neg (show ¬ l = wCommit from ne_of c2), if_neg (show ¬ l = wSettle from ne_of c3), if_pos (show l = wTrap from bt_inj.1 c4)]
theorem ln_same (c1 : ¬ bt l = bt [112, 117, 108, 108]) (c2 : ¬ bt l = bt [99, 111, 109, 109, 105, 116]) (c3 : ¬ bt l = bt [115, 101, 116, 116, 108, 101]) (c4 : ¬ bt l = bt [116, 114, 97, 112]) (c5 : bt l = bt [115, 97, 109, 101]) : dskDo d l = (d, yesNo (dskSame d) tYes tNo) := by rw [dskDo, if_neg (show ¬ l = wPull from ne_of c1), if_neg (show ¬ l = wCommit from ne_of c2), if_neg (show ¬ l = wSettle from ne_of c3), if_neg (show ¬ l = wTrap from ne_of c4), if_pos (show l = wSame from bt_inj.1 c5)]
theorem ln_what (c1 : ¬ bt l = bt [112, 117, 108, 108]) (c2 : ¬ bt l = bt [99, 111, 109, 109, 105, 116]) (c3 : ¬ bt l = bt [115, 101, 116, 116, 108, 101]) (c4 : ¬ bt l = bt [116, 114, 97, 112]) (c5 : ¬ bt l = bt [115, 97, 109, 101]) (c6 : (dskNum (cutB l 32).2.1).2 = false) : dskDo d l = (d, tWhat) := by rw [dskDo, if_neg (show ¬ l = wPull from ne_of c1), if_neg (show ¬ l = wCommit from ne_of c2), if_neg (show ¬ l = wSettle from ne_of c3), if_neg (show ¬ l = wTrap from ne_of c4), if_neg (show ¬ l = wSame from ne_of c5), if_pos c6]
theorem ln_num (c1 : ¬ bt l = bt [112, 117, 108, 108]) (c2 : ¬ bt l = bt [99, 111, 109, 109, 105, 116]) (c3 : ¬ bt l = bt [115, 101, 116, 116, 108, 101]) (c4 : ¬ bt l = bt [116, 114, 97, 112]) (c5 : ¬ bt l = bt [115, 97, 109, 101]) (c6 : (dskNum (cutB l 32).2.1).2 = true) : dskDo d l = dskNumbered d (cutB l 32).1 (dskNum (cutB l 32).2.1).1 := by rw [dskDo, if_neg (show ¬ l = wPull from ne_of c1), if_neg (show ¬ l = wCommit from ne_of c2), if_neg (show ¬ l = wSettle from ne_of c3), if_neg (show ¬ l = wTrap from ne_of c4), if_neg (show ¬ l = wSame from ne_of c5), if_neg (by rw [c6]; exact Bool.noConfusion)]
end
section
variable {d : Dsk} {l : Bs} {os : List Int} {i : Nat}
theorem dskState_fit (d : Dsk) : (dskState d).fit := by
 have h : ∀ (ns : List Int) {s : Stt}, s.fit → (ns.foldl (fun s n => run d.list s [n]) s).fit := fun ns => by
  induction ns with
  | nil => exact fun h => h
  | cons n ns ih => exact fun h => ih (run_fit h)
 exact h _ sttNew_fit
theorem ints_one (h : i < os.length) : ((ints os).drop i).take 1 = [.int .i64 (os.getD i 0)] := by
 have e : (ints os).drop i = ints (os.drop i) := by simp only [ints, List.map_drop]
 have e2 : os.getD i 0 = os[i] := by rw [List.getD_eq_getElem?_getD, List.getElem?_eq_getElem h]; rfl
 rw [e, List.drop_eq_getElem_cons h, e2]
 rfl
theorem head59 (h : ¬ l = []) : l.head? = some 59 ↔ (l.getD 0 0).toNat = 59 := by
 cases l with
 | nil => exact absurd rfl h
 | cons b r =>
  simp only [List.head?_cons, Option.some.injEq, List.getD_cons_zero]
  rw [← UInt8.toNat_inj]
  exact Iff.rfl
theorem semi_yes (c : bt l = bt [] ∨ ((l.getD 0 0).toNat : Int) = 59) : l = [] ∨ l.head? = some 59 := by
 by_cases h : l = []
 ·exact Or.inl h
 ·exact Or.inr ((head59 h).2 (by have := c.resolve_left (fun e => h (bt_inj.1 e)); omega))
theorem semi_no (c : ¬ bt l = bt [] ∧ ¬ ((l.getD 0 0).toNat : Int) = 59) : ¬ (l = [] ∨ l.head? = some 59) := by
 rintro (g | g)
 ·exact c.1 (by rw [g])
 ·have := (head59 (fun e => c.1 (by rw [e]))).1 g
  exact c.2 (by omega)
theorem dl_bad (c1 : corOk d.c = false) : dskLine d l = (d, tBad) := by rw [dskLine, if_pos c1]
theorem dl_none (c1 : corOk d.c = true) (c2 : bt l = bt [] ∨ ((l.getD 0 0).toNat : Int) = 59) : dskLine d l = (d, []) := by rw [dskLine, if_neg (by rw [c1]; exact Bool.noConfusion), if_pos (semi_yes c2)]
theorem dl_do (c1 : corOk d.c = true) (c2 : ¬ bt l = bt [] ∧ ¬ ((l.getD 0 0).toNat : Int) = 59) : dskLine d l = dskDo d l := by rw [dskLine, if_neg (by rw [c1]; exact Bool.noConfusion), if_neg (semi_no c2)]
theorem as_trap (c1 : bt l = bt [116, 114, 97, 112]) : askedS d l = trapB d.c.s.trap := by rw [askedS, if_pos (show l = wTrap from bt_inj.1 c1)]
theorem as_same (c1 : ¬ bt l = bt [116, 114, 97, 112]) (c2 : bt l = bt [115, 97, 109, 101]) : askedS d l = yesNo (dskSame d) tYes tNo := by rw [askedS, if_neg (show ¬ l = wTrap from ne_of c1), if_pos (show l = wSame from bt_inj.1 c2)]
theorem as_none (c1 : ¬ bt l = bt [116, 114, 97, 112]) (c2 : ¬ bt l = bt [115, 97, 109, 101]) (c3 : numW l wReg < 0) : askedS d l = [] := by rw [askedS, if_neg (show ¬ l = wTrap from ne_of c1), if_neg (show ¬ l = wSame from ne_of c2), if_pos c3]
theorem as_far (c1 : ¬ bt l = bt [116, 114, 97, 112]) (c2 : ¬ bt l = bt [115, 97, 109, 101]) (c3 : ¬ numW l wReg < 0) (c4 : numW l wReg > 7) : askedS d l = tNone := by rw [askedS, if_neg (show ¬ l = wTrap from ne_of c1), if_neg (show ¬ l = wSame from ne_of c2), if_neg c3, if_pos c4]
theorem as_reg (c1 : ¬ bt l = bt [116, 114, 97, 112]) (c2 : ¬ bt l = bt [115, 97, 109, 101]) (c3 : ¬ numW l wReg < 0) (c4 : ¬ numW l wReg > 7) : askedS d l = wordT (reg d.c.s (numW l wReg)) := by rw [askedS, if_neg (show ¬ l = wTrap from ne_of c1), if_neg (show ¬ l = wSame from ne_of c2), if_neg c3, if_neg c4]
end
section
variable {d : Dsk} {l : Bs}
theorem sl_bad (c1 : corOk d.c = false) : dskLineS d l = (d, tBad) := by rw [dskLineS, if_pos c1]
theorem sl_none (hk : corOk d.c = true) (c2 : bt l = bt [] ∨ ((l.getD 0 0).toNat : Int) = 59) : dskLineS d l = (d, []) := by rw [dskLineS, if_neg (by rw [hk]; exact Bool.noConfusion), if_pos (semi_yes c2)]
theorem sl_said (hk : corOk d.c = true) (c2 : ¬ bt l = bt [] ∧ ¬ ((l.getD 0 0).toNat : Int) = 59) (c3 : ¬ bt (askedS d l) = bt []) : dskLineS d l = (d, askedS d l) := by rw [dskLineS, if_neg (by rw [hk]; exact Bool.noConfusion), if_neg (semi_no c2), if_pos (fun e => c3 (by rw [e]))]
theorem sl_go (hk : corOk d.c = true) (c2 : ¬ bt l = bt [] ∧ ¬ ((l.getD 0 0).toNat : Int) = 59) (c3 : bt (askedS d l) = bt []) : dskLineS d l = if l = wSettle then dskSettle d else if (pickS2 l).2 = false then (d, tWhat) else dskPick d (pickS2 l).1 := by
 rw [dskLineS, if_neg (by rw [hk]; exact Bool.noConfusion), if_neg (semi_no c2), if_neg (fun g => g (bt_inj.1 c3))]
theorem sl_settle (hk : corOk d.c = true) (c2 : ¬ bt l = bt [] ∧ ¬ ((l.getD 0 0).toNat : Int) = 59) (c3 : bt (askedS d l) = bt []) (c4 : bt l = bt [115, 101, 116, 116, 108, 101]) : dskLineS d l = dskSettle d := by rw [sl_go hk c2 c3, if_pos (show l = wSettle from bt_inj.1 c4)]
theorem sl_what (hk : corOk d.c = true) (c2 : ¬ bt l = bt [] ∧ ¬ ((l.getD 0 0).toNat : Int) = 59) (c3 : bt (askedS d l) = bt []) (c4 : ¬ bt l = bt [115, 101, 116, 116, 108, 101]) (c6 : (pickS2 l).2 = false) : dskLineS d l = (d, tWhat) := by rw [sl_go hk c2 c3, if_neg (show ¬ l = wSettle from ne_of c4), if_pos c6]
theorem sl_pick (hk : corOk d.c = true) (c2 : ¬ bt l = bt [] ∧ ¬ ((l.getD 0 0).toNat : Int) = 59) (c3 : bt (askedS d l) = bt []) (c4 : ¬ bt l = bt [115, 101, 116, 116, 108, 101]) (c6 : (pickS2 l).2 = true) : dskLineS d l = dskPick d (pickS2 l).1 := by rw [sl_go hk c2 c3, if_neg (show ¬ l = wSettle from ne_of c4), if_neg (by rw [c6]; exact Bool.noConfusion)]
theorem rep_next {o a : List Int} {i : Nat} (h : o = a ++ List.replicate i (-1)) : o ++ [-1] = a ++ List.replicate (i + 1) (-1) := by rw [h, List.append_assoc, List.replicate_succ']
end
section
variable {l t : Bs} {D : List Bs} {a i : Nat} {d : Dsk} {o : Bs}
theorem split_pos : 0 < (splitB 10 l).length := List.length_pos_iff.2 splitB_ne
theorem last_getD {xs : List Bs} (h : 0 < xs.length) : xs.getLast? = some (xs.getD (xs.length - 1) []) := by
 rw [List.getLast?_eq_getElem?, List.getD_eq_getElem?_getD, List.getElem?_eq_getElem (by omega)]
 rfl
theorem ri_cut (h : bt ((splitB 10 l).getD ((splitB 10 l).length - 1) []) = bt []) : rowsI l = (splitB 10 l).dropLast := by
 rw [rowsI, if_pos (by rw [last_getD split_pos, bt_inj.1 h])]
theorem ri_all (h : ¬ bt ((splitB 10 l).getD ((splitB 10 l).length - 1) []) = bt []) : rowsI l = splitB 10 l := by
 rw [rowsI, if_neg]
 rw [last_getD split_pos]
 exact fun e => h (by rw [Option.some.inj e])
theorem ri_at (h : i < (rowsI l).length) : (splitB 10 l).getD i [] = (rowsI l).getD i [] ∧ i < (splitB 10 l).length := by
 by_cases e : bt ((splitB 10 l).getD ((splitB 10 l).length - 1) []) = bt []
 ·rw [ri_cut e] at h ⊢
  rw [List.length_dropLast] at h
  refine ⟨?_, by omega⟩
  rw [List.getD_eq_getElem?_getD, List.getD_eq_getElem?_getD, List.getElem?_dropLast, if_pos h]
 ·rw [ri_all e] at h ⊢
  exact ⟨rfl, h⟩
theorem ri_mem (h : i < (rowsI l).length) : ((rowsI l).getD i []).length ≤ l.length := split_mem (strs_mem h)
theorem rIv_on2 (h : rIv l D a i) (hi : (i : Int) ≤ (l.length : Int)) (c : ((i : Int) < (l.length : Int) ∧ ¬ ((l.getD i 0).toNat : Int) = 10) ∨ ((i : Int) = (l.length : Int) ∧ (a : Int) = (l.length : Int))) : rIv l D a (i + 1) :=
 rIv_on h (by omega) (c.imp (fun c => ⟨by omega, fun e => c.2 (by omega)⟩) (fun c => ⟨by omega, by omega⟩))
theorem rIv_cut2 (h : rIv l D a i) (hi : (i : Int) ≤ (l.length : Int)) (c : ((i : Int) < (l.length : Int) → ((l.getD i 0).toNat : Int) = 10) ∧ ((i : Int) = (l.length : Int) → ¬ (a : Int) = (l.length : Int))) : rIv l (D ++ [(l.take i).drop a]) (i + 1) (i + 1) :=
 rIv_cut h (by omega) (fun g => g.elim (fun g => g.2 (by have := c.1 (by omega); omega)) (fun g => c.2 (by omega) (by omega)))
theorem rIv_D (h : rIv l D a i) (hi : i ≤ l.length + 1) : D.length ≤ l.length + 1 := Nat.le_trans (rIv_len h) (rowsS_len l [])
theorem rIv_fin (h : rIv l D a i) (hi : ¬ (i : Int) ≤ (l.length : Int)) : D = rowsI l := by rw [rIv_end h (by omega), rows_eq]
end
section
theorem blk_exit {ρ : Env} {H : Heap} {Q : Exit → Env → Heap → Prop} {id : Nat} {R : Env → Heap → Prop} (h : R ρ H) : blkQ id R Q (.exit id) ρ H := by simpa [blkQ] using h
theorem bt_of (s : ByteArray) : bt s.data.toList = s := by
 apply ByteArray.ext
 simp [bt]
end
end Go.Proofs.YtgpjgljgplngpaaGreatDoor.AM
