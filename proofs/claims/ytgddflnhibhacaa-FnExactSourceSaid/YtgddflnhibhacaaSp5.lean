/- What the program's functions come to, said plainly: commands, memory, states, steps, runs. No conditions. -/
import Derived.Test.YtgddflnhibhacaaSp4
set_option linter.unusedVariables false
set_option linter.unusedSimpArgs false
namespace Go.Proofs.Ytgddflnhibhacaa.AM
open Go

/-! ### commands: which parts they bear (1: r, 2: a, 4: b, 8: n) -/
def hasL : List Int := [0, 9, 7, 3, 7, 7, 15, 7, 7, 3, 11, 14, 3, 10, 2, 0]
def has (op : Int) : Int := if inR op 1 15 = true then hasL.getD op.toNat 0 else 0
def hasR (op : Int) : Bool := !decide (band (has op) 1 = 0)
def hasA (op : Int) : Bool := !decide (band (has op) 2 = 0)
def hasB (op : Int) : Bool := !decide (band (has op) 4 = 0)
def hasN (op : Int) : Bool := !decide (band (has op) 8 = 0)
def fieldOk (x : Int) (h : Bool) : Bool := inR x 0 7 && (h || decide (x = 0))
def insOk (x : Ins) : Bool := inR x.op 1 15 && fieldOk x.r (hasR x.op) && fieldOk x.a (hasA x.op) && fieldOk x.b (hasB x.op) && inR x.n (-128) 127 && (hasN x.op || decide (x.n = 0))
def sets (x : Ins) : Int := if hasR x.op = true then x.r else -1

/-- The parts that a command bears, as letters. -/
def formL (op : Int) : List UInt8 :=
  if op = 1 then [82, 78] else if op = 2 ∨ op = 4 ∨ op = 5 ∨ op = 7 ∨ op = 8 then [82, 65, 66] else if op = 3 ∨ op = 9 ∨ op = 12 then [82, 65] else if op = 6 then [82, 65, 66, 78]
  else if op = 10 then [82, 65, 78] else if op = 11 then [65, 66, 78] else if op = 13 then [65, 78] else if op = 14 then [65] else []
def form (op : Int) : ByteArray := ⟨(formL op).toArray⟩
def bytesV (l : List UInt8) : List AV := l.map fun b => .int .u8 (b.toNat : Int)
theorem bytesV_len {l : List UInt8} : (bytesV l).length = l.length := by simp [bytesV]
theorem bytesV_at {l : List UInt8} {i : Nat} (h : i < l.length) : ((bytesV l).drop i).head? = some (.int .u8 ((l.getD i 0).toNat : Int)) := by
  rw [List.head?_drop]
  simp [bytesV, h]
theorem bytesV_take {l : List UInt8} : (bytesV l).take l.length = bytesV l := by rw [← bytesV_len, List.take_length]
theorem bor_bytesV {Hb : Heap} {inv : Nat → Option Nat} {n : Nat} {l : List UInt8} : (bytesV l).map (bor Hb inv (n + 1)) = bytesV l := by simp [bytesV, bor]
theorem form_cells {op : Int} : byteCells (form op) = bytesV (formL op) := by simp [byteCells, form, bytesV]
theorem form_size {op : Int} : (form op).size = (formL op).length := by simp [form, ByteArray.size]
theorem formL_len {op : Int} : (formL op).length ≤ 4 := by
  unfold formL
  repeat (split; · simp)
  simp
attribute [go_sem] bytesV_len bytesV_at bytesV_take bor_bytesV form_cells form_size
def partI (x : Ins) (p : Int) : Int := if p = 82 then x.r else if p = 65 then x.a else if p = 66 then x.b else x.n
def hasI (op : Int) (p : Int) : Bool := (formL op).any fun b => decide (p = (b.toNat : Int))
theorem op_cases {op : Int} (h : inR op 1 15 = true) : op = 1 ∨ op = 2 ∨ op = 3 ∨ op = 4 ∨ op = 5 ∨ op = 6 ∨ op = 7 ∨ op = 8 ∨ op = 9 ∨ op = 10 ∨ op = 11 ∨ op = 12 ∨ op = 13 ∨ op = 14 ∨ op = 15 := by
  rw [inR_iff] at h
  omega
theorem has_row {op : Int} (h : inR op 1 15 = true) : (List.drop op.toNat [AV.int .i64 0, .int .i64 9, .int .i64 7, .int .i64 3, .int .i64 7, .int .i64 7, .int .i64 15, .int .i64 7, .int .i64 7, .int .i64 3, .int .i64 11, .int .i64 14, .int .i64 3, .int .i64 10, .int .i64 2, .int .i64 0]).head? = some (.int .i64 (has op)) := by
  rcases op_cases h with rfl | rfl | rfl | rfl | rfl | rfl | rfl | rfl | rfl | rfl | rfl | rfl | rfl | rfl | rfl <;> rfl
theorem hasI_eq (op : Int) : hasI op 82 = hasR op ∧ hasI op 65 = hasA op ∧ hasI op 66 = hasB op ∧ hasI op 78 = hasN op := by
  by_cases h : inR op 1 15 = true
  · rcases op_cases h with rfl | rfl | rfl | rfl | rfl | rfl | rfl | rfl | rfl | rfl | rfl | rfl | rfl | rfl | rfl <;> decide
  · have h0 : has op = 0 := by rw [has, if_neg h]
    have h1 : formL op = [] := by
      rw [inR_iff] at h
      unfold formL
      repeat (rw [if_neg (by omega)])
    simp only [hasI, h1, hasR, hasA, hasB, hasN, h0, List.any_nil]
    decide
def pL (i : Nat) : Int := ([82, 65, 66, 78] : List Int).getD i 0
theorem pL_row {i : Nat} (h : i < 4) : (List.drop i [AV.int .u8 82, .int .u8 65, .int .u8 66, .int .u8 78]).head? = some (.int .u8 (pL i)) :=
  match i, h with
  | 0, _ => rfl
  | 1, _ => rfl
  | 2, _ => rfl
  | 3, _ => rfl
def okP (x : Ins) (i : Nat) : Bool := if hasI x.op (pL i) = false then decide (partI x (pL i) = 0) else if pL i = 78 then inR (partI x (pL i)) (-128) 127 else inR (partI x (pL i)) 0 7
def okU (x : Ins) : Nat → Bool
  | 0 => inR x.op 1 15
  | i + 1 => okU x i && okP x i
theorem okU_all (x : Ins) : okU x 4 = insOk x := by
  obtain ⟨h1, h2, h3, h4⟩ := hasI_eq x.op
  have e0 : okP x 0 = fieldOk x.r (hasR x.op) := by
    show (if hasI x.op 82 = false then decide (x.r = 0) else inR x.r 0 7) = _
    rw [h1]
    cases hasR x.op <;> simp [fieldOk, inR] <;> omega
  have e1 : okP x 1 = fieldOk x.a (hasA x.op) := by
    show (if hasI x.op 65 = false then decide (x.a = 0) else inR x.a 0 7) = _
    rw [h2]
    cases hasA x.op <;> simp [fieldOk, inR] <;> omega
  have e2 : okP x 2 = fieldOk x.b (hasB x.op) := by
    show (if hasI x.op 66 = false then decide (x.b = 0) else inR x.b 0 7) = _
    rw [h3]
    cases hasB x.op <;> simp [fieldOk, inR] <;> omega
  have e3 : okP x 3 = (inR x.n (-128) 127 && (hasN x.op || decide (x.n = 0))) := by
    show (if hasI x.op 78 = false then decide (x.n = 0) else inR x.n (-128) 127) = _
    rw [h4]
    cases hasN x.op <;> simp [inR] <;> omega
  simp only [okU, e0, e1, e2, e3, insOk, Bool.and_assoc]
/-! ### memory -/
def memOk (m : Mem) : Bool := decide (m.words.length = 24) && decide (m.gone.length = 24) && m.words.all wordOk
def memNew : Mem := ⟨List.replicate 24 noWord, List.replicate 24 false⟩
def filt (m : Mem) (w : Word) : Word := if w.is = true ∧ inR w.key.base 0 (m.gone.length - 1) = true ∧ m.gone.getD w.key.base.toNat false = true then bare w else w
def readT (m : Mem) (by_ : Word) (n : Int) : Int := if tryW by_ n 1 = 0 then (if inR n 0 (m.words.length - 1) = true then 0 else 4) else tryW by_ n 1
def read (m : Mem) (by_ : Word) (n : Int) : Word × Int := if readT m by_ n = 0 then (filt m (taken by_ (m.words.getD n.toNat noWord)), 0) else (noWord, readT m by_ n)
def writeT (m : Mem) (by_ : Word) (n : Int) (w : Word) : Int := if tryW by_ n 2 ≠ 0 then tryW by_ n 2 else if inR n 0 (m.words.length - 1) = false then 4 else if mayPut by_ w = false then 3 else 0
def sweep (m : Mem) (n : Int) : Mem := if memOk m = true then (if inR n 0 23 = true then ⟨m.words.set n.toNat (filt m (m.words.getD n.toNat noWord)), m.gone⟩ else m) else noMem
def dropM (m : Mem) (n : Int) : Mem := if memOk m = true then (if inR n 0 23 = true then ⟨m.words, m.gone.set n.toNat true⟩ else m) else noMem

/-! ### states -/
def sttOk (s : Stt) : Bool := s.regs.all wordOk && decide (s.regs.length = 8) && wordOk s.pc && memOk s.mem && inR s.trap 0 5
def fetch (l : List Ins) (pc : Word) : Ins × Int :=
  if tryW pc pc.n 4 ≠ 0 then (noIns, tryW pc pc.n 4) else if inR pc.n 0 (l.length - 1) = true ∧ insOk (l.getD pc.n.toNat noIns) = true then (l.getD pc.n.toNat noIns, 0) else (noIns, 4)
def fxTrap (t : Int) (pc : Word) : Fx := ⟨t, -1, noWord, pc, -1, noWord, -1⟩
def isW (a : Word) : Word := if a.is = true then plain 1 else plain 0
def valueOf (x : Ins) (a b got : Word) : Word :=
  if x.op = 1 then plain x.n else if x.op = 2 then plain (wadd a.n b.n) else if x.op = 3 then a else if x.op = 4 then weaken a b.n else if x.op = 5 then narrow a b.n
  else if x.op = 6 then point a (wadd (wadd a.n b.n) x.n) else if x.op = 7 then sealBy a b else if x.op = 8 then openBy a b else if x.op = 10 then got else isW a
def nextPc (pc : Word) : Word := point pc (wadd pc.n 1)
def work (x : Ins) (pc a b got : Word) : Fx :=
  if x.op = 11 then ⟨0, -1, noWord, nextPc pc, wadd a.n x.n, b, -1⟩
  else if x.op = 12 then (if tryW a a.n 4 ≠ 0 then fxTrap (tryW a a.n 4) pc else ⟨0, x.r, nextPc pc, a, -1, noWord, -1⟩)
  else if x.op = 13 then ⟨0, -1, noWord, if a.n = 0 then point pc (wadd pc.n x.n) else nextPc pc, -1, noWord, -1⟩
  else if x.op = 14 then (if tryW a a.n 32 ≠ 0 then fxTrap (tryW a a.n 32) pc else ⟨0, -1, noWord, nextPc pc, -1, noWord, a.key.base⟩)
  else if x.op = 15 then fxTrap 5 pc
  else ⟨0, sets x, if 0 ≤ sets x then valueOf x a b got else noWord, nextPc pc, -1, noWord, -1⟩
def memOf (m : Mem) (x : Ins) (a b : Word) : Word × Int := if x.op = 10 then read m a (wadd a.n x.n) else if x.op = 11 then (noWord, writeT m a (wadd a.n x.n) b) else (noWord, 0)
def applyFx (s : Stt) (e : Fx) : Stt :=
  ⟨if inR e.r 0 7 = true then s.regs.set e.r.toNat e.val else s.regs, e.next,
   ⟨if inR e.adr 0 23 = true then s.mem.words.set e.adr.toNat e.put else s.mem.words, if inR e.drop 0 23 = true then s.mem.gone.set e.drop.toNat true else s.mem.gone⟩, s.trap⟩
def reg (s : Stt) (r : Int) : Word := s.regs.getD r.toNat noWord
/-- What the command at the place comes to. -/
def fxOf (l : List Ins) (s : Stt) : Fx :=
  if (fetch l s.pc).2 ≠ 0 then fxTrap (fetch l s.pc).2 s.pc
  else if (memOf s.mem (fetch l s.pc).1 (reg s (fetch l s.pc).1.a) (reg s (fetch l s.pc).1.b)).2 ≠ 0 then fxTrap (memOf s.mem (fetch l s.pc).1 (reg s (fetch l s.pc).1.a) (reg s (fetch l s.pc).1.b)).2 s.pc
  else work (fetch l s.pc).1 s.pc (reg s (fetch l s.pc).1.a) (reg s (fetch l s.pc).1.b) (memOf s.mem (fetch l s.pc).1 (reg s (fetch l s.pc).1.a) (reg s (fetch l s.pc).1.b)).1
def withTrap (s : Stt) (t : Int) : Stt := ⟨s.regs, s.pc, s.mem, t⟩
def step (l : List Ins) (s : Stt) : Stt :=
  if sttOk s = false then noStt else if s.trap ≠ 0 then s else if (fxOf l s).trap ≠ 0 then withTrap s (fxOf l s).trap else applyFx s (fxOf l s)
def withMem (s : Stt) (m : Mem) : Stt := ⟨s.regs, s.pc, m, s.trap⟩
def runOne (l : List Ins) (s : Stt) (n : Int) : Stt := if n < 0 then step l s else withMem s (sweep s.mem n)
def run (l : List Ins) (s : Stt) (ns : List Int) : Stt := if sttOk s = false then noStt else if 600 < ns.length then s else ns.foldl (runOne l) s
def keysOf (ws : List Word) : List Word := ws.filter (·.is)
def keys (s : Stt) : List Word := keysOf (s.regs ++ [s.pc] ++ s.mem.words)
def allUnder (ws by_ : List Word) : Bool := ws.all fun w => unders w by_
def closed (s t : Stt) : Bool := sttOk s && sttOk t && allUnder (keys t) (keys s)
def alike (s t : Stt) : Bool := decide (s.regs = t.regs) && decide (s.pc = t.pc) && decide (s.mem.words = t.mem.words) && decide (s.mem.gone = t.mem.gone) && decide (s.trap = t.trap)
end Go.Proofs.Ytgddflnhibhacaa.AM
