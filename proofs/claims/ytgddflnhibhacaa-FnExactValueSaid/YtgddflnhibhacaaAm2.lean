/- The abstract machine, part 2: its operations. No conditions. -/
import Derived.Test.YtgddflnhibhacaaAm1
set_option linter.unusedVariables false
set_option linter.unusedSimpArgs false
namespace Go.Proofs.Ytgddflnhibhacaa.AM
open Go

/-! ### what is asked of the program's types -/
def tSize (P : Program) (t : TypeId) : Option Nat := (P.info? t).map (·.size)
def tBytes (P : Program) (t : TypeId) : Option Nat := (P.info? t).map (·.bytes)
def tAgg (P : Program) (t : TypeId) : Option Bool := (P.underlying t).map fun d => match d with | .struct _ | .array _ _ => true | _ => false
def tField (P : Program) (s f : Nat) : Option (Nat × TypeId) := match P.underlying s with
  | some (.struct fs) => (fs[f]?).map fun x => (x.offset, x.type)
  | _ => none
def tElem (P : Program) (t : TypeId) : Option TypeId := match P.underlying t with
  | some (.slice e) => some e
  | _ => none
def tInt (P : Program) (t : TypeId) : Option IntKind := match P.underlying t with
  | some (.int k) => some k
  | _ => none

def tStr (P : Program) (t : TypeId) : Bool := match P.underlying t with | some .string => true | _ => false
def tBoo (P : Program) (t : TypeId) : Bool := match P.underlying t with | some .bool => true | _ => false
def tSli (P : Program) (t : TypeId) : Bool := match P.underlying t with | some (.slice _) => true | _ => false
def tIfc (P : Program) (t : TypeId) : Bool := match P.underlying t with | some (.interface _) => true | _ => false
def tSct (P : Program) (t : TypeId) : Bool := match P.underlying t with | some (.struct fs) => fs.toList.all fun f => (P.info? f.type).isSome | _ => false
def tIs (P : Program) (t : TypeId) : Bool := (P.underlying t).isSome

/-- A constant. -/
def ofV : Value → AV
  | .bool b => .bool b
  | .int k n => .int k n
  | .string s => .str s
  | .pointer a => match a with
    | none => .nilp
    | some _ => .any
  | .slice a n c => match a, n, c with
    | none, 0, 0 => .nilsl
    | _, _, _ => .any
  | .nilFunc => .nilfn
  | .nilIface => .nilif
  | _ => .any
def AV.isAny : AV → Bool
  | .any => true
  | _ => false
def tZero (P : Program) (t : TypeId) : Option (List AV) := match (P.info? t).bind (·.zero) with
  | some v => if (v.cells.toList.map ofV).all (fun x => !x.isAny) = true then some (v.cells.toList.map ofV) else none
  | none => none

def aeval (ρ : Env) : Operand → AV
  | .tmp t => ρ t
  | .const v => ofV v
  | .global _ => .any
  | .func f => .func f [] []

/-- What an operation does to the blocks. -/
inductive AEff where
  | nil
  | new (b : Blk)
  | set (id : Nat) (b : Blk)
  | move (id : Nat) (b : Blk)

def deadBlk : Blk := ⟨0, [], false, false⟩
def AEff.app (H : Heap) : AEff → Heap
  | .nil => H
  | .new b => H ++ [b]
  | .set id b => H.set id b
  | .move id b => H.set id deadBlk ++ [b]
def AEff.wr : AEff → List Nat
  | .set id _ | .move id _ => [id]
  | _ => []

/-- A variable of type t out of the cells from its place on. -/
def aload (P : Program) (t : TypeId) (cs : List AV) : Option AV :=
  match tAgg P t, tSize P t with
  | some true, some n => if n ≤ cs.length then some (.agg (cs.take n)) else none
  | some false, some _ => cs.head?
  | _, _ => none
def aLoad (P : Program) (H : Heap) (t : TypeId) : AV → Option AV
  | .ptr id off => match H[id]? with
    | some b => if b.live = true then aload P t (b.cells.drop off) else none
    | none => none
  | .sptr cs => aload P t cs
  | _ => none
def putAt (l : List AV) (off : Nat) (cs : List AV) : List AV := l.take off ++ cs ++ l.drop (off + cs.length)
def aStore (P : Program) (H : Heap) (t : TypeId) : AV → AV → Option AEff
  | .ptr id off, v => match H[id]?, v.cells?, tSize P t with
    | some b, some cs, some n => if b.live = true ∧ b.ro = false ∧ cs.length = n ∧ off + n ≤ b.cells.length then some (.set id { b with cells := putAt b.cells off cs }) else none
    | _, _, _ => none
  | _, _ => none
def aFieldAddr (P : Program) (s f : Nat) : AV → Option AV
  | .ptr id off => match tField P s f with
    | some (o, t) => match tSize P t with
      | some (_ + 1) => some (.ptr id (off + o))
      | _ => none
    | none => none
  | .sptr cs => match tField P s f with
    | some (o, t) => match tSize P t with
      | some (_ + 1) => some (.sptr (cs.drop o))
      | _ => none
    | none => none
  | _ => none
def aField (P : Program) (s f : Nat) : AV → Option AV
  | .agg cs => match tField P s f with
    | some (o, t) => aload P t (cs.drop o)
    | none => none
  | _ => none
def aIndexAddr (P : Program) (t : TypeId) : AV → AV → Option AV
  | .slice id off len cap, .int _ i => match (tElem P t).bind (tSize P) with
    | some n => if 0 ≤ i ∧ i < len then some (.ptr id (off + i.toNat * n)) else none
    | none => none
  | .sl len cap cs, .int _ i => match (tElem P t).bind (tSize P) with
    | some n => if 0 ≤ i ∧ i < len then some (.sptr (cs.drop (i.toNat * n))) else none
    | none => none
  | .nnsl len cap cs, .int _ i => match (tElem P t).bind (tSize P) with
    | some n => if 0 ≤ i ∧ i < len then some (.sptr (cs.drop (i.toNat * n))) else none
    | none => none
  | _, _ => none
/-- The byte at a place. -/
def bat (s : ByteArray) (i : Nat) : Int := ((s.data.toList.getD i 0).toNat : Int)
def aIndex (P : Program) (t : TypeId) : AV → AV → Option AV
  | .str s, .int _ i => if tStr P t = true then (if 0 ≤ i ∧ i < (s.size : Int) then some (.int .u8 (bat s i.toNat)) else none) else none
  | _, _ => none
def aBound (y : Nat) : Option AV → Nat → Option Nat
  | none, d => some d
  | some (.int _ i), _ => if 0 ≤ i ∧ i ≤ (y : Int) then some i.toNat else none
  | some _, _ => none
def aSlice (P : Program) (t : TypeId) (x : AV) (lo hi mx : Option AV) : Option AV :=
  match x with
  | .str s => if tStr P t = true ∧ mx.isNone then
      match aBound s.size hi s.size with
      | some h => match aBound h lo 0 with
        | some l => some (.str (s.extract l h))
        | none => none
      | none => none
    else none
  | .slice id off len cap => match (tElem P t).bind (tSize P) with
    | some n => if n = 0 then none else match aBound (max len cap) mx (max len cap) with
      | some m => if mx.isSome ∧ hi.isNone then none else match aBound m hi len with
        | some h => match aBound h lo 0 with
          | some l => some (.slice id (off + l * n) (h - l) (m - l))
          | none => none
        | none => none
      | none => none
    | none => none
  | .sl len cap cs => match (tElem P t).bind (tSize P) with
    | some n => if mx.isSome then none else match aBound len hi len with
        | some h => match aBound h lo 0 with
          | some l => some (.sl (h - l) (h - l) ((cs.drop (l * n)).take ((h - l) * n)))
          | none => none
        | none => none
    | none => none
  | .esl | .nilsl => match (tElem P t).bind (tSize P) with
    | some _ => if mx.isSome then none else match aBound 0 hi 0 with
        | some h => match aBound h lo 0 with
          | some _ => some .esl
          | none => none
        | none => none
    | none => none
  | _ => none

def bitop (op : BinOp) (k : IntKind) (a b : Int) : Int :=
  match op with
  | .and => k.wrap (BitVec.ofInt k.bits a &&& BitVec.ofInt k.bits b).toNat
  | .or => k.wrap (BitVec.ofInt k.bits a ||| BitVec.ofInt k.bits b).toNat
  | .xor => k.wrap (BitVec.ofInt k.bits a ^^^ BitVec.ofInt k.bits b).toNat
  | _ => k.wrap (BitVec.ofInt k.bits a &&& ~~~ BitVec.ofInt k.bits b).toNat

def aInt (op : BinOp) (k : IntKind) (a b : Int) : Option AV :=
  match op with
  | .add => some (.int k (k.wrap (a + b)))
  | .sub => some (.int k (k.wrap (a - b)))
  | .mul => some (.int k (k.wrap (a * b)))
  | .quo => if b = 0 then none else some (.int k (k.wrap (a.tdiv b)))
  | .rem => if b = 0 then none else some (.int k (a.tmod b))
  | .and | .or | .xor | .andNot => some (.int k (bitop op k a b))
  | .eql => some (.bool (decide (a = b)))
  | .neq => some (.bool (!decide (a = b)))
  | .lss => some (.bool (decide (a < b)))
  | .leq => some (.bool (decide (a ≤ b)))
  | .gtr => some (.bool (decide (a > b)))
  | .geq => some (.bool (decide (a ≥ b)))
  | _ => none

def eqFs (P : Program) (eqv : TypeId → AV → AV → Option Bool) (xs ys : List AV) : List Field → Option Bool
  | [] => some true
  | f :: fs =>
    if f.name ≠ "_" then
      match aload P f.type (xs.drop f.offset), aload P f.type (ys.drop f.offset) with
      | some a, some b => match eqv f.type a b with
        | some true => eqFs P eqv xs ys fs
        | some false => some false
        | none => none
      | _, _ => none
    else eqFs P eqv xs ys fs
/-- Equality of two values of a type, where that is told by their cells. -/
def eqV (P : Program) : Nat → TypeId → AV → AV → Option Bool
  | 0, _, _, _ => none
  | d + 1, t, x, y => match x with
    | .int k a => match y with
      | .int k' b => if (tInt P t).isSome = true ∧ k = k' then some (decide (a = b)) else none
      | _ => none
    | .bool a => match y with
      | .bool b => if tBoo P t = true then some (a == b) else none
      | _ => none
    | .str a => match y with
      | .str b => if tStr P t = true then some (decide (a = b)) else none
      | _ => none
    | .agg xs => match y with
      | .agg ys => match P.underlying t with
        | some (.struct fs) => if P.stoodInHeld t = false then eqFs P (eqV P d) xs ys fs.toList else none
        | _ => none
      | _ => none
    | _ => none

/-- '==': of what is compared by its cells, of a slice against nil, of an error against nil. -/
def aEq (P : Program) (t : TypeId) : AV → AV → Option Bool
  | .bool a, .bool b => if tBoo P t = true then some (a == b) else none
  | .agg xs, .agg ys => if P.eqGuardType P.depth t = false then eqV P Op.maxDepth t (.agg xs) (.agg ys) else none
  | .nilsl, .nilsl => if tSli P t = true then some true else none
  | .nnsl _ _ _, .nilsl => if tSli P t = true then some false else none
  | .nilif, .nilif => if tIfc P t = true then some true else none
  | .someif, .nilif => if tIfc P t = true then some false else none
  | _, _ => none

def aBin (P : Program) (op : BinOp) (t : TypeId) (x y : AV) : Option AV :=
  match x, y with
  | .int k a, .int k' b => match op with
    | .shl => if b < 0 then none else some (.int k (k.wrap (a * 2 ^ (min b.toNat k.bits))))
    | .shr => if b < 0 then none else some (.int k (a.fdiv (2 ^ (min b.toNat k.bits))))
    | _ => if k = k' then aInt op k a b else none
  | .str a, .str b => match op with
    | .add => if ((a.size + b.size : Nat) : Int) ≤ 9223372036854775807 then some (.str (a ++ b)) else none
    | .eql => some (.bool (decide (a = b)))
    | .neq => some (.bool (!decide (a = b)))
    | _ => none
  | x, y => match op with
    | .eql => (aEq P t x y).map .bool
    | .neq => (aEq P t x y).map fun b => .bool (!b)
    | _ => none

def aUn (op : UnOp) : AV → Option AV
  | .bool b => match op with | .not => some (.bool (!b)) | _ => none
  | .int k n => match op with | .neg => some (.int k (k.wrap (0 - n))) | _ => none
  | _ => none

def byteCells (s : ByteArray) : List AV := s.data.toList.map fun b => .int .u8 b.toNat
def cellByte? : AV → Option UInt8
  | .int .u8 n => some (UInt8.ofNat n.toNat)
  | _ => none
def bytesOf? (cs : List AV) : Option (List UInt8) := cs.mapM cellByte?

/-- The cells that a slice (or nothing) has. -/
def aCells (H : Heap) (sz : Nat) : AV → Option (Nat × List AV)
  | .esl | .nilsl => some (0, [])
  | .sl n _ cs | .nnsl n _ cs => if n * sz ≤ cs.length then some (n, cs.take (n * sz)) else none
  | .slice id off n _ => match H[id]? with
    | some b => if b.live = true ∧ off + n * sz ≤ b.cells.length then some (n, (b.cells.drop off).take (n * sz)) else none
    | none => none
  | _ => none

def aAppend (P : Program) (H : Heap) (t t' : TypeId) (s x : AV) : Option (AV × AEff) :=
  match tElem P t with
  | none => none
  | some e => match tSize P e, tBytes P e, tZero P e with
    | some sz, some by_, some z => if t ≠ t' ∨ sz = 0 ∨ z.length ≠ sz then none else match aCells H sz x with
      | none => none
      | some (n, cs) => match s with
        | .esl | .nilsl => if n * by_ ≤ 140737488355328 ∧ n ≤ 9223372036854775807 then some (.slice H.length 0 n 0, .new ⟨sz, cs, true, false⟩) else none
        | .slice id off len cap => match H[id]? with
          | none => none
          | some b => if b.live = true ∧ b.ro = false ∧ b.sz = sz ∧ off = 0 ∧ len * sz ≤ b.cells.length ∧ (len + n) * by_ ≤ 140737488355328 ∧ len + n ≤ 9223372036854775807 then
              if 0 < cap ∧ len + n ≤ cap ∧ (len + n) * sz ≤ b.cells.length then some (.slice id 0 (len + n) cap, .set id { b with cells := putAt b.cells (len * sz) cs })
              else some (.slice H.length 0 (len + n) 0, .move id ⟨sz, b.cells.take (len * sz) ++ cs, true, false⟩)
            else none
        | _ => none
    | _, _, _ => none

def aCopy (P : Program) (H : Heap) (t t' : TypeId) (d x : AV) : Option (AV × AEff) :=
  match tElem P t with
  | none => none
  | some e => match tSize P e with
    | some sz => if t ≠ t' then none else match aCells H sz x with
      | none => none
      | some (n, cs) => match d with
        | .slice id off len cap => match H[id]? with
          | none => none
          | some b => if b.live = true ∧ b.ro = false ∧ off + len * sz ≤ b.cells.length then
              some (.int .i64 (Nat.min n len : Nat), .set id { b with cells := putAt b.cells off (cs.take (Nat.min n len * sz)) })
            else none
        | _ => none
    | none => none

def aClear (P : Program) (H : Heap) (t : TypeId) (d : AV) : Option AEff :=
  match tElem P t with
  | none => none
  | some e => match tSize P e, tZero P e with
    | some sz, some z => if z.length ≠ sz then none else match d with
        | .slice id off len _ => match H[id]? with
          | none => none
          | some b => if b.live = true ∧ b.ro = false ∧ off + len * sz ≤ b.cells.length then
              some (.set id { b with cells := putAt b.cells off (List.replicate len z).flatten })
            else none
        | _ => none
    | _, _ => none

def aLen (P : Program) (t : TypeId) : AV → Option AV
  | .str s => if tStr P t = true then some (.int .i64 s.size) else none
  | .esl | .nilsl => if tSli P t = true then some (.int .i64 0) else none
  | .slice _ _ n _ | .sl n _ _ | .nnsl n _ _ => if tSli P t = true then some (.int .i64 n) else none
  | _ => none

/-- Of an empty slice alone. -/
def aCap (P : Program) (t : TypeId) : AV → Option AV
  | .esl | .nilsl => if tSli P t = true then some (.int .i64 0) else none
  | _ => none

def aMake (P : Program) (H : Heap) (t : TypeId) (l c : AV) : Option (AV × AEff) :=
  match tElem P t with
  | none => none
  | some e => match tSize P e, tBytes P e, tZero P e with
    | some sz, some by_, some z => match l, c with
      | .int _ l, .int _ c => if z.length = sz ∧ 0 < sz ∧ 0 ≤ l ∧ l ≤ c ∧ c ≤ 9223372036854775807 ∧ by_ * c ≤ 281474976710656 then
          some (.slice H.length 0 l.toNat c.toNat, .new ⟨sz, (List.replicate c.toNat z).flatten, true, false⟩) else none
      | _, _ => none
    | _, _, _ => none

/-- Parts laid into the zero value's cells. -/
def aFill (P : Program) (t : TypeId) (cs : List AV) : List (Nat × AV) → Option (List AV)
  | [] => some cs
  | (i, v) :: rest => match tField P t i, v.cells? with
    | some (o, ft), some vs => if tSize P ft = some vs.length ∧ o + vs.length ≤ cs.length then aFill P t (putAt cs o vs) rest else none
    | _, _ => none
/-- The parts of a slice literal that names all of them in order. -/
def aRow (sz : Nat) : Nat → List (Nat × AV) → Option (List AV)
  | _, [] => some []
  | k, (i, v) :: rest => match v.cells? with
    | some vs => if i = k ∧ vs.length = sz then (aRow sz (k + 1) rest).map (vs ++ ·) else none
    | none => none

def isC : Operand → Bool
  | .const _ => true
  | _ => false
def gOk (x y : Operand) : AV → AV → Bool
  | .nilif, .nilif => isC x || isC y
  | _, _ => true

def aBuiltin (P : Program) (H : Heap) (b : Builtin) (xs : List AV) (ts : List TypeId) : Option (AV × AEff) :=
  match b with
  | .len => match xs, ts with
    | [x], [t] => (aLen P t x).map fun v => (v, .nil)
    | _, _ => none
  | .cap => match xs, ts with
    | [x], [t] => (aCap P t x).map fun v => (v, .nil)
    | _, _ => none
  | .append => match xs, ts with
    | [s, x], [t, t'] => aAppend P H t t' s x
    | _, _ => none
  | .copy => match xs, ts with
    | [s, x], [t, t'] => aCopy P H t t' s x
    | _, _ => none
  | .clear => match xs, ts with
    | [x], [t] => (aClear P H t x).map fun e => (.any, e)
    | _, _ => none
  | .min => match xs with
    | [.int k a, .int k' b] => if k = k' then some (.int k (if b < a then b else a), .nil) else none
    | _ => none
  | .max => match xs with
    | [.int k a, .int k' b] => if k = k' then some (.int k (if b > a then b else a), .nil) else none
    | _ => none
  | _ => none

def AV.isSl : AV → Bool
  | .slice _ _ _ _ => true
  | _ => false
/-- A row of bytes converted to its own type: it may be held as a text's bytes from now on. -/
def aSelf (P : Program) (H : Heap) (t : TypeId) : AV → Option (AV × AEff)
  | .slice id off len cap => match (tElem P t).bind (tInt P), H[id]? with
    | some .u8, some b => if b.live = true ∧ 0 < len then some (.slice id off len cap, .set id { b with ro := true }) else none
    | _, _ => none
  | _ => none
/-- An operation but for calls of Go functions. -/
def aop (P : Program) (ρ : Operand → AV) (H : Heap) : Op → Option (AV × AEff)
  | .move x | .assign x => some (ρ x, .nil)
  | .pick c a b => match ρ c with
    | .bool t => some (if t = true then ρ a else ρ b, .nil)
    | _ => none
  | .alloc t => match tZero P t, tSize P t with
    | some z, some n => if z.length = n then some (.ptr H.length 0, .new ⟨n, z, true, false⟩) else none
    | _, _ => none
  | .box t x => match (ρ x).cells? with
    | some cs => some (.ptr H.length 0, .new ⟨cs.length, cs, true, false⟩)
    | none => none
  | .build t ps => match tSct P t, tZero P t with
    | true, some z => match aFill P t z (ps.toList.map fun p => (p.1, ρ p.2)) with
      | some cs => some (.agg cs, .nil)
      | none => none
    | _, _ => none
  | .buildSlice t n ps => match (tElem P t).bind (tSize P), ((tElem P t).bind (tZero P)) with
    | some sz, some z => if n = 0 ∧ ps = #[] then some (.esl, .nil) else if ps.size = n ∧ n * sz ≤ 16777216 ∧ z.length = sz ∧ 0 < sz then
        match aRow sz 0 (ps.toList.map fun p => (p.1, ρ p.2)) with
        | some cs => some (.slice H.length 0 n n, .new ⟨sz, cs, true, false⟩)
        | none => none
      else none
    | _, _ => none
  | .load t a => (aLoad P H t (ρ a)).map fun v => (v, .nil)
  | .store t a x => (aStore P H t (ρ a) (ρ x)).map fun e => (.any, e)
  | .nilCheck x => match ρ x with
    | .ptr id off => some (.ptr id off, .nil)
    | .sptr cs => some (.sptr cs, .nil)
    | _ => none
  | .binOp op t x y _ => if gOk x y (ρ x) (ρ y) = true then (aBin P op t (ρ x) (ρ y)).map fun v => (v, .nil) else none
  | .unOp op _ x => (aUn op (ρ x)).map fun v => (v, .nil)
  | .convert src dst x => if src = dst ∧ (ρ x).isSl = true then aSelf P H dst (ρ x) else match ρ x with
    | .int _ n => match tInt P dst, tIs P src with
      | some k, true => some (.int k (k.wrap n), .nil)
      | _, _ => none
    | .str s => match tStr P src, (tElem P dst).bind (tInt P), (tElem P dst).bind (tSize P) with
      | true, some .u8, some 1 => if s.size ≤ 9223372036854775807 then some (.slice H.length 0 s.size 0, .new ⟨1, byteCells s, true, true⟩) else none
      | _, _, _ => none
    | x => match tStr P dst, (tElem P src).bind (tInt P), aCells H 1 x with
      | true, some .u8, some (_, cs) => match bytesOf? cs with
        | some bs => some (.str ⟨bs.toArray⟩, .nil)
        | none => none
      | _, _, _ => none
  | .makeFunc (.func f) first captured => some (.func f (first.toList.map ρ) (captured.toList.map ρ), .nil)
  | .makeSlice t l c => aMake P H t (ρ l) (ρ c)
  | .slice t x lo hi mx => (aSlice P t (ρ x) (lo.map ρ) (hi.map ρ) (mx.map ρ)).map fun v => (v, .nil)
  | .fieldAddr s x f => (aFieldAddr P s f (ρ x)).map fun v => (v, .nil)
  | .field s x f => (aField P s f (ρ x)).map fun v => (v, .nil)
  | .indexAddr t x i => (aIndexAddr P t (ρ x) (ρ i)).map fun v => (v, .nil)
  | .index t x i => (aIndex P t (ρ x) (ρ i)).map fun v => (v, .nil)
  | .extract x i => match ρ x with
    | .tuple vs => (vs[i]?).map fun v => (v, .nil)
    | _ => none
  | .call c => match c.callee with
    | .builtin b => aBuiltin P H b (c.args.toList.map ρ) c.argTypes.toList
    | _ => none
  | _ => none

end Go.Proofs.Ytgddflnhibhacaa.AM
