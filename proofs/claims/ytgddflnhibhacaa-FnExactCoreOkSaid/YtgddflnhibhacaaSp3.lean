/- Rows of structs in a block; what the program's structs are. No conditions. -/
import Derived.Test.YtgddflnhibhacaaSp2
import Derived.Test.YtgddflnhibhacaaAm24
set_option linter.unusedVariables false
set_option linter.unusedSimpArgs false
namespace Go.Proofs.Ytgddflnhibhacaa.AM
open Go

def AV.flat : AV → Bool
  | .bool _ | .int _ _ | .str _ => true
  | _ => false
/-- How a value lies in a block: so many cells, all of them plain. -/
class Enc (α : Type) where
  cells : α → List AV
  sz : Nat
  dflt : α
  pos : 0 < sz
  len : ∀ a, (cells a).length = sz
  flat : ∀ a x, x ∈ cells a → x.flat = true
def rows {α : Type} [Enc α] (xs : List α) : List AV := (xs.map Enc.cells).flatten

section
variable {α : Type} [Enc α] {xs ys : List α} {x : α} {i n : Nat}
theorem rows_nil : rows ([] : List α) = [] := rfl
theorem rows_cons : rows (x :: xs) = Enc.cells x ++ rows xs := rfl
theorem rows_append : rows (xs ++ ys) = rows xs ++ rows ys := by simp [rows]
theorem rows_one : rows [x] = Enc.cells x := by simp [rows]
theorem rows_len : (rows xs).length = xs.length * Enc.sz α := by
  induction xs with
  | nil => simp [rows]
  | cons x xs ih => rw [rows_cons, List.length_append, ih, Enc.len, List.length_cons, Nat.add_mul, Nat.one_mul, Nat.add_comm]
theorem rows_drop : (rows xs).drop (i * Enc.sz α) = rows (xs.drop i) := by
  induction i generalizing xs with
  | zero => simp
  | succ i ih =>
    cases xs with
    | nil => simp [rows]
    | cons x xs =>
      rw [rows_cons, Nat.add_mul, Nat.one_mul, Nat.add_comm, ← List.drop_drop, List.drop_left' (Enc.len x), ih]
      rfl
theorem rows_take : (rows xs).take (i * Enc.sz α) = rows (xs.take i) := by
  induction i generalizing xs with
  | zero => simp [rows]
  | succ i ih =>
    cases xs with
    | nil => simp [rows]
    | cons x xs =>
      rw [rows_cons, Nat.add_mul, Nat.one_mul, Nat.add_comm (i * _), List.take_add, List.take_left' (Enc.len x), List.drop_left' (Enc.len x), ih]
      rfl
theorem rows_takeAll : (rows xs).take (xs.length * Enc.sz α) = rows xs := by rw [rows_take, List.take_length]
theorem rows_at (h : i < xs.length) : (rows xs).drop (i * Enc.sz α) = Enc.cells (xs.getD i (Enc.dflt)) ++ rows (xs.drop (i + 1)) := by
  rw [rows_drop, List.drop_eq_getElem_cons h, rows_cons]
  simp [h]
theorem putAt_app {A B cs : List AV} {m o : Nat} (h : A.length = m) : putAt (A ++ B) (m + o) cs = A ++ putAt B o cs := by
  unfold putAt
  subst h
  rw [List.take_append, List.take_of_length_le (by omega), Nat.add_sub_cancel_left, Nat.add_assoc, List.drop_append, List.drop_of_length_le (by omega : A.length ≤ A.length + (o + cs.length)), Nat.add_sub_cancel_left]
  simp
theorem putAt_app0 {A B cs : List AV} {m : Nat} (h : A.length = m) : putAt (A ++ B) m cs = A ++ putAt B 0 cs := putAt_app (o := 0) h
theorem putAt_self {A B cs : List AV} (h : A.length = cs.length) : putAt (A ++ B) 0 cs = cs ++ B := by
  unfold putAt
  simp [← h]
theorem rows_put (h : i < xs.length) : putAt (rows xs) (i * Enc.sz α) (Enc.cells x) = rows (xs.set i x) := by
  have h1 : rows xs = rows (xs.take i) ++ (Enc.cells xs[i] ++ rows (xs.drop (i + 1))) := by
    rw [← rows_cons, ← List.drop_eq_getElem_cons h, ← rows_append, List.take_append_drop]
  have h2 : (rows (xs.take i)).length = i * Enc.sz α := by rw [rows_len, List.length_take, Nat.min_eq_left (by omega)]
  conv => lhs; rw [h1]
  rw [putAt_app0 h2, putAt_self (by rw [Enc.len, Enc.len]), List.set_eq_take_append_cons_drop, if_pos h, rows_append, rows_cons]
theorem rows_rep {z : List AV} (hz : z = Enc.cells x) : (List.replicate n z).flatten = rows (List.replicate n x) := by
  subst hz
  rw [rows, List.map_replicate]
theorem flat_bor {Hb : Heap} {inv : Nat → Option Nat} {c : AV} (h : c.flat = true) : bor Hb inv (n + 1) c = c := by
  cases c <;> first | rfl | cases h
theorem flat_sh {mm : Nat → Nat} {c : AV} (h : c.flat = true) : sh mm c = c := by
  cases c <;> first | rfl | cases h
theorem flat_noS {c : AV} (h : c.flat = true) : noS c = true := by
  cases c <;> first | rfl | cases h
theorem rows_flat : ∀ c, c ∈ rows xs → c.flat = true := by
  intro c hc
  simp only [rows, List.mem_flatten, List.mem_map] at hc
  obtain ⟨l, ⟨a, _, rfl⟩, hc⟩ := hc
  exact Enc.flat a c hc
theorem map_flat {f : AV → AV} {l : List AV} (hf : ∀ c, c.flat = true → f c = c) (h : ∀ c, c ∈ l → c.flat = true) : l.map f = l := by
  induction l with
  | nil => rfl
  | cons c l ih => rw [List.map_cons, hf c (h c (by simp)), ih fun d hd => h d (by simp [hd])]
theorem shL_map {mm : Nat → Nat} {l : List AV} : shL mm l = l.map (sh mm) := by
  induction l with
  | nil => rfl
  | cons c l ih => rw [List.map_cons, ← ih]; rfl
theorem noSL_all {l : List AV} : noSL l = l.all noS := by
  induction l with
  | nil => rfl
  | cons c l ih => rw [List.all_cons, ← ih]; rfl
theorem bor_rows {Hb : Heap} {inv : Nat → Option Nat} : (rows xs).map (bor Hb inv (n + 1)) = rows xs := map_flat (fun _ h => flat_bor h) rows_flat
theorem sh_rows {mm : Nat → Nat} : shL mm (rows xs) = rows xs := by rw [shL_map]; exact map_flat (fun _ h => flat_sh h) rows_flat
theorem noS_rows : noSL (rows xs) = true := by
  rw [noSL_all, List.all_eq_true]
  exact fun c hc => flat_noS (rows_flat c hc)
theorem shL_app {mm : Nat → Nat} {a b : List AV} : shL mm (a ++ b) = shL mm a ++ shL mm b := by simp [shL_map]
theorem noSL_app {a b : List AV} : noSL (a ++ b) = (noSL a && noSL b) := by simp [noSL_all]
end

/-! ### the program's structs -/
structure Ins where
  op : Int
  r : Int
  a : Int
  b : Int
  n : Int
  deriving DecidableEq
structure Fx where
  trap : Int
  r : Int
  val : Word
  next : Word
  adr : Int
  put : Word
  drop : Int
  deriving DecidableEq
structure Ent where
  pc : Word
  x : Ins
  done : Bool
  e : Fx
  guess : Word
  deriving DecidableEq
structure Mem where
  words : List Word
  gone : List Bool
  deriving DecidableEq
structure Stt where
  regs : List Word
  pc : Word
  mem : Mem
  trap : Int
  deriving DecidableEq
structure Cor where
  s : Stt
  rob : List Ent
  next : Word
  stop : Bool
  guesses : List Int
  deriving DecidableEq
structure Pik where
  kind : Int
  n : Int
  deriving DecidableEq
def noWord : Word := ⟨0, false, noKey⟩
def noIns : Ins := ⟨0, 0, 0, 0, 0⟩
def noFx : Fx := ⟨0, 0, noWord, noWord, 0, noWord, 0⟩
def noEnt : Ent := ⟨noWord, noIns, false, noFx, noWord⟩
def noMem : Mem := ⟨[], []⟩
def noStt : Stt := ⟨[], noWord, noMem, 0⟩
def noCor : Cor := ⟨noStt, [], noWord, false, []⟩
def noPik : Pik := ⟨0, 0⟩
def Ins.cells (x : Ins) : List AV := [.int .i64 x.op, .int .i64 x.r, .int .i64 x.a, .int .i64 x.b, .int .i64 x.n]
def Fx.cells (e : Fx) : List AV := .int .i64 e.trap :: .int .i64 e.r :: (e.val.cells ++ (e.next.cells ++ .int .i64 e.adr :: (e.put.cells ++ [.int .i64 e.drop])))
def Ent.cells (x : Ent) : List AV := x.pc.cells ++ (x.x.cells ++ .bool x.done :: (x.e.cells ++ x.guess.cells))
def Pik.cells (x : Pik) : List AV := [.int .i64 x.kind, .int .i64 x.n]
instance : Enc Word where
  cells := Word.cells
  sz := 6
  dflt := noWord
  pos := by decide
  len _ := rfl
  flat a x h := by simp [Word.cells] at h; rcases h with rfl | rfl | rfl | rfl | rfl | rfl <;> rfl
instance : Enc Ins where
  cells := Ins.cells
  sz := 5
  dflt := noIns
  pos := by decide
  len _ := rfl
  flat a x h := by simp [Ins.cells] at h; rcases h with rfl | rfl | rfl | rfl | rfl <;> rfl
instance : Enc Pik where
  cells := Pik.cells
  sz := 2
  dflt := noPik
  pos := by decide
  len _ := rfl
  flat a x h := by simp [Pik.cells] at h; rcases h with rfl | rfl <;> rfl
instance : Enc Ent where
  cells := Ent.cells
  sz := 40
  dflt := noEnt
  pos := by decide
  len _ := rfl
  flat a x h := by
    have : ((Ent.cells a).all AV.flat) = true := rfl
    exact List.all_eq_true.1 this x h
instance : Enc Bool where
  cells b := [.bool b]
  sz := 1
  dflt := false
  pos := by decide
  len _ := rfl
  flat a x h := by simp at h; subst h; rfl
abbrev bools (xs : List Bool) : List AV := rows xs
/-- What is only read. -/
def Mem.cells (m : Mem) : List AV := [.sl m.words.length m.words.length (rows m.words), .sl m.gone.length m.gone.length (rows m.gone)]
def Stt.cells (s : Stt) : List AV := .sl s.regs.length s.regs.length (rows s.regs) :: (s.pc.cells ++ (s.mem.cells ++ [.int .i64 s.trap]))
def Cor.cells (c : Cor) : List AV := c.s.cells ++ .sl c.rob.length c.rob.length (rows c.rob) :: (c.next.cells ++ [.bool c.stop, .sl c.guesses.length c.guesses.length (ints c.guesses)])
/-- What is one's own. -/
def Mem.own (a b : Nat) (m : Mem) : List AV := [.slice a 0 m.words.length 0, .slice b 0 m.gone.length 0]
def Mem.blks (m : Mem) : Heap := [⟨6, rows m.words, true, false⟩, ⟨1, rows m.gone, true, false⟩]
def Stt.own (a b c : Nat) (s : Stt) : List AV := .slice a 0 s.regs.length 0 :: (s.pc.cells ++ (s.mem.own b c ++ [.int .i64 s.trap]))
def Stt.blks (s : Stt) : Heap := ⟨6, rows s.regs, true, false⟩ :: s.mem.blks
def Cor.own (a b c d e : Nat) (x : Cor) : List AV := x.s.own a b c ++ .slice d 0 x.rob.length 0 :: (x.next.cells ++ [.bool x.stop, .slice e 0 x.guesses.length 0])
def Cor.blks (x : Cor) : Heap := x.s.blks ++ [⟨40, rows x.rob, true, false⟩, ⟨1, ints x.guesses, true, false⟩]

section
variable {α : Type} [Enc α] {xs ys : List α} {x : α} {i n : Nat}
theorem words_at {xs : List Word} (h : i < xs.length) : (rows xs).drop (i * 6) = Word.cells (xs.getD i noWord) ++ rows (xs.drop (i + 1)) := rows_at h
theorem inss_at {xs : List Ins} (h : i < xs.length) : (rows xs).drop (i * 5) = Ins.cells (xs.getD i noIns) ++ rows (xs.drop (i + 1)) := rows_at h
theorem ents_at {xs : List Ent} (h : i < xs.length) : (rows xs).drop (i * 40) = Ent.cells (xs.getD i noEnt) ++ rows (xs.drop (i + 1)) := rows_at h
theorem piks_at {xs : List Pik} (h : i < xs.length) : (rows xs).drop (i * 2) = Pik.cells (xs.getD i noPik) ++ rows (xs.drop (i + 1)) := rows_at h
theorem bools_at {xs : List Bool} (h : i < xs.length) : (rows xs).drop i = .bool (xs.getD i false) :: rows (xs.drop (i + 1)) := by
  have := rows_at (xs := xs) h
  rwa [show i * Enc.sz Bool = i by show i * 1 = i; omega] at this
theorem words_len {xs : List Word} : (rows xs).length = xs.length * 6 := rows_len
theorem inss_len {xs : List Ins} : (rows xs).length = xs.length * 5 := rows_len
theorem ents_len {xs : List Ent} : (rows xs).length = xs.length * 40 := rows_len
theorem piks_len {xs : List Pik} : (rows xs).length = xs.length * 2 := rows_len
theorem bools_len {xs : List Bool} : (rows xs).length = xs.length := (rows_len (xs := xs)).trans (Nat.mul_one _)
theorem words_take {xs : List Word} : (rows xs).take (xs.length * 6) = rows xs := rows_takeAll
theorem inss_take {xs : List Ins} : (rows xs).take (xs.length * 5) = rows xs := rows_takeAll
theorem ents_take {xs : List Ent} : (rows xs).take (xs.length * 40) = rows xs := rows_takeAll
theorem piks_take {xs : List Pik} : (rows xs).take (xs.length * 2) = rows xs := rows_takeAll
theorem bools_take {xs : List Bool} : (rows xs).take xs.length = rows xs := by
  have := rows_takeAll (xs := xs)
  rwa [show xs.length * Enc.sz Bool = xs.length by show xs.length * 1 = _; omega] at this
theorem words_put {xs : List Word} {x : Word} (h : i < xs.length) : putAt (rows xs) (i * 6) [.int .i64 x.n, .bool x.is, .int .i64 x.key.base, .int .i64 x.key.top, .int .i64 x.key.perms, .int .i64 x.key.lock] = rows (xs.set i x) := rows_put h
theorem bools_put {xs : List Bool} {x : Bool} (h : i < xs.length) : putAt (rows xs) i [.bool x] = rows (xs.set i x) := by
  have := rows_put (x := x) h
  rwa [show i * Enc.sz Bool = i by show i * 1 = i; omega] at this
theorem words_zero : (List.replicate n [AV.int .i64 0, .bool false, .int .i64 0, .int .i64 0, .int .i64 0, .int .i64 0]).flatten = rows (List.replicate n noWord) := rows_rep rfl
theorem inss_zero : (List.replicate n [AV.int .i64 0, .int .i64 0, .int .i64 0, .int .i64 0, .int .i64 0]).flatten = rows (List.replicate n noIns) := rows_rep rfl
theorem piks_zero : (List.replicate n [AV.int .i64 0, .int .i64 0]).flatten = rows (List.replicate n noPik) := rows_rep rfl
theorem bools_zero : (List.replicate n [AV.bool false]).flatten = rows (List.replicate n false) := rows_rep rfl
theorem ents_zero : (List.replicate n (Ent.cells noEnt)).flatten = rows (List.replicate n noEnt) := rows_rep rfl
theorem enc_word {w : Word} : Enc.cells w = Word.cells w := rfl
theorem enc_ins {w : Ins} : Enc.cells w = Ins.cells w := rfl
theorem enc_ent {w : Ent} : Enc.cells w = Ent.cells w := rfl
theorem enc_pik {w : Pik} : Enc.cells w = Pik.cells w := rfl
theorem enc_bool {b : Bool} : Enc.cells b = [.bool b] := rfl
end
theorem nw1 : noWord.n = 0 := rfl
theorem nw2 : noWord.is = false := rfl
theorem nw3 : noWord.key = noKey := rfl
theorem nk1 : noKey.base = 0 := rfl
theorem nk2 : noKey.top = 0 := rfl
theorem nk3 : noKey.perms = 0 := rfl
theorem nk4 : noKey.lock = 0 := rfl
theorem ni1 : noIns.op = 0 := rfl
theorem ni2 : noIns.r = 0 := rfl
theorem ni3 : noIns.a = 0 := rfl
theorem ni4 : noIns.b = 0 := rfl
theorem ni5 : noIns.n = 0 := rfl
theorem nx1 : noFx.trap = 0 := rfl
theorem nx2 : noFx.r = 0 := rfl
theorem nx3 : noFx.val = noWord := rfl
theorem nx4 : noFx.next = noWord := rfl
theorem nx5 : noFx.adr = 0 := rfl
theorem nx6 : noFx.put = noWord := rfl
theorem nx7 : noFx.drop = 0 := rfl
theorem ne1 : noEnt.pc = noWord := rfl
theorem ne2 : noEnt.x = noIns := rfl
theorem ne3 : noEnt.done = false := rfl
theorem ne4 : noEnt.e = noFx := rfl
theorem ne5 : noEnt.guess = noWord := rfl
theorem np1 : noPik.kind = 0 := rfl
theorem np2 : noPik.n = 0 := rfl
def Mem.sm (m : Mem) : Prop := m.words.length ≤ 9223372036854775807 ∧ m.gone.length ≤ 9223372036854775807
def Stt.sm (s : Stt) : Prop := s.regs.length ≤ 9223372036854775807 ∧ s.mem.sm
def Cor.sm (c : Cor) : Prop := c.s.sm ∧ c.rob.length ≤ 9223372036854775807 ∧ c.guesses.length ≤ 9223372036854775807
def szL (left : Int) (n : Nat) : Int := if left - n < 0 then -1 else left - n
def szM (left : Int) (m : Mem) : Int := if szL left m.words.length < 0 then -1 else if szL (szL left m.words.length) m.gone.length < 0 then -1 else szL (szL left m.words.length) m.gone.length
def szS (left : Int) (s : Stt) : Int := if szL left s.regs.length < 0 then -1 else if szM (szL left s.regs.length) s.mem < 0 then -1 else szM (szL left s.regs.length) s.mem
def szC (left : Int) (c : Cor) : Int := if szS left c.s < 0 then -1 else if szL (szS left c.s) c.rob.length < 0 then -1 else if szL (szL (szS left c.s) c.rob.length) c.guesses.length < 0 then -1 else szL (szL (szS left c.s) c.rob.length) c.guesses.length
def leftOk (l : Int) : Prop := 0 ≤ l ∧ l ≤ 1048576
def Mem.fit (m : Mem) : Prop := m.words.length ≤ 1048576 ∧ m.gone.length ≤ 1048576
def Stt.fit (s : Stt) : Prop := s.regs.length ≤ 1048576 ∧ s.mem.fit
def Cor.fit (c : Cor) : Prop := c.s.fit ∧ c.rob.length ≤ 1048576 ∧ c.guesses.length ≤ 1048576
theorem szL_ok {l : Int} {n : Nat} (hl : leftOk l) (h : ¬ szL l n < 0) : n ≤ 1048576 ∧ leftOk (szL l n) := by
  unfold szL leftOk at *
  split at h <;> simp_all <;> omega
theorem szM_ok {l : Int} {m : Mem} (hl : leftOk l) (h : ¬ szM l m < 0) : m.fit ∧ leftOk (szM l m) := by
  unfold szM at *
  split at h
  · simp at h
  · rename_i h1
    split at h
    · simp at h
    · rename_i h2
      have a := szL_ok hl h1
      have b := szL_ok a.2 h2
      rw [if_neg h1, if_neg h2]
      exact ⟨⟨a.1, b.1⟩, b.2⟩
theorem szS_ok {l : Int} {s : Stt} (hl : leftOk l) (h : ¬ szS l s < 0) : s.fit ∧ leftOk (szS l s) := by
  unfold szS at *
  split at h
  · simp at h
  · rename_i h1
    split at h
    · simp at h
    · rename_i h2
      have a := szL_ok hl h1
      have b := szM_ok a.2 h2
      rw [if_neg h1, if_neg h2]
      exact ⟨⟨a.1, b.1⟩, b.2⟩
theorem szC_ok {l : Int} {c : Cor} (hl : leftOk l) (h : ¬ szC l c < 0) : c.fit ∧ leftOk (szC l c) := by
  unfold szC at *
  split at h
  · simp at h
  · rename_i h1
    split at h
    · simp at h
    · rename_i h2
      split at h
      · simp at h
      · rename_i h3
        have a := szS_ok hl h1
        have b := szL_ok a.2 h2
        have d := szL_ok b.2 h3
        rw [if_neg h1, if_neg h2, if_neg h3]
        exact ⟨⟨a.1, b.1, d.1⟩, d.2⟩
theorem ins_zero {x : Ins} : (decide (x = noIns)) = (decide (x.op = 0) && (decide (x.r = 0) && (decide (x.a = 0) && (decide (x.b = 0) && decide (x.n = 0))))) := by
  rw [Bool.eq_iff_iff]
  cases x
  simp [noIns]
attribute [go_sem] words_at inss_at ents_at piks_at bools_at words_len inss_len ents_len piks_len bools_len words_take inss_take ents_take piks_take bools_take words_zero inss_zero piks_zero bools_zero
  bor_rows sh_rows noS_rows shL_app noSL_app enc_word enc_ins enc_ent enc_pik enc_bool rows_nil rows_cons Ins.cells Fx.cells Ent.cells Pik.cells Mem.cells Stt.cells Cor.cells Mem.own Mem.blks Stt.own Stt.blks Cor.own Cor.blks
  nw1 nw2 nw3 nk1 nk2 nk3 nk4 ni1 ni2 ni3 ni4 ni5 nx1 nx2 nx3 nx4 nx5 nx6 nx7 ne1 ne2 ne3 ne4 ne5 np1 np2
  List.map_append List.append_assoc
end Go.Proofs.Ytgddflnhibhacaa.AM
