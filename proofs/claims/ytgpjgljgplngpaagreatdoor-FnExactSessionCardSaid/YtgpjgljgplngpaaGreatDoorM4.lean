/- What the program's functions come to, said plainly; how a law's arguments are read. No conditions. -/
import Derived.Test.YtgpjgljgplngpaaGreatDoorM3
import Derived.IntWalk
import Derived.ProofKit
import Derived.OpenShut
import Derived.WalkKit
set_option linter.unusedVariables false
set_option linter.unusedSimpArgs false
namespace Go.Proofs.YtgpjgljgplngpaaGreatDoor.AM
open Go
theorem wrap64 {x : Int} (h : -9223372036854775808 ≤ x ∧ x ≤ 9223372036854775807) : IntKind.i64.wrap x = x := IntWalk.i64_in x h
def inR (a b c : Int) : Bool := decide (b ≤ a) && decide (a ≤ c)
theorem inR_iff {a b c : Int} : inR a b c = true ↔ b ≤ a ∧ a ≤ c := by simp [inR]
def traps : List ByteArray := [⟨#[110, 111, 110, 101]⟩, ⟨#[107, 101, 121]⟩, ⟨#[115, 101, 97, 108]⟩, ⟨#[112, 101, 114, 109]⟩, ⟨#[98, 111, 117, 110, 100]⟩, ⟨#[115, 116, 111, 112]⟩]
def trapText (a : Int) : ByteArray := if inR a 0 5 = true then traps.getD a.toNat ⟨#[]⟩ else ⟨#[]⟩
theorem trap_row {a : Int} (h : 0 ≤ a ∧ a < 6) : (List.drop a.toNat [AV.str ⟨#[110, 111, 110, 101]⟩, .str ⟨#[107, 101, 121]⟩, .str ⟨#[115, 101, 97, 108]⟩, .str ⟨#[112, 101, 114, 109]⟩, .str ⟨#[98, 111, 117, 110, 100]⟩, .str ⟨#[115, 116, 111, 112]⟩]).head? = some (.str (traps.getD a.toNat ⟨#[]⟩)) := by
 obtain ⟨n, rfl⟩ := Int.eq_ofNat_of_zero_le h.1
 have hn : n < 6 := by omega
 rw [Int.toNat_natCast]
 match n, hn with
 | 0, _ => rfl
 | 1, _ => rfl
 | 2, _ => rfl
 | 3, _ => rfl
 | 4, _ => rfl
 | 5, _ => rfl
def ints (xs : List Int) : List AV := xs.map (.int .i64)
theorem ints_len {xs : List Int} : (ints xs).length = xs.length := by simp [ints]
theorem ints_at {xs : List Int} {i : Nat} (h : i < xs.length) : ((ints xs).drop i).head? = some (.int .i64 (xs.getD i 0)) := by
 rw [List.head?_drop]
 simp [ints, h]
theorem ints_take {xs : List Int} : (ints xs).take xs.length = ints xs := by
 rw [← ints_len, List.take_length]
theorem bor_ints {Hb : Heap} {inv : Nat → Option Nat} {n : Nat} {xs : List Int} : (ints xs).map (bor Hb inv (n + 1)) = ints xs := by
 simp [ints, bor]
theorem zero_ints {n : Nat} : (List.replicate n [AV.int .i64 0]).flatten = ints (List.replicate n 0) := by
 induction n with
 | zero => rfl
 | succ n ih => rw [List.replicate_succ, List.flatten_cons, ih]; rfl
theorem put_ints {xs : List Int} {i : Nat} {x : Int} (h : i < xs.length) : putAt (ints xs) i [.int .i64 x] = ints (xs.set i x) := by
 unfold putAt ints
 rw [List.map_set, List.set_eq_take_append_cons_drop, if_pos (by simpa using h)]
 simp
theorem sh_ints {mm : Nat → Nat} {xs : List Int} : shL mm (ints xs) = ints xs := by
 induction xs with
 | nil => rfl
 | cons x xs ih =>
  show sh mm (.int .i64 x) :: shL mm (ints xs) = _
  rw [ih]
  rfl
theorem noS_ints {xs : List Int} : noSL (ints xs) = true := by
 induction xs with
 | nil => rfl
 | cons x xs ih =>
  show (noS (.int .i64 x) && noSL (ints xs)) = true
  rw [ih]
  rfl
def guessOk (xs : List Int) : Bool := decide (xs.length = 48) && xs.all (fun x => inR x (-1) 65535)
theorem all_take_succ {α : Type} {p : α → Bool} {xs : List α} {i : Nat} {d : α} (hi : i < xs.length) (h : (xs.take i).all p = true) (hp : p (xs.getD i d) = true) : (xs.take (i + 1)).all p = true := by
 rw [List.take_add_one, List.all_append, h]
 simp [hi] at hp ⊢
 exact hp
theorem all_false_of {α : Type} {p : α → Bool} {xs : List α} {i : Nat} {d : α} (hi : i < xs.length) (hp : p (xs.getD i d) = false) : xs.all p = false := by
 rw [List.all_eq_false]
 refine ⟨xs[i], List.getElem_mem hi, ?_⟩
 simp [hi] at hp
 simp [hp]
theorem all_of_take {α : Type} {p : α → Bool} {xs : List α} {i : Nat} (hi : xs.length ≤ i) (h : (xs.take i).all p = true) : xs.all p = true := by
 rwa [List.take_of_length_le hi] at h
theorem take_succ_eq {α : Type} {xs ys : List α} {i : Nat} {d : α} (hx : i < xs.length) (hy : i < ys.length) (h : xs.take i = ys.take i) (he : xs.getD i d = ys.getD i d) : xs.take (i + 1) = ys.take (i + 1) := by
 simp only [List.getD_eq_getElem?_getD, List.getElem?_eq_getElem hx, List.getElem?_eq_getElem hy, Option.getD_some] at he
 have h1 : xs.take (i + 1) = xs.take i ++ [xs[i]] := by simp
 have h2 : ys.take (i + 1) = ys.take i ++ [ys[i]] := by simp
 rw [h1, h2, h, he]
theorem eq_of_take {α : Type} {xs ys : List α} {i : Nat} (hx : xs.length ≤ i) (hy : ys.length ≤ i) (h : xs.take i = ys.take i) : xs = ys := by
 rwa [List.take_of_length_le hx, List.take_of_length_le hy] at h
def firstAt {α : Type} (p : α → Bool) : List α → Nat → Int
 | [], _ => -1
 | x :: xs, i => if p x = true then (i : Int) else firstAt p xs (i + 1)
theorem firstAt_neg {α : Type} {p : α → Bool} : ∀ (xs : List α) (i : Nat), 0 ≤ firstAt p xs i ↔ xs.any p = true
 | [], i => by simp [firstAt]
 | x :: xs, i => by
  simp only [firstAt, List.any_cons]
  by_cases h : p x = true
  ·simp [h]
  ·simp only [h, if_false, Bool.false_or]
   simpa using firstAt_neg xs (i + 1)
theorem firstAt_drop {α : Type} {p : α → Bool} {d : α} : ∀ (xs : List α) (i k : Nat), i < xs.length → firstAt p (xs.drop i) (k + i) = if p (xs.getD i d) = true then ((k + i : Nat) : Int) else firstAt p (xs.drop (i + 1)) (k + i + 1)
 | xs, i, k, h => by
  rw [List.drop_eq_getElem_cons h]
  simp only [firstAt, List.getD_eq_getElem?_getD, List.getElem?_eq_getElem h, Option.getD_some]
theorem ite_min {a b : Int} : (if a < b then a else b) = min a b := by split <;> omega
theorem ite_max {a b : Int} : (if a < b then b else a) = max a b := by split <;> omega
attribute [go_sem] ite_min ite_max sh_ints noS_ints zero_ints put_ints ints_at ints_len ints_take bor_ints
structure Key where
 base : Int
 top : Int
 perms : Int
 lock : Int
 deriving DecidableEq
structure Word where
 n : Int
 is : Bool
 key : Key
 deriving DecidableEq
def Key.cells (k : Key) : List AV := [.int .i64 k.base, .int .i64 k.top, .int .i64 k.perms, .int .i64 k.lock]
def Word.cells (w : Word) : List AV := [.int .i64 w.n, .bool w.is, .int .i64 w.key.base, .int .i64 w.key.top, .int .i64 w.key.perms, .int .i64 w.key.lock]
def noKey : Key := ⟨0, 0, 0, 0⟩
def low (n : Int) : Int := bitop .and .i64 n 65535
def plain (n : Int) : Word := ⟨low n, false, noKey⟩
def learn (xs : List Int) (w v : Word) : List Int := if inR w.n 0 (xs.length - 1) = true then xs.set w.n.toNat (low v.n) else xs
theorem learn_len {xs : List Int} {w v : Word} : (learn xs w v).length = xs.length := by unfold learn; split <;> simp
def marks (t : Int) (n : Nat) : List Int := (List.range n).map fun i : Nat => t + (i : Int)
theorem marks_len {t : Int} {n : Nat} : (marks t n).length = n := by simp [marks]
theorem take_learn {xs : List Int} {w v : Word} : (ints (learn xs w v)).take xs.length = ints (learn xs w v) := by rw [← learn_len (w := w) (v := v), ints_take]
theorem take_marks {t : Int} {n : Nat} : (ints (marks t n)).take n = ints (marks t n) := by
 have := ints_take (xs := marks t n)
 rwa [marks_len] at this
theorem word_eq {a b : Word} : a = b ↔ a.n = b.n ∧ a.is = b.is ∧ a.key.base = b.key.base ∧ a.key.top = b.key.top ∧ a.key.perms = b.key.perms ∧ a.key.lock = b.key.lock := by
 cases a; rename_i n i k; cases k; cases b; rename_i n i k; cases k
 simp
theorem word_deq {a b : Word} : (decide (a.n = b.n) && (a.is == b.is && (decide (a.key.base = b.key.base) && (decide (a.key.top = b.key.top) && (decide (a.key.perms = b.key.perms) && decide (a.key.lock = b.key.lock)))))) = decide (a = b) := by
 rw [Bool.eq_iff_iff]
 simp [word_eq]
attribute [go_sem] take_learn take_marks plain low Key.cells Word.cells
def AV.flat : AV → Bool
 | .bool _ | .int _ _ | .str _ => true
 | _ => false
class Enc (α : Type) where
 cells : α → List AV
 sz : Nat
 dflt : α
 pos : 0 < sz
 len : ∀ a, (cells a).length = sz
 flat : ∀ a x, x ∈ cells a → x.flat = true
def rows {α : Type} [Enc α] (xs : List α) : List AV := (xs.map Enc.cells).flatten
section
variable {α : Type} [Enc α] {xs ys : List α} {x : α} {i n : Nat}
theorem rows_nil : rows ([] : List α) = [] := rfl
theorem rows_cons : rows (x :: xs) = Enc.cells x ++ rows xs := rfl
theorem rows_append : rows (xs ++ ys) = rows xs ++ rows ys := by simp [rows]
theorem rows_one : rows [x] = Enc.cells x := by simp [rows]
theorem rows_len : (rows xs).length = xs.length * Enc.sz α := by
 induction xs with
 | nil => simp [rows]
 | cons x xs ih => rw [rows_cons, List.length_append, ih, Enc.len, List.length_cons, Nat.add_mul, Nat.one_mul, Nat.add_comm]
theorem rows_drop : (rows xs).drop (i * Enc.sz α) = rows (xs.drop i) := by
 induction i generalizing xs with
 | zero => simp
 | succ i ih =>
  cases xs with
  | nil => simp [rows]
  | cons x xs =>
   rw [rows_cons, Nat.add_mul, Nat.one_mul, Nat.add_comm, ← List.drop_drop, List.drop_left' (Enc.len x), ih]
   rfl
theorem rows_take : (rows xs).take (i * Enc.sz α) = rows (xs.take i) := by
 induction i generalizing xs with
 | zero => simp [rows]
 | succ i ih =>
  cases xs with
  | nil => simp [rows]
  | cons x xs =>
   rw [rows_cons, Nat.add_mul, Nat.one_mul, Nat.add_comm (i * _), List.take_add, List.take_left' (Enc.len x), List.drop_left' (Enc.len x), ih]
   rfl
theorem rows_takeAll : (rows xs).take (xs.length * Enc.sz α) = rows xs := by rw [rows_take, List.take_length]
theorem rows_at (h : i < xs.length) : (rows xs).drop (i * Enc.sz α) = Enc.cells (xs.getD i (Enc.dflt)) ++ rows (xs.drop (i + 1)) := by
 rw [rows_drop, List.drop_eq_getElem_cons h, rows_cons]
 simp [h]
theorem putAt_app {A B cs : List AV} {m o : Nat} (h : A.length = m) : putAt (A ++ B) (m + o) cs = A ++ putAt B o cs := by
 unfold putAt
 subst h
 rw [List.take_append, List.take_of_length_le (by omega), Nat.add_sub_cancel_left, Nat.add_assoc, List.drop_append, List.drop_of_length_le (by omega : A.length ≤ A.length + (o + cs.length)), Nat.add_sub_cancel_left]
 simp
theorem putAt_app0 {A B cs : List AV} {m : Nat} (h : A.length = m) : putAt (A ++ B) m cs = A ++ putAt B 0 cs := putAt_app (o := 0) h
theorem putAt_self {A B cs : List AV} (h : A.length = cs.length) : putAt (A ++ B) 0 cs = cs ++ B := by
 unfold putAt
 simp [← h]
theorem rows_put (h : i < xs.length) : putAt (rows xs) (i * Enc.sz α) (Enc.cells x) = rows (xs.set i x) := by
 have h1 : rows xs = rows (xs.take i) ++ (Enc.cells xs[i] ++ rows (xs.drop (i + 1))) := by
  rw [← rows_cons, ← List.drop_eq_getElem_cons h, ← rows_append, List.take_append_drop]
 have h2 : (rows (xs.take i)).length = i * Enc.sz α := by rw [rows_len, List.length_take, Nat.min_eq_left (by omega)]
 conv => lhs; rw [h1]
 rw [putAt_app0 h2, putAt_self (by rw [Enc.len, Enc.len]), List.set_eq_take_append_cons_drop, if_pos h, rows_append, rows_cons]
theorem rows_rep {z : List AV} (hz : z = Enc.cells x) : (List.replicate n z).flatten = rows (List.replicate n x) := by
 subst hz
 rw [rows, List.map_replicate]
theorem flat_bor {Hb : Heap} {inv : Nat → Option Nat} {c : AV} (h : c.flat = true) : bor Hb inv (n + 1) c = c := by
 cases c <;> first | rfl | cases h
theorem flat_sh {mm : Nat → Nat} {c : AV} (h : c.flat = true) : sh mm c = c := by
 cases c <;> first | rfl | cases h
theorem flat_noS {c : AV} (h : c.flat = true) : noS c = true := by
 cases c <;> first | rfl | cases h
theorem rows_flat : ∀ c, c ∈ rows xs → c.flat = true := by
 intro c hc
 simp only [rows, List.mem_flatten, List.mem_map] at hc
 obtain ⟨l, ⟨a, _, rfl⟩, hc⟩ := hc
 exact Enc.flat a c hc
theorem map_flat {f : AV → AV} {l : List AV} (hf : ∀ c, c.flat = true → f c = c) (h : ∀ c, c ∈ l → c.flat = true) : l.map f = l := by
 induction l with
 | nil => rfl
 | cons c l ih => rw [List.map_cons, hf c (h c (by simp)), ih fun d hd => h d (by simp [hd])]
theorem shL_map {mm : Nat → Nat} {l : List AV} : shL mm l = l.map (sh mm) := by
 induction l with
 | nil => rfl
 | cons c l ih => rw [List.map_cons, ← ih]; rfl
theorem noSL_all {l : List AV} : noSL l = l.all noS := by
 induction l with
 | nil => rfl
 | cons c l ih => rw [List.all_cons, ← ih]; rfl
theorem bor_rows {Hb : Heap} {inv : Nat → Option Nat} : (rows xs).map (bor Hb inv (n + 1)) = rows xs := map_flat (fun _ h => flat_bor h) rows_flat
theorem sh_rows {mm : Nat → Nat} : shL mm (rows xs) = rows xs := by rw [shL_map]; exact map_flat (fun _ h => flat_sh h) rows_flat
theorem noS_rows : noSL (rows xs) = true := by
 rw [noSL_all, List.all_eq_true]
 exact fun c hc => flat_noS (rows_flat c hc)
theorem shL_app {mm : Nat → Nat} {a b : List AV} : shL mm (a ++ b) = shL mm a ++ shL mm b := by simp [shL_map]
theorem noSL_app {a b : List AV} : noSL (a ++ b) = (noSL a && noSL b) := by simp [noSL_all]
end
structure Ins where
 op : Int
 r : Int
 a : Int
 b : Int
 n : Int
 deriving DecidableEq
structure Fx where
 trap : Int
 r : Int
 val : Word
 next : Word
 adr : Int
 put : Word
 drop : Int
 deriving DecidableEq
structure Ent where
 pc : Word
 x : Ins
 done : Bool
 e : Fx
 guess : Word
 deriving DecidableEq
structure Mem where
 words : List Word
 gone : List Bool
 deriving DecidableEq
structure Stt where
 regs : List Word
 pc : Word
 mem : Mem
 trap : Int
 deriving DecidableEq
structure Cor where
 s : Stt
 rob : List Ent
 next : Word
 stop : Bool
 guesses : List Int
 deriving DecidableEq
structure Pik where
 kind : Int
 n : Int
 deriving DecidableEq
def noWord : Word := ⟨0, false, noKey⟩
def noIns : Ins := ⟨0, 0, 0, 0, 0⟩
def noFx : Fx := ⟨0, 0, noWord, noWord, 0, noWord, 0⟩
def noEnt : Ent := ⟨noWord, noIns, false, noFx, noWord⟩
def noMem : Mem := ⟨[], []⟩
def noStt : Stt := ⟨[], noWord, noMem, 0⟩
def noCor : Cor := ⟨noStt, [], noWord, false, []⟩
def noPik : Pik := ⟨0, 0⟩
def Ins.cells (x : Ins) : List AV := [.int .i64 x.op, .int .i64 x.r, .int .i64 x.a, .int .i64 x.b, .int .i64 x.n]
def Fx.cells (e : Fx) : List AV := .int .i64 e.trap :: .int .i64 e.r :: (e.val.cells ++ (e.next.cells ++ .int .i64 e.adr :: (e.put.cells ++ [.int .i64 e.drop])))
def Ent.cells (x : Ent) : List AV := x.pc.cells ++ (x.x.cells ++ .bool x.done :: (x.e.cells ++ x.guess.cells))
def Pik.cells (x : Pik) : List AV := [.int .i64 x.kind, .int .i64 x.n]
instance : Enc Word where
 cells := Word.cells
 sz := 6
 dflt := noWord
 pos := by decide
 len _ := rfl
 flat a x h := by simp [Word.cells] at h; rcases h with rfl | rfl | rfl | rfl | rfl | rfl <;> rfl
instance : Enc Ins where
 cells := Ins.cells
 sz := 5
 dflt := noIns
 pos := by decide
 len _ := rfl
 flat a x h := by simp [Ins.cells] at h; rcases h with rfl | rfl | rfl | rfl | rfl <;> rfl
instance : Enc Pik where
 cells := Pik.cells
 sz := 2
 dflt := noPik
 pos := by decide
 len _ := rfl
 flat a x h := by simp [Pik.cells] at h; rcases h with rfl | rfl <;> rfl
instance : Enc Ent where
 cells := Ent.cells
 sz := 40
 dflt := noEnt
 pos := by decide
 len _ := rfl
 flat a x h := by
  have : ((Ent.cells a).all AV.flat) = true := rfl
  exact List.all_eq_true.1 this x h
instance : Enc Bool where
 cells b := [.bool b]
 sz := 1
 dflt := false
 pos := by decide
 len _ := rfl
 flat a x h := by simp at h; subst h; rfl
abbrev bools (xs : List Bool) : List AV := rows xs
def Mem.cells (m : Mem) : List AV := [.sl m.words.length m.words.length (rows m.words), .sl m.gone.length m.gone.length (rows m.gone)]
def Stt.cells (s : Stt) : List AV := .sl s.regs.length s.regs.length (rows s.regs) :: (s.pc.cells ++ (s.mem.cells ++ [.int .i64 s.trap]))
def Cor.cells (c : Cor) : List AV := c.s.cells ++ .sl c.rob.length c.rob.length (rows c.rob) :: (c.next.cells ++ [.bool c.stop, .sl c.guesses.length c.guesses.length (ints c.guesses)])
def Mem.own (a b : Nat) (m : Mem) : List AV := [.slice a 0 m.words.length 0, .slice b 0 m.gone.length 0]
def Mem.blks (m : Mem) : Heap := [⟨6, rows m.words, true, false⟩, ⟨1, rows m.gone, true, false⟩]
def Stt.own (a b c : Nat) (s : Stt) : List AV := .slice a 0 s.regs.length 0 :: (s.pc.cells ++ (s.mem.own b c ++ [.int .i64 s.trap]))
def Stt.blks (s : Stt) : Heap := ⟨6, rows s.regs, true, false⟩ :: s.mem.blks
def Cor.own (a b c d e : Nat) (x : Cor) : List AV := x.s.own a b c ++ .slice d 0 x.rob.length 0 :: (x.next.cells ++ [.bool x.stop, .slice e 0 x.guesses.length 0])
def Cor.blks (x : Cor) : Heap := x.s.blks ++ [⟨40, rows x.rob, true, false⟩, ⟨1, ints x.guesses, true, false⟩]
section
variable {α : Type} [Enc α] {xs ys : List α} {x : α} {i n : Nat}
theorem words_at {xs : List Word} (h : i < xs.length) : (rows xs).drop (i * 6) = Word.cells (xs.getD i noWord) ++ rows (xs.drop (i + 1)) := rows_at h
theorem inss_at {xs : List Ins} (h : i < xs.length) : (rows xs).drop (i * 5) = Ins.cells (xs.getD i noIns) ++ rows (xs.drop (i + 1)) := rows_at h
theorem ents_at {xs : List Ent} (h : i < xs.length) : (rows xs).drop (i * 40) = Ent.cells (xs.getD i noEnt) ++ rows (xs.drop (i + 1)) := rows_at h
theorem piks_at {xs : List Pik} (h : i < xs.length) : (rows xs).drop (i * 2) = Pik.cells (xs.getD i noPik) ++ rows (xs.drop (i + 1)) := rows_at h
theorem bools_at {xs : List Bool} (h : i < xs.length) : (rows xs).drop i = .bool (xs.getD i false) :: rows (xs.drop (i + 1)) := by
 have := rows_at (xs := xs) h
 rwa [show i * Enc.sz Bool = i by show i * 1 = i; omega] at this
theorem words_len {xs : List Word} : (rows xs).length = xs.length * 6 := rows_len
theorem inss_len {xs : List Ins} : (rows xs).length = xs.length * 5 := rows_len
theorem ents_len {xs : List Ent} : (rows xs).length = xs.length * 40 := rows_len
theorem piks_len {xs : List Pik} : (rows xs).length = xs.length * 2 := rows_len
theorem bools_len {xs : List Bool} : (rows xs).length = xs.length := (rows_len (xs := xs)).trans (Nat.mul_one _)
theorem words_take {xs : List Word} : (rows xs).take (xs.length * 6) = rows xs := rows_takeAll
theorem inss_take {xs : List Ins} : (rows xs).take (xs.length * 5) = rows xs := rows_takeAll
theorem ents_take {xs : List Ent} : (rows xs).take (xs.length * 40) = rows xs := rows_takeAll
theorem piks_take {xs : List Pik} : (rows xs).take (xs.length * 2) = rows xs := rows_takeAll
theorem bools_take {xs : List Bool} : (rows xs).take xs.length = rows xs := by
 have := rows_takeAll (xs := xs)
 rwa [show xs.length * Enc.sz Bool = xs.length by show xs.length * 1 = _; omega] at this
theorem words_put {xs : List Word} {x : Word} (h : i < xs.length) : putAt (rows xs) (i * 6) [.int .i64 x.n, .bool x.is, .int .i64 x.key.base, .int .i64 x.key.top, .int .i64 x.key.perms, .int .i64 x.key.lock] = rows (xs.set i x) := rows_put h
theorem bools_put {xs : List Bool} {x : Bool} (h : i < xs.length) : putAt (rows xs) i [.bool x] = rows (xs.set i x) := by
 have := rows_put (x := x) h
 rwa [show i * Enc.sz Bool = i by show i * 1 = i; omega] at this
theorem words_zero : (List.replicate n [AV.int .i64 0, .bool false, .int .i64 0, .int .i64 0, .int .i64 0, .int .i64 0]).flatten = rows (List.replicate n noWord) := rows_rep rfl
theorem inss_zero : (List.replicate n [AV.int .i64 0, .int .i64 0, .int .i64 0, .int .i64 0, .int .i64 0]).flatten = rows (List.replicate n noIns) := rows_rep rfl
theorem piks_zero : (List.replicate n [AV.int .i64 0, .int .i64 0]).flatten = rows (List.replicate n noPik) := rows_rep rfl
theorem bools_zero : (List.replicate n [AV.bool false]).flatten = rows (List.replicate n false) := rows_rep rfl
theorem enc_word {w : Word} : Enc.cells w = Word.cells w := rfl
theorem enc_ins {w : Ins} : Enc.cells w = Ins.cells w := rfl
theorem enc_ent {w : Ent} : Enc.cells w = Ent.cells w := rfl
theorem enc_pik {w : Pik} : Enc.cells w = Pik.cells w := rfl
theorem enc_bool {b : Bool} : Enc.cells b = [.bool b] := rfl
end
theorem nw1 : noWord.n = 0 := rfl
theorem nw2 : noWord.is = false := rfl
theorem nw3 : noWord.key = noKey := rfl
theorem nk1 : noKey.base = 0 := rfl
theorem nk2 : noKey.top = 0 := rfl
theorem nk3 : noKey.perms = 0 := rfl
theorem nk4 : noKey.lock = 0 := rfl
theorem ni1 : noIns.op = 0 := rfl
theorem ni2 : noIns.r = 0 := rfl
theorem ni3 : noIns.a = 0 := rfl
theorem ni4 : noIns.b = 0 := rfl
theorem ni5 : noIns.n = 0 := rfl
theorem nx1 : noFx.trap = 0 := rfl
theorem nx2 : noFx.r = 0 := rfl
theorem nx3 : noFx.val = noWord := rfl
theorem nx4 : noFx.next = noWord := rfl
theorem nx5 : noFx.adr = 0 := rfl
theorem nx6 : noFx.put = noWord := rfl
theorem nx7 : noFx.drop = 0 := rfl
theorem ne1 : noEnt.pc = noWord := rfl
theorem ne2 : noEnt.x = noIns := rfl
theorem ne3 : noEnt.done = false := rfl
theorem ne4 : noEnt.e = noFx := rfl
theorem ne5 : noEnt.guess = noWord := rfl
theorem np1 : noPik.kind = 0 := rfl
theorem np2 : noPik.n = 0 := rfl
def Mem.sm (m : Mem) : Prop := m.words.length ≤ 9223372036854775807 ∧ m.gone.length ≤ 9223372036854775807
def Stt.sm (s : Stt) : Prop := s.regs.length ≤ 9223372036854775807 ∧ s.mem.sm
def Cor.sm (c : Cor) : Prop := c.s.sm ∧ c.rob.length ≤ 9223372036854775807 ∧ c.guesses.length ≤ 9223372036854775807
def szL (left : Int) (n : Nat) : Int := if left - n < 0 then -1 else left - n
def szM (left : Int) (m : Mem) : Int := if szL left m.words.length < 0 then -1 else if szL (szL left m.words.length) m.gone.length < 0 then -1 else szL (szL left m.words.length) m.gone.length
def szS (left : Int) (s : Stt) : Int := if szL left s.regs.length < 0 then -1 else if szM (szL left s.regs.length) s.mem < 0 then -1 else szM (szL left s.regs.length) s.mem
def szC (left : Int) (c : Cor) : Int := if szS left c.s < 0 then -1 else if szL (szS left c.s) c.rob.length < 0 then -1 else if szL (szL (szS left c.s) c.rob.length) c.guesses.length < 0 then -1 else szL (szL (szS left c.s) c.rob.length) c.guesses.length
def leftOk (l : Int) : Prop := 0 ≤ l ∧ l ≤ 1048576
def Mem.fit (m : Mem) : Prop := m.words.length ≤ 1048576 ∧ m.gone.length ≤ 1048576
def Stt.fit (s : Stt) : Prop := s.regs.length ≤ 1048576 ∧ s.mem.fit
def Cor.fit (c : Cor) : Prop := c.s.fit ∧ c.rob.length ≤ 1048576 ∧ c.guesses.length ≤ 1048576
theorem ins_zero {x : Ins} : (decide (x = noIns)) = (decide (x.op = 0) && (decide (x.r = 0) && (decide (x.a = 0) && (decide (x.b = 0) && decide (x.n = 0))))) := by
 rw [Bool.eq_iff_iff]
 cases x
 simp [noIns]
attribute [go_sem] words_at inss_at ents_at piks_at bools_at words_len inss_len ents_len piks_len bools_len words_take inss_take ents_take piks_take bools_take words_zero inss_zero piks_zero bools_zero
 bor_rows sh_rows noS_rows shL_app noSL_app enc_word enc_ins enc_ent enc_pik enc_bool rows_nil rows_cons Ins.cells Fx.cells Ent.cells Pik.cells Mem.cells Stt.cells Cor.cells Mem.own Mem.blks Stt.own Stt.blks Cor.own Cor.blks
 nw1 nw2 nw3 nk1 nk2 nk3 nk4 ni1 ni2 ni3 ni4 ni5 nx1 nx2 nx3 nx4 nx5 nx6 nx7 ne1 ne2 ne3 ne4 ne5 np1 np2
 List.map_append List.append_assoc
def boundsOk (b t : Int) : Bool := inR b 0 4096 && inR t 0 4096 && decide (b ≤ t)
def packB (b : Int) (e : Nat) : Int := b / 2 ^ e
def packL (b t : Int) (e : Nat) : Int := (t - packB b e * 2 ^ e + 2 ^ e - 1) / 2 ^ e
def packFits (b t : Int) (e : Nat) : Bool := decide (packB b e ≤ 63) && decide (packL b t e ≤ 63)
def packFrom (b t : Int) : Nat → Nat → Option Nat
 | 0, _ => none
 | n + 1, e => if packFits b t e = true then some e else packFrom b t n (e + 1)
def packAt (b t : Int) : Option Nat := packFrom b t 7 0
theorem packFrom_go {b t : Int} {i : Nat} (h : i < 7) : packFrom b t (7 - i) i = if packFits b t i = true then some i else packFrom b t (7 - (i + 1)) (i + 1) := by
 rw [show 7 - i = (7 - (i + 1)) + 1 by omega, packFrom]
def pack (b t : Int) : (Int × Int × Int) × Bool :=
 if boundsOk b t = true then match packAt b t with
  | some e => (((e : Int), packB b e, packL b t e), true)
  | none => ((0, 0, 0), false)
 else ((0, 0, 0), false)
def unpack (p : Int × Int × Int) : Int × Int × Bool :=
 if inR p.1 0 6 = true ∧ inR p.2.1 0 63 = true ∧ inR p.2.2 0 63 = true then (p.2.1 * 2 ^ p.1.toNat, min ((p.2.1 + p.2.2) * 2 ^ p.1.toNat) 4096, true) else (0, 0, false)
def wide (b t : Int) : Int × Int :=
 if (pack b t).2 = true then ((unpack (pack b t).1).1, (unpack (pack b t).1).2.1) else if boundsOk b t = true then (0, 4096) else (0, 0)
def exact (b t : Int) : Bool := boundsOk b t && decide ((wide b t).1 = b) && decide ((wide b t).2 = t)
def keyOk (k : Key) : Bool := exact k.base k.top && inR k.perms 0 63 && inR k.lock 0 7
def band (a b : Int) : Int := bitop .and .i64 a b
def covers (a b : Key) : Bool := keyOk a && keyOk b && decide (a.base ≤ b.base) && decide (b.top ≤ a.top) && decide (band a.perms b.perms = b.perms)
def wordOk (w : Word) : Bool := inR w.n 0 65535 && (if w.is = true then keyOk w.key else decide (w.key = noKey))
def keyWord (k : Key) (n : Int) : Word := if keyOk k = true then ⟨low n, true, k⟩ else plain n
def bare (w : Word) : Word := plain w.n
def unders (w : Word) (l : List Word) : Bool := !w.is || l.any fun x => x.is && covers x.key w.key
def opened (w : Word) : Bool := wordOk w && w.is && decide (w.key.lock = 0)
def weaken (w : Word) (m : Int) : Word := if opened w = true then ⟨w.n, w.is, ⟨w.key.base, w.key.top, band w.key.perms (band m 63), w.key.lock⟩⟩ else bare w
def wadd (a b : Int) : Int := IntKind.i64.wrap (a + b)
def narrow (w : Word) (n : Int) : Word :=
 if opened w = true ∧ inR n 0 4096 = true ∧ boundsOk w.n (wadd w.n n) = true ∧ w.key.base ≤ (wide w.n (wadd w.n n)).1 ∧ (wide w.n (wadd w.n n)).2 ≤ w.key.top then
  ⟨w.n, w.is, ⟨(wide w.n (wadd w.n n)).1, (wide w.n (wadd w.n n)).2, w.key.perms, w.key.lock⟩⟩
 else bare w
def point (w : Word) (n : Int) : Word := if opened w = true then ⟨low n, w.is, w.key⟩ else plain n
def sealer (by_ : Word) : Bool := opened by_ && decide (band by_.key.perms 32 ≠ 0) && decide (by_.key.base ≤ by_.n) && decide (by_.n < by_.key.top) && inR by_.n 1 7
def sealBy (w by_ : Word) : Word := if opened w = true ∧ sealer by_ = true then ⟨w.n, w.is, ⟨w.key.base, w.key.top, w.key.perms, by_.n⟩⟩ else bare w
def openBy (w by_ : Word) : Word := if wordOk w = true ∧ w.is = true ∧ sealer by_ = true ∧ w.key.lock = by_.n then ⟨w.n, w.is, ⟨w.key.base, w.key.top, w.key.perms, 0⟩⟩ else bare w
def tryW (w : Word) (n p : Int) : Int :=
 if wordOk w = false ∨ w.is = false then 1 else if w.key.lock ≠ 0 then 2 else if band w.key.perms p ≠ p then 3 else if n < w.key.base ∨ w.key.top ≤ n then 4 else 0
def taken (by_ w : Word) : Word := if band by_.key.perms 8 = 0 then bare w else w
def mayPut (by_ w : Word) : Bool := !w.is || decide (band by_.key.perms 16 ≠ 0)
def guess (l : List Int) (pc : Word) : Word :=
 if inR pc.n 0 (l.length - 1) = true ∧ l.getD pc.n.toNat 0 ≠ -1 then point pc (l.getD pc.n.toNat 0) else point pc (wadd pc.n 1)
def guessNew : List Int := List.replicate 48 (-1)
theorem boundsOk_iff {b t : Int} : boundsOk b t = true ↔ 0 ≤ b ∧ b ≤ t ∧ t ≤ 4096 := by
 simp only [boundsOk, inR, Bool.and_eq_true, decide_eq_true_eq]
 omega
theorem pow7 {i : Nat} (h : i < 7) : 1 ≤ (2 : Int) ^ i ∧ (2 : Int) ^ i ≤ 64 :=
 match i, h with
 | 0, _ => by decide
 | 1, _ => by decide
 | 2, _ => by decide
 | 3, _ => by decide
 | 4, _ => by decide
 | 5, _ => by decide
 | 6, _ => by decide
theorem packB_rng {b t : Int} {i : Nat} (hb : boundsOk b t = true) (h : i < 7) : 0 ≤ packB b i ∧ packB b i ≤ 4096 ∧ 0 ≤ packB b i * 2 ^ i ∧ packB b i * 2 ^ i ≤ b := by
 have h1 := boundsOk_iff.1 hb
 have h2 := pow7 h
 have h3 : 0 ≤ b / (2 : Int) ^ i := Int.ediv_nonneg h1.1 (by omega)
 have h4 : b / (2 : Int) ^ i * 2 ^ i ≤ b := Int.ediv_mul_le b (by omega)
 have h5 : b / (2 : Int) ^ i ≤ b := Int.ediv_le_self _ h1.1
 unfold packB
 exact ⟨h3, by omega, Int.mul_nonneg h3 (by omega), h4⟩
theorem bits64 : IntKind.i64.bits = 64 := rfl
theorem fdiv_pow {a : Int} {n : Nat} : a.fdiv (2 ^ n) = a / 2 ^ n := Int.fdiv_eq_ediv_of_nonneg _ (Int.pow_nonneg (by decide))
theorem pack_wraps {b t : Int} {i : Nat} (hb : boundsOk b t = true) (h : i < 7) : IntKind.i64.wrap (b / 2 ^ i * 2 ^ i) = b / 2 ^ i * 2 ^ i ∧ IntKind.i64.wrap (1 * 2 ^ i) = 2 ^ i ∧ IntKind.i64.wrap (t - b / 2 ^ i * 2 ^ i) = t - b / 2 ^ i * 2 ^ i ∧
 IntKind.i64.wrap (t - b / 2 ^ i * 2 ^ i + 2 ^ i) = t - b / 2 ^ i * 2 ^ i + 2 ^ i ∧ IntKind.i64.wrap (t - b / 2 ^ i * 2 ^ i + 2 ^ i - 1) = t - b / 2 ^ i * 2 ^ i + 2 ^ i - 1 := by
 have h1 := boundsOk_iff.1 hb
 have h2 := pow7 h
 have h3 := packB_rng hb h
 unfold packB at h3
 generalize b / 2 ^ i * 2 ^ i = q at *
 generalize (2 : Int) ^ i = p at *
 have e1 : IntKind.i64.wrap q = q := wrap64 (by omega)
 have e2 : IntKind.i64.wrap (1 * p) = p := by rw [Int.one_mul]; exact wrap64 (by omega)
 have e3 : IntKind.i64.wrap (t - q) = t - q := wrap64 (by omega)
 have e4 : IntKind.i64.wrap (t - q + p) = t - q + p := wrap64 (by omega)
 have e5 : IntKind.i64.wrap (t - q + p - 1) = t - q + p - 1 := wrap64 (by omega)
 exact ⟨e1, e2, e3, e4, e5⟩
theorem pack_tdiv {b t : Int} {i : Nat} (hb : boundsOk b t = true) (h : i < 7) : IntKind.i64.wrap (b.tdiv (2 ^ i)) = b / 2 ^ i ∧ IntKind.i64.wrap ((t - b / 2 ^ i * 2 ^ i + 2 ^ i - 1).tdiv (2 ^ i)) = (t - b / 2 ^ i * 2 ^ i + 2 ^ i - 1) / 2 ^ i ∧ ((2 : Int) ^ i = 0) = False := by
 have h1 := boundsOk_iff.1 hb
 have h2 := pow7 h
 have h3 := packB_rng hb h
 unfold packB at h3
 have d1 : b.tdiv (2 ^ i) = b / 2 ^ i := Int.tdiv_eq_ediv_of_nonneg h1.1
 have d2 : (t - b / 2 ^ i * 2 ^ i + 2 ^ i - 1).tdiv (2 ^ i) = (t - b / 2 ^ i * 2 ^ i + 2 ^ i - 1) / 2 ^ i := Int.tdiv_eq_ediv_of_nonneg (by omega)
 have b1 : (t - b / 2 ^ i * 2 ^ i + 2 ^ i - 1) / 2 ^ i ≤ t - b / 2 ^ i * 2 ^ i + 2 ^ i - 1 := Int.ediv_le_self _ (by omega)
 have b2 : 0 ≤ (t - b / 2 ^ i * 2 ^ i + 2 ^ i - 1) / 2 ^ i := Int.ediv_nonneg (by omega) (by omega)
 rw [d1, d2]
 exact ⟨wrap64 (by omega), wrap64 (by omega), by simp; omega⟩
theorem unpack_wraps {e b l : Int} (he : inR e 0 6 = true) (hb : inR b 0 63 = true) (hl : inR l 0 63 = true) : min e.toNat 64 = e.toNat ∧ (e < 0) = False ∧ IntKind.i64.wrap (b * 2 ^ e.toNat) = b * 2 ^ e.toNat ∧ IntKind.i64.wrap (b + l) = b + l ∧
 IntKind.i64.wrap ((b + l) * 2 ^ e.toNat) = (b + l) * 2 ^ e.toNat := by
 rw [inR_iff] at he hb hl
 have h2 := pow7 (i := e.toNat) (by omega)
 have m1 : b * 2 ^ e.toNat ≤ 63 * 64 := Int.mul_le_mul hb.2 h2.2 (by omega) (by omega)
 have m2 : (b + l) * 2 ^ e.toNat ≤ 126 * 64 := Int.mul_le_mul (by omega) h2.2 (by omega) (by omega)
 have n1 : 0 ≤ b * 2 ^ e.toNat := Int.mul_nonneg hb.1 (by omega)
 have n2 : 0 ≤ (b + l) * 2 ^ e.toNat := Int.mul_nonneg (by omega) (by omega)
 exact ⟨by omega, by simp; omega, wrap64 (by omega), wrap64 (by omega), wrap64 (by omega)⟩
theorem opened_is {w : Word} (h : opened w = true) : w.is = true := by
 simp only [opened, Bool.and_eq_true] at h
 exact h.1.2
theorem andNot_zero {a p : Int} (hp : 0 ≤ p ∧ p ≤ 63) : (bitop .andNot .i64 p a = 0) = (band a p = p) := by
 unfold band bitop
 simp only
 have wn : ∀ v : BitVec 64, IntKind.i64.wrap (v.toNat : Int) = v.toInt := by
  intro v
  rw [BitVec.toInt_eq_toNat_bmod]
  simp only [IntKind.wrap, IntKind.bits, IntKind.signed, Int.bmod, Nat.reducePow, Int.reducePow, Nat.reduceSub, Bool.true_and, decide_eq_true_eq, ge_iff_le]
  have := v.isLt
  split <;> split <;> omega
 rw [show IntKind.i64.bits = 64 from rfl] at *
 rw [wn, wn]
 have h0 : (BitVec.ofInt 64 p &&& ~~~ BitVec.ofInt 64 a).toInt = 0 ↔ BitVec.ofInt 64 p &&& ~~~ BitVec.ofInt 64 a = 0#64 := by
  rw [← BitVec.toInt_inj]; simp
 have h1 : (BitVec.ofInt 64 a &&& BitVec.ofInt 64 p).toInt = p ↔ BitVec.ofInt 64 a &&& BitVec.ofInt 64 p = BitVec.ofInt 64 p := by
  rw [← BitVec.toInt_inj]
  have : (BitVec.ofInt 64 p).toInt = p := by
   rw [BitVec.toInt_ofInt]
   exact Int.bmod_eq_of_le (by omega) (by omega)
  rw [this]
 rw [eq_iff_iff, h0, h1]
 generalize BitVec.ofInt 64 p = x
 generalize BitVec.ofInt 64 a = y
 constructor
 ·intro h
  ext i hi
  have := congrArg (fun v => v.getLsbD i) h
  simp [hi] at this ⊢
  cases hx : x[i] <;> simp_all
 ·intro h
  ext i hi
  have := congrArg (fun v => v.getLsbD i) h
  simp [hi] at this ⊢
  cases hx : x[i] <;> simp_all
def hasL : List Int := [0, 9, 7, 3, 7, 7, 15, 7, 7, 3, 11, 14, 3, 10, 2, 0]
def has (op : Int) : Int := if inR op 1 15 = true then hasL.getD op.toNat 0 else 0
def hasR (op : Int) : Bool := !decide (band (has op) 1 = 0)
def hasA (op : Int) : Bool := !decide (band (has op) 2 = 0)
def hasB (op : Int) : Bool := !decide (band (has op) 4 = 0)
def hasN (op : Int) : Bool := !decide (band (has op) 8 = 0)
def fieldOk (x : Int) (h : Bool) : Bool := inR x 0 7 && (h || decide (x = 0))
def insOk (x : Ins) : Bool := inR x.op 1 15 && fieldOk x.r (hasR x.op) && fieldOk x.a (hasA x.op) && fieldOk x.b (hasB x.op) && inR x.n (-128) 127 && (hasN x.op || decide (x.n = 0))
def sets (x : Ins) : Int := if hasR x.op = true then x.r else -1
def formL (op : Int) : List UInt8 :=
 if op = 1 then [82, 78] else if op = 2 ∨ op = 4 ∨ op = 5 ∨ op = 7 ∨ op = 8 then [82, 65, 66] else if op = 3 ∨ op = 9 ∨ op = 12 then [82, 65] else if op = 6 then [82, 65, 66, 78]
 else if op = 10 then [82, 65, 78] else if op = 11 then [65, 66, 78] else if op = 13 then [65, 78] else if op = 14 then [65] else []
def form (op : Int) : ByteArray := ⟨(formL op).toArray⟩
def bytesV (l : List UInt8) : List AV := l.map fun b => .int .u8 (b.toNat : Int)
theorem bytesV_len {l : List UInt8} : (bytesV l).length = l.length := by simp [bytesV]
theorem bytesV_at {l : List UInt8} {i : Nat} (h : i < l.length) : ((bytesV l).drop i).head? = some (.int .u8 ((l.getD i 0).toNat : Int)) := by
 rw [List.head?_drop]
 simp [bytesV, h]
theorem bytesV_take {l : List UInt8} : (bytesV l).take l.length = bytesV l := by rw [← bytesV_len, List.take_length]
theorem bor_bytesV {Hb : Heap} {inv : Nat → Option Nat} {n : Nat} {l : List UInt8} : (bytesV l).map (bor Hb inv (n + 1)) = bytesV l := by simp [bytesV, bor]
theorem form_cells {op : Int} : byteCells (form op) = bytesV (formL op) := by simp [byteCells, form, bytesV]
theorem form_size {op : Int} : (form op).size = (formL op).length := by simp [form, ByteArray.size]
theorem formL_len {op : Int} : (formL op).length ≤ 4 := by
 unfold formL
 repeat (split; · simp)
 simp
attribute [go_sem] bytesV_len bytesV_at bytesV_take bor_bytesV form_cells form_size
def partI (x : Ins) (p : Int) : Int := if p = 82 then x.r else if p = 65 then x.a else if p = 66 then x.b else x.n
def hasI (op : Int) (p : Int) : Bool := (formL op).any fun b => decide (p = (b.toNat : Int))
theorem op_cases {op : Int} (h : inR op 1 15 = true) : op = 1 ∨ op = 2 ∨ op = 3 ∨ op = 4 ∨ op = 5 ∨ op = 6 ∨ op = 7 ∨ op = 8 ∨ op = 9 ∨ op = 10 ∨ op = 11 ∨ op = 12 ∨ op = 13 ∨ op = 14 ∨ op = 15 := by
 rw [inR_iff] at h
 omega
theorem has_row {op : Int} (h : inR op 1 15 = true) : (List.drop op.toNat [AV.int .i64 0, .int .i64 9, .int .i64 7, .int .i64 3, .int .i64 7, .int .i64 7, .int .i64 15, .int .i64 7, .int .i64 7, .int .i64 3, .int .i64 11, .int .i64 14, .int .i64 3, .int .i64 10, .int .i64 2, .int .i64 0]).head? = some (.int .i64 (has op)) := by
 rcases op_cases h with rfl | rfl | rfl | rfl | rfl | rfl | rfl | rfl | rfl | rfl | rfl | rfl | rfl | rfl | rfl <;> rfl
theorem hasI_eq (op : Int) : hasI op 82 = hasR op ∧ hasI op 65 = hasA op ∧ hasI op 66 = hasB op ∧ hasI op 78 = hasN op := by
 by_cases h : inR op 1 15 = true
 ·rcases op_cases h with rfl | rfl | rfl | rfl | rfl | rfl | rfl | rfl | rfl | rfl | rfl | rfl | rfl | rfl | rfl <;> decide
 ·have h0 : has op = 0 := by rw [has, if_neg h]
  have h1 : formL op = [] := by
   rw [inR_iff] at h
   unfold formL
   repeat (rw [if_neg (by omega)])
  simp only [hasI, h1, hasR, hasA, hasB, hasN, h0, List.any_nil]
  decide
def pL (i : Nat) : Int := ([82, 65, 66, 78] : List Int).getD i 0
theorem pL_row {i : Nat} (h : i < 4) : (List.drop i [AV.int .u8 82, .int .u8 65, .int .u8 66, .int .u8 78]).head? = some (.int .u8 (pL i)) :=
 match i, h with
 | 0, _ => rfl
 | 1, _ => rfl
 | 2, _ => rfl
 | 3, _ => rfl
def okP (x : Ins) (i : Nat) : Bool := if hasI x.op (pL i) = false then decide (partI x (pL i) = 0) else if pL i = 78 then inR (partI x (pL i)) (-128) 127 else inR (partI x (pL i)) 0 7
def okU (x : Ins) : Nat → Bool
 | 0 => inR x.op 1 15
 | i + 1 => okU x i && okP x i
theorem okU_all (x : Ins) : okU x 4 = insOk x := by
 obtain ⟨h1, h2, h3, h4⟩ := hasI_eq x.op
 have e0 : okP x 0 = fieldOk x.r (hasR x.op) := by
  show (if hasI x.op 82 = false then decide (x.r = 0) else inR x.r 0 7) = _
  rw [h1]
  cases hasR x.op <;> simp [fieldOk, inR] <;> omega
 have e1 : okP x 1 = fieldOk x.a (hasA x.op) := by
  show (if hasI x.op 65 = false then decide (x.a = 0) else inR x.a 0 7) = _
  rw [h2]
  cases hasA x.op <;> simp [fieldOk, inR] <;> omega
 have e2 : okP x 2 = fieldOk x.b (hasB x.op) := by
  show (if hasI x.op 66 = false then decide (x.b = 0) else inR x.b 0 7) = _
  rw [h3]
  cases hasB x.op <;> simp [fieldOk, inR] <;> omega
 have e3 : okP x 3 = (inR x.n (-128) 127 && (hasN x.op || decide (x.n = 0))) := by
  show (if hasI x.op 78 = false then decide (x.n = 0) else inR x.n (-128) 127) = _
  rw [h4]
  cases hasN x.op <;> simp [inR] <;> omega
 simp only [okU, e0, e1, e2, e3, insOk, Bool.and_assoc]
def memOk (m : Mem) : Bool := decide (m.words.length = 24) && decide (m.gone.length = 24) && m.words.all wordOk
def memNew : Mem := ⟨List.replicate 24 noWord, List.replicate 24 false⟩
def filt (m : Mem) (w : Word) : Word := if w.is = true ∧ inR w.key.base 0 (m.gone.length - 1) = true ∧ m.gone.getD w.key.base.toNat false = true then bare w else w
def readT (m : Mem) (by_ : Word) (n : Int) : Int := if tryW by_ n 1 = 0 then (if inR n 0 (m.words.length - 1) = true then 0 else 4) else tryW by_ n 1
def read (m : Mem) (by_ : Word) (n : Int) : Word × Int := if readT m by_ n = 0 then (filt m (taken by_ (m.words.getD n.toNat noWord)), 0) else (noWord, readT m by_ n)
def writeT (m : Mem) (by_ : Word) (n : Int) (w : Word) : Int := if tryW by_ n 2 ≠ 0 then tryW by_ n 2 else if inR n 0 (m.words.length - 1) = false then 4 else if mayPut by_ w = false then 3 else 0
def sweep (m : Mem) (n : Int) : Mem := if memOk m = true then (if inR n 0 23 = true then ⟨m.words.set n.toNat (filt m (m.words.getD n.toNat noWord)), m.gone⟩ else m) else noMem
def dropM (m : Mem) (n : Int) : Mem := if memOk m = true then (if inR n 0 23 = true then ⟨m.words, m.gone.set n.toNat true⟩ else m) else noMem
def sttOk (s : Stt) : Bool := s.regs.all wordOk && decide (s.regs.length = 8) && wordOk s.pc && memOk s.mem && inR s.trap 0 5
def fetch (l : List Ins) (pc : Word) : Ins × Int :=
 if tryW pc pc.n 4 ≠ 0 then (noIns, tryW pc pc.n 4) else if inR pc.n 0 (l.length - 1) = true ∧ insOk (l.getD pc.n.toNat noIns) = true then (l.getD pc.n.toNat noIns, 0) else (noIns, 4)
def fxTrap (t : Int) (pc : Word) : Fx := ⟨t, -1, noWord, pc, -1, noWord, -1⟩
def isW (a : Word) : Word := if a.is = true then plain 1 else plain 0
def valueOf (x : Ins) (a b got : Word) : Word :=
 if x.op = 1 then plain x.n else if x.op = 2 then plain (wadd a.n b.n) else if x.op = 3 then a else if x.op = 4 then weaken a b.n else if x.op = 5 then narrow a b.n
 else if x.op = 6 then point a (wadd (wadd a.n b.n) x.n) else if x.op = 7 then sealBy a b else if x.op = 8 then openBy a b else if x.op = 10 then got else isW a
def nextPc (pc : Word) : Word := point pc (wadd pc.n 1)
def work (x : Ins) (pc a b got : Word) : Fx :=
 if x.op = 11 then ⟨0, -1, noWord, nextPc pc, wadd a.n x.n, b, -1⟩
 else if x.op = 12 then (if tryW a a.n 4 ≠ 0 then fxTrap (tryW a a.n 4) pc else ⟨0, x.r, nextPc pc, a, -1, noWord, -1⟩)
 else if x.op = 13 then ⟨0, -1, noWord, if a.n = 0 then point pc (wadd pc.n x.n) else nextPc pc, -1, noWord, -1⟩
 else if x.op = 14 then (if tryW a a.n 32 ≠ 0 then fxTrap (tryW a a.n 32) pc else ⟨0, -1, noWord, nextPc pc, -1, noWord, a.key.base⟩)
 else if x.op = 15 then fxTrap 5 pc
 else ⟨0, sets x, if 0 ≤ sets x then valueOf x a b got else noWord, nextPc pc, -1, noWord, -1⟩
def memOf (m : Mem) (x : Ins) (a b : Word) : Word × Int := if x.op = 10 then read m a (wadd a.n x.n) else if x.op = 11 then (noWord, writeT m a (wadd a.n x.n) b) else (noWord, 0)
def applyFx (s : Stt) (e : Fx) : Stt :=
 ⟨if inR e.r 0 7 = true then s.regs.set e.r.toNat e.val else s.regs, e.next,
  ⟨if inR e.adr 0 23 = true then s.mem.words.set e.adr.toNat e.put else s.mem.words, if inR e.drop 0 23 = true then s.mem.gone.set e.drop.toNat true else s.mem.gone⟩, s.trap⟩
def reg (s : Stt) (r : Int) : Word := s.regs.getD r.toNat noWord
def fxOf (l : List Ins) (s : Stt) : Fx :=
 if (fetch l s.pc).2 ≠ 0 then fxTrap (fetch l s.pc).2 s.pc
 else if (memOf s.mem (fetch l s.pc).1 (reg s (fetch l s.pc).1.a) (reg s (fetch l s.pc).1.b)).2 ≠ 0 then fxTrap (memOf s.mem (fetch l s.pc).1 (reg s (fetch l s.pc).1.a) (reg s (fetch l s.pc).1.b)).2 s.pc
 else work (fetch l s.pc).1 s.pc (reg s (fetch l s.pc).1.a) (reg s (fetch l s.pc).1.b) (memOf s.mem (fetch l s.pc).1 (reg s (fetch l s.pc).1.a) (reg s (fetch l s.pc).1.b)).1
def withTrap (s : Stt) (t : Int) : Stt := ⟨s.regs, s.pc, s.mem, t⟩
def step (l : List Ins) (s : Stt) : Stt :=
 if sttOk s = false then noStt else if s.trap ≠ 0 then s else if (fxOf l s).trap ≠ 0 then withTrap s (fxOf l s).trap else applyFx s (fxOf l s)
def withMem (s : Stt) (m : Mem) : Stt := ⟨s.regs, s.pc, m, s.trap⟩
def runOne (l : List Ins) (s : Stt) (n : Int) : Stt := if n < 0 then step l s else withMem s (sweep s.mem n)
def run (l : List Ins) (s : Stt) (ns : List Int) : Stt := if sttOk s = false then noStt else if 600 < ns.length then s else ns.foldl (runOne l) s
def keysOf (ws : List Word) : List Word := ws.filter (·.is)
def keys (s : Stt) : List Word := keysOf (s.regs ++ [s.pc] ++ s.mem.words)
def allUnder (ws by_ : List Word) : Bool := ws.all fun w => unders w by_
def closed (s t : Stt) : Bool := sttOk s && sttOk t && allUnder (keys t) (keys s)
def alike (s t : Stt) : Bool := decide (s.regs = t.regs) && decide (s.pc = t.pc) && decide (s.mem.words = t.mem.words) && decide (s.mem.gone = t.mem.gone) && decide (s.trap = t.trap)
def entOk (x : Ent) : Bool := wordOk x.pc && wordOk x.guess && wordOk x.e.val && wordOk x.e.next && wordOk x.e.put && (insOk x.x || decide (x.x = noIns)) && inR x.e.trap 0 5 && inR x.e.r (-1) 7 && decide (x.e.drop ≤ 4096)
def corOk (c : Cor) : Bool := c.rob.all entOk && sttOk c.s && decide (c.rob.length ≤ 6) && wordOk c.next && guessOk c.guesses
def corNew (s : Stt) : Cor := if sttOk s = true then ⟨s, [], s.pc, false, guessNew⟩ else noCor
def setBy (x : Ent) : Int := if x.done = true then x.e.r else sets x.x
def lastAt {α : Type} (p : α → Bool) (d : α) (xs : List α) : Nat → Int
 | 0 => -1
 | k + 1 => if p (xs.getD k d) = true then (k : Int) else lastAt p d xs k
def upTo (i : Int) (n : Nat) : Nat := min i.toNat n
def source (rob : List Ent) (i r : Int) : Int := if r < 0 then -1 else lastAt (fun x => decide (setBy x = r)) noEnt rob (upTo i rob.length)
def valueRaw (c : Cor) (i r : Int) : Word × Bool :=
 if source c.rob i r < 0 then (reg c.s r, true) else if (c.rob.getD (source c.rob i r).toNat noEnt).done = false then (noWord, false) else ((c.rob.getD (source c.rob i r).toNat noEnt).e.val, true)
def value (c : Cor) (i r : Int) : Word × Bool := if inR r 0 7 = true ∧ corOk c = true then valueRaw c i r else (noWord, false)
def withRob (c : Cor) (rob : List Ent) (next : Word) (stop : Bool) : Cor := ⟨c.s, rob, next, stop, c.guesses⟩
def pull (l : List Ins) (c : Cor) : Cor × Bool :=
 if corOk c = false then (noCor, false)
 else if c.stop = true ∨ c.rob.length = 6 ∨ c.s.trap ≠ 0 then (c, false)
 else if (fetch l c.next).2 ≠ 0 then (withRob c (c.rob ++ [⟨c.next, noIns, true, fxTrap (fetch l c.next).2 c.next, c.next⟩]) c.next true, true)
 else (withRob c (c.rob ++ [⟨c.next, (fetch l c.next).1, false, noFx, guess c.guesses c.next⟩]) (guess c.guesses c.next) c.stop, true)
def waits (y : Ent) : Bool := decide (y.x.op = 11) && !y.done || decide (y.x.op = 14)
def ready (c : Cor) (i : Int) : Bool :=
 corOk c && inR i 0 (c.rob.length - 1) && !(c.rob.getD i.toNat noEnt).done &&
 (!hasA (c.rob.getD i.toNat noEnt).x.op || (valueRaw c i (c.rob.getD i.toNat noEnt).x.a).2) && (!hasB (c.rob.getD i.toNat noEnt).x.op || (valueRaw c i (c.rob.getD i.toNat noEnt).x.b).2) &&
 (!decide ((c.rob.getD i.toNat noEnt).x.op = 10) || !(c.rob.take i.toNat).any waits)
def puts (n : Int) (x : Ent) : Bool := decide (x.x.op = 11) && x.done && decide (x.e.trap = 0) && decide (x.e.adr = n)
def found (c : Cor) (i : Int) (by_ : Word) (n : Int) : Word × Int :=
 if (read c.s.mem by_ n).2 ≠ 0 then (noWord, (read c.s.mem by_ n).2)
 else if lastAt (puts n) noEnt c.rob (upTo i c.rob.length) < 0 then (read c.s.mem by_ n)
 else (filt c.s.mem (taken by_ (c.rob.getD (lastAt (puts n) noEnt c.rob (upTo i c.rob.length)).toNat noEnt).e.put), 0)
def memAt (c : Cor) (i : Int) (x : Ins) (a b : Word) : Word × Int := if x.op = 10 then found c i a (wadd a.n x.n) else if x.op = 11 then (noWord, writeT c.s.mem a (wadd a.n x.n) b) else (noWord, 0)
def fxAt (c : Cor) (i : Int) (x : Ins) (pc a b : Word) : Fx := if (memAt c i x a b).2 ≠ 0 then fxTrap (memAt c i x a b).2 pc else work x pc a b (memAt c i x a b).1
def doneBy (c : Cor) (i : Int) (x : Ent) : Fx := fxAt c i x.x x.pc (valueRaw c i x.x.a).1 (valueRaw c i x.x.b).1
def doE (c : Cor) (i : Nat) (x : Ent) (e : Fx) : Cor :=
 if e.trap ≠ 0 then withRob c ((c.rob.set i ⟨x.pc, x.x, true, e, x.guess⟩).take (i + 1)) c.next true
 else if e.next ≠ x.guess then withRob c ((c.rob.set i ⟨x.pc, x.x, true, e, x.guess⟩).take (i + 1)) e.next false
 else withRob c (c.rob.set i ⟨x.pc, x.x, true, e, x.guess⟩) c.next c.stop
def do_ (c : Cor) (i : Int) : Cor × Bool :=
 if corOk c = false then (noCor, false) else if ready c i = false then (c, false) else (doE c i.toNat (c.rob.getD i.toNat noEnt) (doneBy c i (c.rob.getD i.toNat noEnt)), true)
def commitE (c : Cor) (x : Ent) : Cor :=
 if x.e.trap ≠ 0 then ⟨⟨c.s.regs, x.pc, c.s.mem, x.e.trap⟩, [], c.next, true, c.guesses⟩
 else if 0 ≤ x.e.drop then ⟨applyFx c.s x.e, [], x.e.next, false, learn c.guesses x.pc x.e.next⟩
 else ⟨applyFx c.s x.e, c.rob.drop 1, c.next, c.stop, learn c.guesses x.pc x.e.next⟩
def commit (c : Cor) : Cor × Bool :=
 if corOk c = false then (noCor, false) else if c.rob = [] ∨ (c.rob.getD 0 noEnt).done = false ∨ c.s.trap ≠ 0 then (c, false) else (commitE c (c.rob.getD 0 noEnt), true)
def withS (c : Cor) (s : Stt) : Cor := ⟨s, c.rob, c.next, c.stop, c.guesses⟩
def corPick (l : List Ins) (c : Cor) (p : Pik) : Cor × Bool :=
 if corOk c = false then (noCor, false) else if p.kind = 1 then pull l c else if p.kind = 2 then do_ c p.n else if p.kind = 3 then commit c
 else if p.kind = 4 then (withS c (withMem c.s (sweep c.s.mem p.n)), inR p.n 0 23) else (c, false)
def noted (p : Pik) : List Int := if p.kind = 3 then [-1] else if p.kind = 4 then [p.n] else []
def corStep (l : List Ins) (x : Cor × List Int) (p : Pik) : Cor × List Int := ((corPick l x.1 p).1, x.2 ++ if (corPick l x.1 p).2 = true then noted p else [])
def corRun (l : List Ins) (s : Stt) (ps : List Pik) : Cor × List Int := if 600 < ps.length ∨ sttOk s = false then (noCor, []) else ps.foldl (corStep l) (corNew s, [])
def doAll : Nat → Nat → Cor → Cor
 | 0, _, c => c
 | n + 1, i, c => if i < c.rob.length then doAll n (i + 1) (do_ c i).1 else c
def settleGo : Nat → Cor → Int → Cor × Int
 | 0, c, k => (c, k)
 | n + 1, c, k => if c.rob = [] then (c, k) else settleGo n (commit (doAll 7 0 c)).1 (if (commit (doAll 7 0 c)).2 = true then k + 1 else k)
def settle (c : Cor) : Cor × Int := if corOk c = false then (noCor, 0) else settleGo 600 c 0
def judgeSame (l : List Ins) (s : Stt) (ps : List Pik) : Bool := sttOk s && decide (ps.length ≤ 600) && alike (corRun l s ps).1.s (run l s (corRun l s ps).2)
def heldE (x : Ent) : List Word := keysOf [x.pc, x.guess, x.e.val, x.e.next, x.e.put]
def held (c : Cor) : List Word := keys c.s ++ (c.rob.map heldE).flatten ++ keysOf [c.next]
def judgeGo (l : List Ins) (ks : List Word) : List Pik → Cor → Bool
 | [], _ => true
 | p :: ps, c => allUnder (held (corPick l c p).1) ks && judgeGo l ks ps (corPick l c p).1
def judgeKeys (l : List Ins) (s : Stt) (ps : List Pik) : Bool := sttOk s && decide (ps.length ≤ 600) && judgeGo l (keys s) ps (corNew s)
def judgeAll (l : List Ins) (s : Stt) (ps : List Pik) : Bool := judgeSame l s ps && judgeKeys l s ps
def ordGo (l : List Ins) : Nat → Stt → Int → Stt × Int
 | 0, s, k => (s, k)
 | n + 1, s, k => if s.trap = 0 then ordGo l n (step l s) (k + 1) else (s, k)
def inOrder (l : List Ins) (s : Stt) (n : Int) : Stt × Int := if sttOk s = false then (noStt, 0) else ordGo l (min n 600).toNat s 0
def pulls (l : List Ins) : Nat → Cor → Cor
 | 0, c => c
 | n + 1, c => pulls l n (pull l c).1
def outGo (l : List Ins) (w : Nat) : Nat → Cor → Int → Cor × Int
 | 0, c, k => (c, k)
 | n + 1, c, k => if c.s.trap = 0 then outGo l w n (settle (pulls l w c)).1 (k + (settle (pulls l w c)).2) else (c, k)
def outOrder (l : List Ins) (s : Stt) (w n : Int) : Stt × Int :=
 if sttOk s = false then (noStt, 0) else ((outGo l (if inR w 1 6 = true then w.toNat else 1) (min n 600).toNat (corNew s) 0).1.s, (outGo l (if inR w 1 6 = true then w.toNat else 1) (min n 600).toNat (corNew s) 0).2)
def agree (l : List Ins) (s : Stt) (w n : Int) : Bool := sttOk s && alike (outOrder l s w n).1 (ordGo l (outOrder l s w n).2.toNat s 0).1
def i64ok (n : Int) : Prop := (Lit.int .i64 n).wf = true
def Key.ok (k : Key) : Prop := i64ok k.base ∧ i64ok k.top ∧ i64ok k.perms ∧ i64ok k.lock
def Word.ok (w : Word) : Prop := i64ok w.n ∧ w.key.ok
end Go.Proofs.YtgpjgljgplngpaaGreatDoor.AM
namespace Go.Proofs.YtgpjgljgplngpaaGreatDoor.AM
open Go Go.ChangeShapes Go.WideShapes Go.ChangeAt Go.RowKit
section
variable {P : Program} {t e : TypeId}
end
end Go.Proofs.YtgpjgljgplngpaaGreatDoor.AM
