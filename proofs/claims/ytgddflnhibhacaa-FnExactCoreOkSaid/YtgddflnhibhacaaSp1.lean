/- What the program's functions come to, said plainly: bounds, texts, small lists. No conditions. -/
import Derived.Test.YtgddflnhibhacaaAm20
import Derived.IntWalk
set_option linter.unusedVariables false
set_option linter.unusedSimpArgs false
namespace Go.Proofs.Ytgddflnhibhacaa.AM
open Go

/-- No wrap-around. -/
theorem wrap64 {x : Int} (h : -9223372036854775808 ≤ x ∧ x ≤ 9223372036854775807) : IntKind.i64.wrap x = x := IntWalk.i64_in x h

def inR (a b c : Int) : Bool := decide (b ≤ a) && decide (a ≤ c)
theorem inR_iff {a b c : Int} : inR a b c = true ↔ b ≤ a ∧ a ≤ c := by simp [inR]
def traps : List ByteArray := [⟨#[110, 111, 110, 101]⟩, ⟨#[107, 101, 121]⟩, ⟨#[115, 101, 97, 108]⟩, ⟨#[112, 101, 114, 109]⟩, ⟨#[98, 111, 117, 110, 100]⟩, ⟨#[115, 116, 111, 112]⟩]
def trapText (a : Int) : ByteArray := if inR a 0 5 = true then traps.getD a.toNat ⟨#[]⟩ else ⟨#[]⟩
theorem trap_row {a : Int} (h : 0 ≤ a ∧ a < 6) : (List.drop a.toNat [AV.str ⟨#[110, 111, 110, 101]⟩, .str ⟨#[107, 101, 121]⟩, .str ⟨#[115, 101, 97, 108]⟩, .str ⟨#[112, 101, 114, 109]⟩, .str ⟨#[98, 111, 117, 110, 100]⟩, .str ⟨#[115, 116, 111, 112]⟩]).head? = some (.str (traps.getD a.toNat ⟨#[]⟩)) := by
  obtain ⟨n, rfl⟩ := Int.eq_ofNat_of_zero_le h.1
  have hn : n < 6 := by omega
  rw [Int.toNat_natCast]
  match n, hn with
  | 0, _ => rfl
  | 1, _ => rfl
  | 2, _ => rfl
  | 3, _ => rfl
  | 4, _ => rfl
  | 5, _ => rfl

/-- A row of numbers. -/
def ints (xs : List Int) : List AV := xs.map (.int .i64)
theorem ints_len {xs : List Int} : (ints xs).length = xs.length := by simp [ints]
theorem ints_at {xs : List Int} {i : Nat} (h : i < xs.length) : ((ints xs).drop i).head? = some (.int .i64 (xs.getD i 0)) := by
  rw [List.head?_drop]
  simp [ints, h]
theorem ints_take {xs : List Int} : (ints xs).take xs.length = ints xs := by
  rw [← ints_len, List.take_length]
theorem bor_ints {Hb : Heap} {inv : Nat → Option Nat} {n : Nat} {xs : List Int} : (ints xs).map (bor Hb inv (n + 1)) = ints xs := by
  simp [ints, bor]
theorem zero_ints {n : Nat} : (List.replicate n [AV.int .i64 0]).flatten = ints (List.replicate n 0) := by
  induction n with
  | zero => rfl
  | succ n ih => rw [List.replicate_succ, List.flatten_cons, ih]; rfl
theorem put_ints {xs : List Int} {i : Nat} {x : Int} (h : i < xs.length) : putAt (ints xs) i [.int .i64 x] = ints (xs.set i x) := by
  unfold putAt ints
  rw [List.map_set, List.set_eq_take_append_cons_drop, if_pos (by simpa using h)]
  simp
theorem set_take {α : Type} {xs : List α} {i : Nat} {d x : α} (h : i < xs.length) (hx : x = xs.getD i d) : (xs.take i ++ List.replicate (xs.length - i) d).set i x = xs.take (i + 1) ++ List.replicate (xs.length - (i + 1)) d := by
  have hl : (xs.take i).length = i := by rw [List.length_take]; omega
  have ht : xs.take (i + 1) = xs.take i ++ [xs[i]] := by simp
  rw [List.set_append_right _ _ (by omega), hl, Nat.sub_self, ht, show xs.length - i = (xs.length - (i + 1)) + 1 by omega, List.replicate_succ, List.set_cons_zero, hx]
  simp only [List.append_assoc, List.singleton_append, List.getD_eq_getElem?_getD, List.getElem?_eq_getElem h, Option.getD_some]
theorem ints_flat (xs : List Int) : (xs.map fun n => [AV.int .i64 n]).flatten = ints xs := by
  induction xs with
  | nil => rfl
  | cons x xs ih => rw [List.map_cons, List.flatten_cons, ih]; rfl
theorem sh_ints {mm : Nat → Nat} {xs : List Int} : shL mm (ints xs) = ints xs := by
  induction xs with
  | nil => rfl
  | cons x xs ih =>
    show sh mm (.int .i64 x) :: shL mm (ints xs) = _
    rw [ih]
    rfl
theorem noS_ints {xs : List Int} : noSL (ints xs) = true := by
  induction xs with
  | nil => rfl
  | cons x xs ih =>
    show (noS (.int .i64 x) && noSL (ints xs)) = true
    rw [ih]
    rfl
def guessOk (xs : List Int) : Bool := decide (xs.length = 48) && xs.all (fun x => inR x (-1) 65535)
theorem all_take_succ {α : Type} {p : α → Bool} {xs : List α} {i : Nat} {d : α} (hi : i < xs.length) (h : (xs.take i).all p = true) (hp : p (xs.getD i d) = true) : (xs.take (i + 1)).all p = true := by
  rw [List.take_add_one, List.all_append, h]
  simp [hi] at hp ⊢
  exact hp
theorem all_false_of {α : Type} {p : α → Bool} {xs : List α} {i : Nat} {d : α} (hi : i < xs.length) (hp : p (xs.getD i d) = false) : xs.all p = false := by
  rw [List.all_eq_false]
  refine ⟨xs[i], List.getElem_mem hi, ?_⟩
  simp [hi] at hp
  simp [hp]
theorem all_of_take {α : Type} {p : α → Bool} {xs : List α} {i : Nat} (hi : xs.length ≤ i) (h : (xs.take i).all p = true) : xs.all p = true := by
  rwa [List.take_of_length_le hi] at h
theorem take_succ_eq {α : Type} {xs ys : List α} {i : Nat} {d : α} (hx : i < xs.length) (hy : i < ys.length) (h : xs.take i = ys.take i) (he : xs.getD i d = ys.getD i d) : xs.take (i + 1) = ys.take (i + 1) := by
  simp only [List.getD_eq_getElem?_getD, List.getElem?_eq_getElem hx, List.getElem?_eq_getElem hy, Option.getD_some] at he
  have h1 : xs.take (i + 1) = xs.take i ++ [xs[i]] := by simp
  have h2 : ys.take (i + 1) = ys.take i ++ [ys[i]] := by simp
  rw [h1, h2, h, he]
theorem eq_of_take {α : Type} {xs ys : List α} {i : Nat} (hx : xs.length ≤ i) (hy : ys.length ≤ i) (h : xs.take i = ys.take i) : xs = ys := by
  rwa [List.take_of_length_le hx, List.take_of_length_le hy] at h
/-- Where the first is found that is so. -/
def firstAt {α : Type} (p : α → Bool) : List α → Nat → Int
  | [], _ => -1
  | x :: xs, i => if p x = true then (i : Int) else firstAt p xs (i + 1)
theorem firstAt_neg {α : Type} {p : α → Bool} : ∀ (xs : List α) (i : Nat), 0 ≤ firstAt p xs i ↔ xs.any p = true
  | [], i => by simp [firstAt]
  | x :: xs, i => by
    simp only [firstAt, List.any_cons]
    by_cases h : p x = true
    · simp [h]
    · simp only [h, if_false, Bool.false_or]
      simpa using firstAt_neg xs (i + 1)
theorem firstAt_drop {α : Type} {p : α → Bool} {d : α} : ∀ (xs : List α) (i k : Nat), i < xs.length → firstAt p (xs.drop i) (k + i) = if p (xs.getD i d) = true then ((k + i : Nat) : Int) else firstAt p (xs.drop (i + 1)) (k + i + 1)
  | xs, i, k, h => by
    rw [List.drop_eq_getElem_cons h]
    simp only [firstAt, List.getD_eq_getElem?_getD, List.getElem?_eq_getElem h, Option.getD_some]
theorem ite_min {a b : Int} : (if a < b then a else b) = min a b := by split <;> omega
theorem ite_max {a b : Int} : (if a < b then b else a) = max a b := by split <;> omega
attribute [go_sem] ite_min ite_max sh_ints noS_ints zero_ints put_ints ints_at ints_len ints_take bor_ints
end Go.Proofs.Ytgddflnhibhacaa.AM
