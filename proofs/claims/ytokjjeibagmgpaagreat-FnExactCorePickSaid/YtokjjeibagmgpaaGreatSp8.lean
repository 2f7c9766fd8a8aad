/- Rows laid behind each other, and filtered. No conditions. -/
import Derived.Test.YtokjjeibagmgpaaGreatSp7
set_option linter.unusedVariables false
set_option linter.unusedSimpArgs false
namespace Go.Proofs.YtokjjeibagmgpaaGreat.AM
open Go

def slW (xs : List Word) : AV := .sl xs.length xs.length (rows xs)
section
variable {L : List (List Word)} {i : Nat}
theorem slW_len : (L.map slW).length = L.length := by simp
theorem slW_at (h : i < L.length) : ((L.map slW).drop i).head? = some (slW (L.getD i [])) := by
  rw [List.head?_drop]
  simp [h]
theorem slW_take : (L.map slW).take L.length = L.map slW := by rw [← slW_len, List.take_length]
theorem bor_slW {Hb : Heap} {inv : Nat → Option Nat} {n : Nat} : (L.map slW).map (bor Hb inv (n + 2)) = L.map slW := by
  rw [List.map_map]
  refine List.map_congr_left fun xs _ => ?_
  show bor Hb inv (n + 2) (.sl xs.length xs.length (rows xs)) = _
  rw [bor_sl, bor_rows]
  rfl
theorem take_flat (h : i < L.length) : (L.take (i + 1)).flatten = (L.take i).flatten ++ L.getD i [] := by
  have : L.take (i + 1) = L.take i ++ [L.getD i []] := by rw [List.take_add_one]; simp [h]
  rw [this, List.flatten_append]
  simp
theorem take_flat_le : (L.take i).flatten.length ≤ L.flatten.length := by
  conv => rhs; rw [← List.take_append_drop i L]
  rw [List.flatten_append, List.length_append]
  omega
theorem getD_flat_le (h : i < L.length) : (L.getD i []).length ≤ L.flatten.length := by
  have := take_flat_le (L := L) (i := i + 1)
  rw [take_flat h, List.length_append] at this
  omega
end
/-- What is left of a row, if the rest is taken out. -/
def kept (p : Word → Bool) (xs : List Word) : List Word := xs.filter fun w => !p w
theorem kept_all {p : Word → Bool} {xs : List Word} (h : xs.any p = false) : kept p xs = xs := by
  rw [kept, List.filter_eq_self]
  intro a ha
  have := List.any_eq_false.1 h a ha
  simpa using this
theorem kept_len {p : Word → Bool} {xs : List Word} : (kept p xs).length ≤ xs.length := List.length_filter_le _ _
theorem kept_take {p : Word → Bool} {xs : List Word} {j : Nat} (h : j < xs.length) : kept p (xs.take (j + 1)) = kept p (xs.take j) ++ (if p (xs.getD j noWord) = true then [] else [xs.getD j noWord]) := by
  have : xs.take (j + 1) = xs.take j ++ [xs.getD j noWord] := by rw [List.take_add_one]; simp [h]
  rw [this, kept, List.filter_append]
  congr 1
  by_cases hp : p (xs.getD j noWord) = true
  · rw [if_pos hp]; simp only [List.filter_cons, hp]; rfl
  · rw [if_neg hp]; simp only [List.filter_cons, Bool.not_eq_true _ ▸ hp]; rfl
theorem firstAt_nat {α : Type} {p : α → Bool} {d : α} : ∀ (xs : List α) (k : Nat), firstAt p xs k = -1 ∧ xs.any p = false ∨ ∃ m : Nat, firstAt p xs k = ((k + m : Nat) : Int) ∧ m < xs.length ∧ (xs.take m).any p = false ∧ p (xs.getD m d) = true
  | [], k => Or.inl ⟨rfl, rfl⟩
  | x :: xs, k => by
    rw [firstAt]
    by_cases hx : p x = true
    · rw [if_pos hx]
      exact Or.inr ⟨0, by simp, by simp, rfl, hx⟩
    · rw [if_neg hx]
      rcases firstAt_nat (d := d) xs (k + 1) with ⟨a, b⟩ | ⟨m, a, b, c, e⟩
      · exact Or.inl ⟨a, by simp [hx, b]⟩
      · refine Or.inr ⟨m + 1, by rw [a]; congr 1; omega, by simpa using b, ?_, by simpa using e⟩
        simp [hx, c]
theorem rows_putMany {xs ys : List Word} {i : Nat} (h : i + ys.length ≤ xs.length) : putAt (rows xs) (i * 6) (rows ys) = rows (xs.take i ++ ys ++ xs.drop (i + ys.length)) := by
  have h1 : rows xs = rows (xs.take i) ++ rows (xs.drop i) := by rw [← rows_append, List.take_append_drop]
  have h2 : (rows (xs.take i)).length = i * 6 := by rw [words_len, List.length_take, Nat.min_eq_left (by omega)]
  have h3 : rows (xs.drop i) = rows ((xs.drop i).take ys.length) ++ rows (xs.drop (i + ys.length)) := by
    rw [← rows_append, ← List.drop_drop, List.take_append_drop]
  have h4 : (rows ((xs.drop i).take ys.length)).length = (rows ys).length := by
    rw [words_len, words_len, List.length_take, List.length_drop, Nat.min_eq_left (by omega)]
  rw [h1, putAt_app0 h2, h3, putAt_self h4, rows_append, rows_append, List.append_assoc]
theorem sealer_eq (w : Word) : sealer w = (opened w && !decide (bitop .and .i64 w.key.perms 32 = 0) && decide (w.key.base ≤ w.n) && decide (w.n < w.key.top) && inR w.n 1 7) := by
  have : decide (band w.key.perms 32 ≠ 0) = !decide (bitop .and .i64 w.key.perms 32 = 0) := decide_not (p := band w.key.perms 32 = 0)
  rw [sealer, this]
/-- Is a part of an entry known, as the program asks it. -/
def knownB (c : Cor) (i p : Int) : Bool := !hasI (c.rob.getD i.toNat noEnt).x.op p || (value c i (partI (c.rob.getD i.toNat noEnt).x p)).2
section
variable {c : Cor} {i : Int}
theorem known_AB (h : corOk c = true) (hi : inR i 0 (c.rob.length - 1) = true) :
    knownB c i 65 = (!hasA (c.rob.getD i.toNat noEnt).x.op || (valueRaw c i (c.rob.getD i.toNat noEnt).x.a).2) ∧ knownB c i 66 = (!hasB (c.rob.getD i.toNat noEnt).x.op || (valueRaw c i (c.rob.getD i.toNat noEnt).x.b).2) := by
  have hi2 := inR_iff.1 hi
  have hk := ent_regs h (show i.toNat < c.rob.length by omega)
  have e1 : partI (c.rob.getD i.toNat noEnt).x 65 = (c.rob.getD i.toNat noEnt).x.a := rfl
  have e2 : partI (c.rob.getD i.toNat noEnt).x 66 = (c.rob.getD i.toNat noEnt).x.b := rfl
  rw [knownB, knownB, (hasI_eq _).2.1, (hasI_eq _).2.2.1, e1, e2, value_ok h hk.2.1, value_ok h hk.2.2]
  exact ⟨rfl, rfl⟩
theorem ready_is (h : (((corOk c = true ∧ inR i 0 (c.rob.length - 1) = true) ∧ (c.rob.getD i.toNat noEnt).done = false) ∧ knownB c i 65 = true) ∧ knownB c i 66 = true) : ready c i = (!decide ((c.rob.getD i.toNat noEnt).x.op = 10) || !(c.rob.take i.toNat).any waits) := by
  obtain ⟨⟨⟨⟨a, b⟩, d⟩, e⟩, f⟩ := h
  rw [(known_AB a b).1] at e
  rw [(known_AB a b).2] at f
  rw [ready_eq ⟨a, b, d⟩, e, f, Bool.true_and, Bool.true_and]
theorem ready_not (h : (((corOk c = false ∨ inR i 0 (c.rob.length - 1) = false) ∨ (c.rob.getD i.toNat noEnt).done = true) ∨ knownB c i 65 = false) ∨ knownB c i 66 = false) : ready c i = false := by
  by_cases h0 : corOk c = true ∧ inR i 0 (c.rob.length - 1) = true ∧ (c.rob.getD i.toNat noEnt).done = false
  · obtain ⟨a, b, d⟩ := h0
    rw [ready_eq ⟨a, b, d⟩, ← (known_AB a b).1, ← (known_AB a b).2]
    rcases h with (((h | h) | h) | h) | h
    · rw [a] at h; cases h
    · rw [b] at h; cases h
    · rw [d] at h; cases h
    · rw [h]; simp only [Bool.false_and]
    · rw [h]; simp only [Bool.false_and, Bool.and_false]
  · exact ready_no h0
end
theorem hasA_of {op : Int} (h : ¬ bitop .and .i64 (has op) 2 = 0) : hasA op = true := by
  unfold hasA
  rw [decide_eq_false (show ¬ band (has op) 2 = 0 from h)]
  rfl
theorem hasB_of {op : Int} (h : ¬ bitop .and .i64 (has op) 4 = 0) : hasB op = true := by
  unfold hasB
  rw [decide_eq_false (show ¬ band (has op) 4 = 0 from h)]
  rfl
theorem hasA_no {op : Int} (h : bitop .and .i64 (has op) 2 = 0) : hasA op = false := by
  unfold hasA
  rw [decide_eq_true (show band (has op) 2 = 0 from h)]
  rfl
theorem hasB_no {op : Int} (h : bitop .and .i64 (has op) 4 = 0) : hasB op = false := by
  unfold hasB
  rw [decide_eq_true (show band (has op) 4 = 0 from h)]
  rfl
theorem ready_fin {op : Int} {u v : Bool} (h : (bitop .and .i64 (has op) 2 = 0 ∨ u = true) ∧ (bitop .and .i64 (has op) 4 = 0 ∨ v = true)) : ((!hasA op || u) && (!hasB op || v)) = true := by
  obtain ⟨h1, h2⟩ := h
  have e1 : (!hasA op || u) = true := by
    rcases h1 with h | h
    · rw [hasA_no h]; rfl
    · rw [h, Bool.or_true]
  have e2 : (!hasB op || v) = true := by
    rcases h2 with h | h
    · rw [hasB_no h]; rfl
    · rw [h, Bool.or_true]
  rw [e1, e2]
  rfl
theorem ready_third {p : Prop} [Decidable p] {b : Bool} (h : p → b = false) : (!decide p || !b) = true := by
  by_cases hp : p
  · rw [h hp, Bool.not_false, Bool.or_true]
  · rw [decide_eq_false hp]; rfl
theorem puts_no {a : Int} {x : Ent} (h : ((¬ x.x.op = 11 ∨ x.done = false) ∨ ¬ x.e.trap = 0) ∨ ¬ x.e.adr = a) : ¬ puts a x = true := by
  simp only [puts, Bool.and_eq_true, decide_eq_true_eq]
  rintro ⟨⟨⟨b, d⟩, e⟩, f⟩
  rcases h with ((h | h) | h) | h
  · exact h b
  · rw [d] at h; cases h
  · exact h e
  · exact h f
/-! ### keys of a state -/
theorem firstAt_none {α : Type} {p : α → Bool} {xs : List α} (h : firstAt p xs 0 = -1) : xs.any p = false := by
  have := firstAt_neg (p := p) xs 0
  cases hb : xs.any p
  · rfl
  · have := this.2 hb; omega
theorem firstAt_some {α : Type} {p : α → Bool} {d : α} {xs : List α} (h : ¬ firstAt p xs 0 = -1) : ∃ m : Nat, firstAt p xs 0 = (m : Int) ∧ m < xs.length ∧ (xs.take m).any p = false ∧ p (xs.getD m d) = true := by
  rcases firstAt_nat (p := p) (d := d) xs 0 with ⟨a, _⟩ | ⟨m, a, b, c, e⟩
  · exact absurd a h
  · exact ⟨m, by simpa using a, b, c, e⟩
theorem take_set_succ {ys : List Word} {i : Nat} {v : Word} (h : i < ys.length) : (ys.set i v).take (i + 1) = ys.take i ++ [v] := by
  rw [List.take_add_one, List.take_set_of_le (Nat.le_refl _)]
  simp [h]
theorem drop_set_lt {ys : List Word} {i j : Nat} {v : Word} (h : i < j) : (ys.set i v).drop j = ys.drop j := by
  rw [List.drop_set]
  rw [if_pos h]
theorem drop_succ_of {ys xs : List Word} {j : Nat} (h : ys.drop j = xs.drop j) : ys.drop (j + 1) = xs.drop (j + 1) := by
  rw [← List.drop_drop, h, List.drop_drop]
theorem getD_of_drop {ys xs : List Word} {j : Nat} (h : ys.drop j = xs.drop j) : ys.getD j noWord = xs.getD j noWord := by
  have a : ys[j]? = (ys.drop j)[0]? := by simp
  have b : xs[j]? = (xs.drop j)[0]? := by simp
  rw [List.getD_eq_getElem?_getD, List.getD_eq_getElem?_getD, a, b, h]
theorem kept_keys {xs : List Word} : kept (fun w => !w.is) xs = keysOf xs := by simp [kept, keysOf]
theorem take_len_of {ys k : List Word} {i : Nat} (h : ys.take i = k) (hi : i ≤ ys.length) : k.length = i := by rw [← h, List.length_take]; omega
theorem words_atO {xs : List Word} {i o : Nat} (h : i < xs.length) : (rows xs).drop (i * 6 + o) = (Word.cells (xs.getD i noWord) ++ rows (xs.drop (i + 1))).drop o := by rw [← List.drop_drop, words_at h]
theorem ents_atO {xs : List Ent} {i o : Nat} (h : i < xs.length) : (rows xs).drop (i * 40 + o) = (Ent.cells (xs.getD i noEnt) ++ rows (xs.drop (i + 1))).drop o := by rw [← List.drop_drop, ents_at h]
theorem words_takeN {xs : List Word} {n : Nat} : (rows xs).take (n * 6) = rows (xs.take n) := rows_take (α := Word) (i := n)
theorem words_snoc {xs : List Word} {w : Word} : rows xs ++ [.int .i64 w.n, .bool w.is, .int .i64 w.key.base, .int .i64 w.key.top, .int .i64 w.key.perms, .int .i64 w.key.lock] = rows (xs ++ [w]) := by
  rw [rows_append, rows_one]; rfl
theorem rows_app2 {xs ys : List Word} : rows xs ++ rows ys = rows (xs ++ ys) := rows_append.symm
theorem words_takeL {xs : List Word} {n : Nat} (h : n = xs.length) : (rows xs).take (n * 6) = rows xs := by rw [h]; exact words_take
theorem keys_eq {s : Stt} : keys s = keysOf (s.regs ++ s.pc :: s.mem.words) := by simp [keys]
theorem keysOf_snoc {A : List Word} {i : Nat} (h : i < A.length) : keysOf (A.take (i + 1)) = keysOf (A.take i) ++ (if (A.getD i noWord).is = true then [A.getD i noWord] else []) := by
  have : A.take (i + 1) = A.take i ++ [A.getD i noWord] := by rw [List.take_add_one]; simp [h]
  rw [this, keysOf, List.filter_append]
  congr 1
  by_cases hp : (A.getD i noWord).is = true
  · rw [if_pos hp]; simp only [List.filter_cons, hp]; rfl
  · rw [if_neg hp]; simp only [List.filter_cons, Bool.not_eq_true _ ▸ hp]; rfl
theorem keysOf_len {A : List Word} : (keysOf A).length ≤ A.length := List.length_filter_le _ _
theorem keysOf_take_len {A : List Word} {i : Nat} : (keysOf (A.take i)).length ≤ A.length := Nat.le_trans keysOf_len (by rw [List.length_take]; omega)
end Go.Proofs.YtokjjeibagmgpaaGreat.AM
