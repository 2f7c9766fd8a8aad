/- What the program's functions come to, by what happens. No conditions. -/
import Derived.Test.YtgpjgljgplngpaaGreatDoorM4
set_option linter.unusedVariables false
set_option linter.unusedSimpArgs false
namespace Go.Proofs.YtgpjgljgplngpaaGreatDoor.AM
open Go
section
variable {α : Type} {p : α → Bool} {d : α} {xs : List α} {k n : Nat}
theorem lastAt_lt : ∀ k : Nat, -1 ≤ lastAt p d xs k ∧ lastAt p d xs k < k
 | 0 => by simp [lastAt]
 | k + 1 => by
  have := lastAt_lt k
  rw [lastAt]
  split <;> omega
theorem lastAt_hit (h : p (xs.getD k d) = true) : lastAt p d xs (k + 1) = (k : Int) := by rw [lastAt, if_pos h]
theorem lastAt_miss (h : ¬ p (xs.getD k d) = true) : lastAt p d xs (k + 1) = lastAt p d xs k := by rw [lastAt, if_neg h]
end
theorem upTo_le (i : Int) (n : Nat) : upTo i n ≤ n := by unfold upTo; omega
theorem source_lt (rob : List Ent) (i r : Int) : -1 ≤ source rob i r ∧ source rob i r < rob.length := by
 unfold source
 split
 ·omega
 ·have := lastAt_lt (p := fun x => decide (setBy x = r)) (d := noEnt) (xs := rob) (upTo i rob.length)
  have := upTo_le i rob.length
  omega
theorem source_nat {rob : List Ent} {i r : Int} (h : ¬ source rob i r < 0) : ∃ m : Nat, source rob i r = (m : Int) ∧ m < rob.length := by
 obtain ⟨m, hm⟩ := Int.eq_ofNat_of_zero_le (Int.not_lt.1 h)
 have := (source_lt rob i r).2
 exact ⟨m, hm, by omega⟩
theorem source_neg {rob : List Ent} {i r : Int} (h : r < 0 ∨ i < 0) : source rob i r = -1 := by
 unfold source
 split
 ·rfl
 ·rw [show upTo i rob.length = 0 by unfold upTo; omega]; rfl
theorem corOk_parts {c : Cor} (h : corOk c = true) : c.rob.all entOk = true ∧ sttOk c.s = true ∧ c.rob.length ≤ 6 ∧ wordOk c.next = true ∧ guessOk c.guesses = true := by
 simp only [corOk, Bool.and_eq_true, decide_eq_true_eq] at h
 exact ⟨h.1.1.1.1, h.1.1.1.2, h.1.1.2, h.1.2, h.2⟩
theorem sttOk_parts {s : Stt} (h : sttOk s = true) : s.regs.all wordOk = true ∧ s.regs.length = 8 ∧ wordOk s.pc = true ∧ memOk s.mem = true ∧ inR s.trap 0 5 = true := by
 simp only [sttOk, Bool.and_eq_true, decide_eq_true_eq] at h
 exact ⟨h.1.1.1.1, h.1.1.1.2, h.1.1.2, h.1.2, h.2⟩
theorem memOk_parts {m : Mem} (h : memOk m = true) : m.words.length = 24 ∧ m.gone.length = 24 ∧ m.words.all wordOk = true := by
 simp only [memOk, Bool.and_eq_true, decide_eq_true_eq] at h
 exact ⟨h.1.1, h.1.2, h.2⟩
theorem corOk_reg {c : Cor} {r : Int} (h : corOk c = true) (hr : inR r 0 7 = true) : 0 ≤ r ∧ r < c.s.regs.length := by
 have := (sttOk_parts (corOk_parts h).2.1).2.1
 have := inR_iff.1 hr
 omega
theorem value_ok {c : Cor} {i r : Int} (h : corOk c = true) (hr : inR r 0 7 = true) : value c i r = valueRaw c i r := by rw [value, if_pos ⟨hr, h⟩]
theorem value_no {c : Cor} {i r : Int} (h : ¬ (inR r 0 7 = true ∧ corOk c = true)) : value c i r = (noWord, false) := by rw [value, if_neg h]
theorem raw_reg {c : Cor} {i r : Int} (h : source c.rob i r < 0) : valueRaw c i r = (reg c.s r, true) := by rw [valueRaw, if_pos h]
theorem raw_wait {c : Cor} {i r : Int} {m : Nat} (h : source c.rob i r = m) (hd : (c.rob.getD m noEnt).done = false) : valueRaw c i r = (noWord, false) := by rw [valueRaw, if_neg (by omega), h, Int.toNat_natCast, if_pos hd]
theorem raw_done {c : Cor} {i r : Int} {m : Nat} (h : source c.rob i r = m) (hd : (c.rob.getD m noEnt).done = true) : valueRaw c i r = ((c.rob.getD m noEnt).e.val, true) := by rw [valueRaw, if_neg (by omega), h, Int.toNat_natCast, if_neg (by rw [hd]; exact Bool.noConfusion)]
theorem ent_ok {c : Cor} {m : Nat} (h : corOk c = true) (hm : m < c.rob.length) : entOk (c.rob.getD m noEnt) = true := by
 have := List.all_eq_true.1 (corOk_parts h).1 (c.rob[m]) (List.getElem_mem hm)
 simpa [hm] using this
theorem ins_reg {x : Ins} (h : (insOk x || decide (x = noIns)) = true) : inR x.r 0 7 = true ∧ inR x.a 0 7 = true ∧ inR x.b 0 7 = true := by
 rcases Bool.or_eq_true_iff.1 h with h | h
 ·simp only [insOk, fieldOk, Bool.and_eq_true] at h
  exact ⟨h.1.1.1.1.2.1, h.1.1.1.2.1, h.1.1.2.1⟩
 ·obtain rfl := of_decide_eq_true h
  exact ⟨rfl, rfl, rfl⟩
theorem entOk_parts {x : Ent} (h : entOk x = true) : wordOk x.pc = true ∧ wordOk x.guess = true ∧ wordOk x.e.val = true ∧ wordOk x.e.next = true ∧ wordOk x.e.put = true ∧ (insOk x.x || decide (x.x = noIns)) = true ∧ inR x.e.trap 0 5 = true ∧ inR x.e.r (-1) 7 = true ∧ x.e.drop ≤ 4096 := by
 simp only [entOk, Bool.and_eq_true, decide_eq_true_eq] at h
 obtain ⟨⟨⟨⟨⟨⟨⟨⟨a, b⟩, c⟩, d⟩, e⟩, f⟩, g⟩, i⟩, j⟩ := h
 exact ⟨a, b, c, d, e, f, g, i, j⟩
section
variable {α : Type} {p : α → Bool} {xs : List α} {d : α} {k n : Nat}
theorem any_at (h : k < n) (hk : k < xs.length) (hp : p (xs.getD k d) = true) : (xs.take n).any p = true := by
 rw [List.any_eq_true]
 refine ⟨xs[k], ?_, by simpa [hk] using hp⟩
 rw [List.mem_take_iff_getElem]
 exact ⟨k, by omega, rfl⟩
theorem any_take_succ (hk : k < xs.length) (h : (xs.take k).any p = false) (hp : p (xs.getD k d) = false) : (xs.take (k + 1)).any p = false := by
 rw [List.take_add_one, List.any_append, h]
 simpa [hk] using hp
end
theorem ents_takeN {xs : List Ent} {n : Nat} : (rows xs).take (n * 40) = rows (xs.take n) := rows_take (α := Ent) (i := n)
theorem read_in {m : Mem} {by_ : Word} {n : Int} (h : readT m by_ n = 0) : inR n 0 (m.words.length - 1) = true := by
 unfold readT at h
 split at h
 ·split at h
  ·assumption
  ·omega
 ·omega
theorem read_no {m : Mem} {by_ : Word} {n : Int} (h : ¬ readT m by_ n = 0) : read m by_ n = (noWord, readT m by_ n) := by rw [read, if_neg h]
theorem read_ok {m : Mem} {by_ : Word} {n : Int} (h : readT m by_ n = 0) : read m by_ n = (filt m (taken by_ (m.words.getD n.toNat noWord)), 0) := by rw [read, if_pos h]
theorem read_fst {m : Mem} {by_ : Word} {n : Int} (h : (read m by_ n).2 ≠ 0) : (read m by_ n).1 = noWord := by
 unfold read at *
 split at h
 ·exact absurd rfl h
 ·rename_i h1
  rw [if_neg h1]
theorem found_no {c : Cor} {i n : Int} {by_ : Word} (h : (read c.s.mem by_ n).2 ≠ 0) : found c i by_ n = (noWord, (read c.s.mem by_ n).2) := by rw [found, if_pos h]
theorem found_hit {c : Cor} {i n : Int} {by_ : Word} {q : Nat} (h : ¬ (read c.s.mem by_ n).2 ≠ 0) (hl : lastAt (puts n) noEnt c.rob (upTo i c.rob.length) = (q : Int)) : found c i by_ n = (filt c.s.mem (taken by_ (c.rob.getD q noEnt).e.put), 0) := by
 rw [found, if_neg h, if_neg (by omega), hl, Int.toNat_natCast]
theorem found_miss {c : Cor} {i n : Int} {by_ : Word} (h : ¬ (read c.s.mem by_ n).2 ≠ 0) (hl : lastAt (puts n) noEnt c.rob (upTo i c.rob.length) = -1) : found c i by_ n = ((read c.s.mem by_ n).1, 0) := by
 rw [found, if_neg h, if_pos (by omega)]
 exact Prod.ext rfl (Classical.not_not.1 h)
def entAt (c : Cor) (i : Int) : Ent := c.rob.getD i.toNat noEnt
theorem ready_no {c : Cor} {i : Int} (h : ¬ (corOk c = true ∧ inR i 0 (c.rob.length - 1) = true ∧ (c.rob.getD i.toNat noEnt).done = false)) : ready c i = false := by
 rw [← Bool.not_eq_true]
 intro hr
 simp only [ready, Bool.and_eq_true, Bool.not_eq_true'] at hr
 exact h ⟨hr.1.1.1.1.1, hr.1.1.1.1.2, hr.1.1.1.2⟩
theorem ready_eq {c : Cor} {i : Int} (h : corOk c = true ∧ inR i 0 (c.rob.length - 1) = true ∧ (c.rob.getD i.toNat noEnt).done = false) : ready c i =
 ((!hasA (c.rob.getD i.toNat noEnt).x.op || (valueRaw c i (c.rob.getD i.toNat noEnt).x.a).2) && (!hasB (c.rob.getD i.toNat noEnt).x.op || (valueRaw c i (c.rob.getD i.toNat noEnt).x.b).2) &&
  (!decide ((c.rob.getD i.toNat noEnt).x.op = 10) || !(c.rob.take i.toNat).any waits)) := by
 rw [ready, h.1, h.2.1, h.2.2]
 simp only [Bool.not_false, Bool.true_and]
theorem ent_regs {c : Cor} {i : Int} (h : corOk c = true) (hi : i.toNat < c.rob.length) : inR (c.rob.getD i.toNat noEnt).x.r 0 7 = true ∧ inR (c.rob.getD i.toNat noEnt).x.a 0 7 = true ∧ inR (c.rob.getD i.toNat noEnt).x.b 0 7 = true :=
 ins_reg (entOk_parts (ent_ok h hi)).2.2.2.2.2.1
def mk3 (t : Int) : Bool := decide (t.tmod 3 = 0)
def markW (t : Int) : Word := ⟨t, mk3 (t + 1), ⟨t + 2, t + 3, t + 4, t + 5⟩⟩
def markI (t : Int) : Ins := ⟨t, t + 1, t + 2, t + 3, t + 4⟩
def markF (t : Int) : Fx := ⟨t, t + 1, markW (t + 2), markW (t + 8), t + 14, markW (t + 15), t + 21⟩
def markE (t : Int) : Ent := ⟨markW t, markI (t + 6), mk3 (t + 11), markF (t + 12), markW (t + 34)⟩
def mrow {α : Type} (f : Int → α) (s : Nat) (t : Int) (n : Nat) : List α := (List.range n).map fun i : Nat => f (t + (s * i : Nat))
section
variable {α : Type} {f : Int → α} {s n i : Nat} {t : Int} {d : α}
theorem mrow_len : (mrow f s t n).length = n := by simp [mrow]
end
theorem rows_split {α : Type} [Enc α] {xs : List α} {i : Nat} (h : i < xs.length) : rows (xs.drop i) = Enc.cells (xs.getD i Enc.dflt) ++ rows (xs.drop (i + 1)) := by
 rw [← rows_drop, rows_at h]
section
variable {α : Type} [Enc α] {f : Int → α} {s n o o1 o2 o3 o4 : Nat} {t : Int} {B cs : List AV}
end
section
variable {s n o o1 o2 o3 : Nat} {t : Int} {B cs : List AV}
end
def Mem.marked (m : Mem) (t : Int) : Mem := ⟨mrow markW 6 t m.words.length, mrow mk3 1 (t + (6 * m.words.length : Nat)) m.gone.length⟩
def Mem.cost (m : Mem) : Nat := 6 * m.words.length + m.gone.length
def Stt.marked (s : Stt) (t : Int) : Stt := ⟨mrow markW 6 t s.regs.length, s.pc, s.mem.marked (t + (6 * s.regs.length : Nat)), s.trap⟩
def Stt.cost (s : Stt) : Nat := 6 * s.regs.length + s.mem.cost
def Cor.marked (c : Cor) (t : Int) : Cor := ⟨c.s.marked t, mrow markE 40 (t + c.s.cost) c.rob.length, c.next, c.stop, marks (t + c.s.cost + (40 * c.rob.length : Nat)) c.guesses.length⟩
def Cor.cost (c : Cor) : Nat := c.s.cost + 40 * c.rob.length + c.guesses.length
theorem Mem.cost_le {m : Mem} (h : m.fit) : m.cost ≤ 8388608 := by have := h.1; have := h.2; unfold Mem.cost; omega
theorem Stt.cost_le {s : Stt} (h : s.fit) : s.cost ≤ 16777216 := by have := h.1; have := Mem.cost_le h.2; unfold Stt.cost; omega
theorem Cor.cost_le {c : Cor} (h : c.fit) : c.cost ≤ 134217728 := by have := h.2.1; have := h.2.2; have := Stt.cost_le h.1; unfold Cor.cost; omega
theorem ents_zero' {n : Nat} : (List.replicate n [AV.int .i64 0, AV.bool false, AV.int .i64 0, AV.int .i64 0, AV.int .i64 0, AV.int .i64 0, AV.int .i64 0, AV.int .i64 0, AV.int .i64 0, AV.int .i64 0, AV.int .i64 0, AV.bool false, AV.int .i64 0, AV.int .i64 0, AV.int .i64 0, AV.bool false, AV.int .i64 0, AV.int .i64 0, AV.int .i64 0, AV.int .i64 0, AV.int .i64 0, AV.bool false, AV.int .i64 0, AV.int .i64 0, AV.int .i64 0, AV.int .i64 0, AV.int .i64 0, AV.int .i64 0, AV.bool false, AV.int .i64 0, AV.int .i64 0, AV.int .i64 0, AV.int .i64 0, AV.int .i64 0, AV.int .i64 0, AV.bool false, AV.int .i64 0, AV.int .i64 0, AV.int .i64 0, AV.int .i64 0]).flatten = rows (List.replicate n noEnt) := rows_rep rfl
attribute [go_sem] ents_zero'
def slW (xs : List Word) : AV := .sl xs.length xs.length (rows xs)
section
variable {L : List (List Word)} {i : Nat}
end
def kept (p : Word → Bool) (xs : List Word) : List Word := xs.filter fun w => !p w
theorem sealer_eq (w : Word) : sealer w = (opened w && !decide (bitop .and .i64 w.key.perms 32 = 0) && decide (w.key.base ≤ w.n) && decide (w.n < w.key.top) && inR w.n 1 7) := by
 have : decide (band w.key.perms 32 ≠ 0) = !decide (bitop .and .i64 w.key.perms 32 = 0) := decide_not (p := band w.key.perms 32 = 0)
 rw [sealer, this]
def knownB (c : Cor) (i p : Int) : Bool := !hasI (c.rob.getD i.toNat noEnt).x.op p || (value c i (partI (c.rob.getD i.toNat noEnt).x p)).2
section
variable {c : Cor} {i : Int}
theorem known_AB (h : corOk c = true) (hi : inR i 0 (c.rob.length - 1) = true) :
 knownB c i 65 = (!hasA (c.rob.getD i.toNat noEnt).x.op || (valueRaw c i (c.rob.getD i.toNat noEnt).x.a).2) ∧ knownB c i 66 = (!hasB (c.rob.getD i.toNat noEnt).x.op || (valueRaw c i (c.rob.getD i.toNat noEnt).x.b).2) := by
 have hi2 := inR_iff.1 hi
 have hk := ent_regs h (show i.toNat < c.rob.length by omega)
 have e1 : partI (c.rob.getD i.toNat noEnt).x 65 = (c.rob.getD i.toNat noEnt).x.a := rfl
 have e2 : partI (c.rob.getD i.toNat noEnt).x 66 = (c.rob.getD i.toNat noEnt).x.b := rfl
 rw [knownB, knownB, (hasI_eq _).2.1, (hasI_eq _).2.2.1, e1, e2, value_ok h hk.2.1, value_ok h hk.2.2]
 exact ⟨rfl, rfl⟩
theorem ready_is (h : (((corOk c = true ∧ inR i 0 (c.rob.length - 1) = true) ∧ (c.rob.getD i.toNat noEnt).done = false) ∧ knownB c i 65 = true) ∧ knownB c i 66 = true) : ready c i = (!decide ((c.rob.getD i.toNat noEnt).x.op = 10) || !(c.rob.take i.toNat).any waits) := by
 obtain ⟨⟨⟨⟨a, b⟩, d⟩, e⟩, f⟩ := h
 rw [(known_AB a b).1] at e
 rw [(known_AB a b).2] at f
 rw [ready_eq ⟨a, b, d⟩, e, f, Bool.true_and, Bool.true_and]
theorem ready_not (h : (((corOk c = false ∨ inR i 0 (c.rob.length - 1) = false) ∨ (c.rob.getD i.toNat noEnt).done = true) ∨ knownB c i 65 = false) ∨ knownB c i 66 = false) : ready c i = false := by
 by_cases h0 : corOk c = true ∧ inR i 0 (c.rob.length - 1) = true ∧ (c.rob.getD i.toNat noEnt).done = false
 ·obtain ⟨a, b, d⟩ := h0
  rw [ready_eq ⟨a, b, d⟩, ← (known_AB a b).1, ← (known_AB a b).2]
  rcases h with (((h | h) | h) | h) | h
  ·rw [a] at h; cases h
  ·rw [b] at h; cases h
  ·rw [d] at h; cases h
  ·rw [h]; simp only [Bool.false_and]
  ·rw [h]; simp only [Bool.false_and, Bool.and_false]
 ·exact ready_no h0
end
theorem hasA_of {op : Int} (h : ¬ bitop .and .i64 (has op) 2 = 0) : hasA op = true := by
 unfold hasA
 rw [decide_eq_false (show ¬ band (has op) 2 = 0 from h)]
 rfl
theorem hasB_of {op : Int} (h : ¬ bitop .and .i64 (has op) 4 = 0) : hasB op = true := by
 unfold hasB
 rw [decide_eq_false (show ¬ band (has op) 4 = 0 from h)]
 rfl
theorem hasA_no {op : Int} (h : bitop .and .i64 (has op) 2 = 0) : hasA op = false := by
 unfold hasA
 rw [decide_eq_true (show band (has op) 2 = 0 from h)]
 rfl
theorem hasB_no {op : Int} (h : bitop .and .i64 (has op) 4 = 0) : hasB op = false := by
 unfold hasB
 rw [decide_eq_true (show band (has op) 4 = 0 from h)]
 rfl
theorem ready_fin {op : Int} {u v : Bool} (h : (bitop .and .i64 (has op) 2 = 0 ∨ u = true) ∧ (bitop .and .i64 (has op) 4 = 0 ∨ v = true)) : ((!hasA op || u) && (!hasB op || v)) = true := by
 obtain ⟨h1, h2⟩ := h
 have e1 : (!hasA op || u) = true := by
  rcases h1 with h | h
  ·rw [hasA_no h]; rfl
  ·rw [h, Bool.or_true]
 have e2 : (!hasB op || v) = true := by
  rcases h2 with h | h
  ·rw [hasB_no h]; rfl
  ·rw [h, Bool.or_true]
 rw [e1, e2]
 rfl
theorem ready_third {p : Prop} [Decidable p] {b : Bool} (h : p → b = false) : (!decide p || !b) = true := by
 by_cases hp : p
 ·rw [h hp, Bool.not_false, Bool.or_true]
 ·rw [decide_eq_false hp]; rfl
theorem puts_no {a : Int} {x : Ent} (h : ((¬ x.x.op = 11 ∨ x.done = false) ∨ ¬ x.e.trap = 0) ∨ ¬ x.e.adr = a) : ¬ puts a x = true := by
 simp only [puts, Bool.and_eq_true, decide_eq_true_eq]
 rintro ⟨⟨⟨b, d⟩, e⟩, f⟩
 rcases h with ((h | h) | h) | h
 ·exact h b
 ·rw [d] at h; cases h
 ·exact h e
 ·exact h f
theorem ents_atO {xs : List Ent} {i o : Nat} (h : i < xs.length) : (rows xs).drop (i * 40 + o) = (Ent.cells (xs.getD i noEnt) ++ rows (xs.drop (i + 1))).drop o := by rw [← List.drop_drop, ents_at h]
theorem words_takeL {xs : List Word} {n : Nat} (h : n = xs.length) : (rows xs).take (n * 6) = rows xs := by rw [h]; exact words_take
section
variable {P : Program} {H : Heap} {ρ : Env} {K : Env → Heap → Prop} {ops : Array Oper} {l rest : List SOp} {acc : List Foot} {d : Option Tmp} {op : Op} {t : Tmp} {w : Bool}
theorem awpDS_onT (h : ρ t = .bool true) : awpDS P ops K ((d, op, some (t, true)) :: rest) acc ρ H = awpDS P ops K ((d, op, none) :: rest) acc ρ H := by simp [awpDS, gTest, h]
theorem awpDS_onF (h : ρ t = .bool false) : awpDS P ops K ((d, op, some (t, false)) :: rest) acc ρ H = awpDS P ops K ((d, op, none) :: rest) acc ρ H := by simp [awpDS, gTest, h]
theorem awpDS_offT (h : ρ t = .bool false) : awpDS P ops K ((d, op, some (t, true)) :: rest) acc ρ H = awpDS P ops K rest (⟨H.length, H.length, [], []⟩ :: acc) (updO ρ d (.tuple [])) H := by simp [awpDS, gTest, h]
theorem awpDS_offF (h : ρ t = .bool true) : awpDS P ops K ((d, op, some (t, false)) :: rest) acc ρ H = awpDS P ops K rest (⟨H.length, H.length, [], []⟩ :: acc) (updO ρ d (.tuple [])) H := by simp [awpDS, gTest, h]
theorem awpDS_offU (h : ρ t = .tuple []) : awpDS P ops K ((d, op, some (t, w)) :: rest) acc ρ H = awpDS P ops K rest (⟨H.length, H.length, [], []⟩ :: acc) (updO ρ d (.tuple [])) H := by simp [awpDS, gTest, h]
end
attribute [go_sem] awpDS_onT awpDS_onF awpDS_offT awpDS_offF awpDS_offU
def five (x : Ent) : List Word := [x.pc, x.guess, x.e.val, x.e.next, x.e.put]
def heldUp (c : Cor) (i : Nat) : List Word := keys c.s ++ ((c.rob.take i).map heldE).flatten
section
variable {s n : Nat} {t : Int}
theorem mrow_takeW {f : Int → Word} : (rows (mrow f s t n)).take (n * 6) = rows (mrow f s t n) := words_takeL mrow_len.symm
theorem mrow_takeE {f : Int → Ent} : (rows (mrow f s t n)).take (n * 40) = rows (mrow f s t n) := by
 rw [ents_takeN, List.take_of_length_le (by rw [mrow_len]; exact Nat.le_refl _)]
theorem mrow_takeI {f : Int → Ins} : (rows (mrow f s t n)).take (n * 5) = rows (mrow f s t n) := by
 have := inss_take (xs := mrow f s t n)
 rwa [mrow_len] at this
theorem mrow_takeB {f : Int → Bool} : (rows (mrow f s t n)).take n = rows (mrow f s t n) := by
 have := bools_take (xs := mrow f s t n)
 rwa [mrow_len] at this
end
attribute [go_sem] mrow_takeW mrow_takeE mrow_takeI mrow_takeB
section
variable {P : Program} {H : Heap} {ρ : Env} {k : Nat}
theorem retN {rs : List ResultVar} {vs : List AV} {v w w' : AV} {h' H' : Heap} (szs keep m : List Nat) (hm : List.range k ++ keep = m) (h1 : aRes P H ρ rs = some vs) (ha : aResult vs = v) (hr : Ref H.length (H.length + szs.length) v w)
 (hH : H ++ szs.map (fun s => (⟨s, [], true, false⟩ : Blk)) = H') (h2 : m.Nodup) (h3 : Nat.ble k H'.length = true) (h4 : (keep.all fun id => match H'[id]? with | some b => b.live | none => false) = true)
 (hv : bor [] (idx m) fuel w = w') (hh : gcH m H' = h') : retQ P rs k (fun v' h'' => v' = w' ∧ h'' = h') .ret ρ H := by
 subst hm ha
 refine ret_norm szs keep vs w h1 hr hH h2 (Nat.le_of_ble_eq_true h3) (fun id hid => ?_) ⟨hv, hh⟩
 have := List.all_eq_true.1 h4 id hid
 split at this
 ·rename_i b hb
  exact ⟨b, hb, this⟩
 ·cases this
end
section
variable {l : List Ins} {s : Stt} {w : Word}
theorem fetch_ok (h : (fetch l w).2 = 0) : insOk (fetch l w).1 = true := by
 unfold fetch at *
 split at h
 ·rename_i h1; exact absurd h h1
 ·rename_i h1
  rw [if_neg h1]
  split at h
  ·rename_i h2
   rw [if_pos h2]
   exact h2.2
  ·cases h
theorem fetch_regs (h : (fetch l w).2 = 0) : 0 ≤ (fetch l w).1.a ∧ (fetch l w).1.a ≤ 7 ∧ 0 ≤ (fetch l w).1.b ∧ (fetch l w).1.b ≤ 7 := by
 have := ins_reg (x := (fetch l w).1) (by rw [fetch_ok h]; rfl)
 have h1 := inR_iff.1 this.2.1
 have h2 := inR_iff.1 this.2.2
 exact ⟨h1.1, h1.2, h2.1, h2.2⟩
theorem sets_yes {x : Ins} (h : hasI x.op 82 = true) : sets x = x.r := by rw [sets, if_pos (by rw [← (hasI_eq x.op).1]; exact h)]
theorem sets_no {x : Ins} (h : hasI x.op 82 = false) : sets x = -1 := by rw [sets, if_neg (by rw [← (hasI_eq x.op).1, h]; exact Bool.noConfusion)]
theorem made_op {op : Int} (h : hasI op 82 = true) (h1 : ¬ op = 12) : 1 ≤ op ∧ op ≤ 10 := by
 by_cases hi : inR op 1 15 = true
 ·rcases op_cases hi with rfl | rfl | rfl | rfl | rfl | rfl | rfl | rfl | rfl | rfl | rfl | rfl | rfl | rfl | rfl <;> first | omega | (revert h; decide)
 ·rw [(hasI_eq op).1, hasR, has, if_neg hi] at h
  exact absurd h (by decide)
theorem step_no (h : sttOk s = false) : step l s = noStt := by rw [step, if_pos h]
theorem step_trap (h : sttOk s = true) (ht : ¬ s.trap = 0) : step l s = s := by rw [step, if_neg (by rw [h]; exact Bool.noConfusion), if_pos ht]
theorem step_fx (h : sttOk s = true) (ht : s.trap = 0) : step l s = if (fxOf l s).trap ≠ 0 then withTrap s (fxOf l s).trap else applyFx s (fxOf l s) := by
 rw [step, if_neg (by rw [h]; exact Bool.noConfusion), if_neg (fun h => h ht)]
theorem step_stop (h : sttOk s = true) (ht : s.trap = 0) {t : Int} (he : (fxOf l s).trap = t) (h0 : ¬ t = 0) : step l s = withTrap s t := by rw [step_fx h ht, if_pos (by rw [he]; exact h0), he]
theorem step_go (h : sttOk s = true) (ht : s.trap = 0) (he : (fxOf l s).trap = 0) : step l s = applyFx s (fxOf l s) := by rw [step_fx h ht, if_neg (fun h => h he)]
theorem fx_fetch (h : ¬ (fetch l s.pc).2 = 0) : fxOf l s = fxTrap (fetch l s.pc).2 s.pc := by rw [fxOf, if_pos h]
theorem fx_mem (h : (fetch l s.pc).2 = 0) (hm : ¬ (memOf s.mem (fetch l s.pc).1 (reg s (fetch l s.pc).1.a) (reg s (fetch l s.pc).1.b)).2 = 0) :
 fxOf l s = fxTrap (memOf s.mem (fetch l s.pc).1 (reg s (fetch l s.pc).1.a) (reg s (fetch l s.pc).1.b)).2 s.pc := by rw [fxOf, if_neg (fun g => g h), if_pos hm]
theorem fx_work (h : (fetch l s.pc).2 = 0) (hm : (memOf s.mem (fetch l s.pc).1 (reg s (fetch l s.pc).1.a) (reg s (fetch l s.pc).1.b)).2 = 0) :
 fxOf l s = work (fetch l s.pc).1 s.pc (reg s (fetch l s.pc).1.a) (reg s (fetch l s.pc).1.b) (memOf s.mem (fetch l s.pc).1 (reg s (fetch l s.pc).1.a) (reg s (fetch l s.pc).1.b)).1 := by rw [fxOf, if_neg (fun g => g h), if_neg (fun g => g hm)]
theorem mem_load {m : Mem} {x : Ins} {a b : Word} (h : x.op = 10) : memOf m x a b = read m a (wadd a.n x.n) := by rw [memOf, if_pos h]
theorem mem_store {m : Mem} {x : Ins} {a b : Word} (h : ¬ x.op = 10) (h1 : x.op = 11) : memOf m x a b = (noWord, writeT m a (wadd a.n x.n) b) := by rw [memOf, if_neg h, if_pos h1]
theorem mem_none {m : Mem} {x : Ins} {a b : Word} (h : ¬ x.op = 10) (h1 : ¬ x.op = 11) : memOf m x a b = (noWord, 0) := by rw [memOf, if_neg h, if_neg h1]
end
theorem ints_putMany {xs ys : List Int} {i : Nat} : putAt (ints xs) i (ints ys) = ints (xs.take i ++ (ys ++ xs.drop (i + ys.length))) := by
 simp [putAt, ints, List.map_take, List.map_drop]
theorem ints_takeN {xs : List Int} {n : Nat} : (ints xs).take n = ints (xs.take n) := by simp [ints, List.map_take]
def gfill (m : Nat) : List Int := List.replicate m (-1) ++ List.replicate (48 - m) 0
theorem gfill_len {m : Nat} (h : m ≤ 48) : (gfill m).length = 48 := by simp [gfill]; omega
theorem gfill_one : (List.replicate 48 (0 : Int)).set 0 (-1) = gfill 1 := rfl
theorem gfill_end : gfill 48 = guessNew := by simp [gfill, guessNew]
theorem gfill_copy {m : Nat} (h : m ≤ 48) : putAt (ints (gfill m)) m (((ints (gfill m)).take m).take (Nat.min m (48 - m))) = ints (gfill (m + Nat.min m (48 - m))) := by
 have e1 : (gfill m).take m = List.replicate m (-1) := by rw [gfill, List.take_left' (by simp)]
 have e2 : Nat.min m (48 - m) = min m (48 - m) := rfl
 rw [ints_takeN, e1, ints_takeN, List.take_replicate, e2, show min (min m (48 - m)) m = min m (48 - m) by omega, ints_putMany, e1]
 congr 1
 have e3 : (gfill m).drop (m + (List.replicate (min m (48 - m)) (-1 : Int)).length) = List.replicate (48 - (m + min m (48 - m))) 0 := by
  rw [List.length_replicate, ← List.drop_drop, gfill, List.drop_left' (by simp), List.drop_replicate]
  congr 1
  omega
 rw [e3, gfill, ← List.append_assoc, List.replicate_append_replicate]
theorem rep_snoc {i : Nat} : ints (List.replicate (i + 1) (-1)) = ints (List.replicate i (-1)) ++ [.int .i64 (-1)] := by
 rw [List.replicate_succ', ints, List.map_append]; rfl
theorem ints_takeR {i : Nat} : (ints (List.replicate i (-1))).take i = ints (List.replicate i (-1)) := by rw [ints_takeN, List.take_of_length_le (by simp)]
theorem ints_lenR {i : Nat} : (ints (List.replicate i (-1))).length = i := by simp [ints]
theorem ints_lenF {m : Nat} (h : m ≤ 48) : (ints (gfill m)).length = 48 := by rw [ints_len, gfill_len h]
theorem wu1 : IntKind.u64.wrap 1 = 1 := by decide
theorem wu48 : IntKind.u64.wrap 48 = 48 := by decide
theorem wi48 : IntKind.i64.wrap 48 = 48 := by decide
theorem wi1 : IntKind.i64.wrap 1 = 1 := by decide
def fnCode (f : Func) : Code := match f.body with
 | some c => c
 | none => .skip
def codeAt : Code → List Nat → Code
 | c, [] => c
 | .seq a b, n :: p => if n = 0 then codeAt a p else codeAt b p
 | .block _ c, _ :: p => codeAt c p
 | .loop c, _ :: p => codeAt c p
 | c, _ :: _ => c
def markQ (s : Int) : Ent := ⟨⟨s, decide ((s + 1).tmod 3 = 0), ⟨s + 2, s + 3, s + 4, s + 5⟩⟩, ⟨s + 6, s + 7, s + 8, s + 9, s + 10⟩, decide ((s + 11).tmod 3 = 0), ⟨s + 12, s + 13, ⟨s + 14, decide ((s + 15).tmod 3 = 0), ⟨s + 16, s + 17, s + 18, s + 19⟩⟩, ⟨s + 20, decide ((s + 21).tmod 3 = 0), ⟨s + 22, s + 23, s + 24, s + 25⟩⟩, s + 26, ⟨s + 27, decide ((s + 28).tmod 3 = 0), ⟨s + 29, s + 30, s + 31, s + 32⟩⟩, s + 33⟩, ⟨s + 34, decide ((s + 35).tmod 3 = 0), ⟨s + 36, s + 37, s + 38, s + 39⟩⟩⟩
def mixQ (s : Int) (x : Ent) (j : Nat) : List AV := (Ent.cells (markQ s)).take j ++ (Ent.cells x).drop j
theorem entc_len {x : Ent} : (Ent.cells x).length = 40 := rfl
section
variable {s t : Int} {x : Ent} {n : Nat} {R : List AV}
end
def Cor.markedQ (c : Cor) (t : Int) : Cor := ⟨c.s.marked t, mrow markQ 40 (t + c.s.cost) c.rob.length, c.next, c.stop, marks (t + c.s.cost + (40 * c.rob.length : Nat)) c.guesses.length⟩
section
variable {l : List Ins} {s u : Stt} {m : Mem} {n : Int}
theorem noStt_fit : noStt.fit := ⟨Nat.zero_le _, Nat.zero_le _, Nat.zero_le _⟩
theorem noMem_fit : noMem.fit := ⟨Nat.zero_le _, Nat.zero_le _⟩
theorem apply_fit {e : Fx} (h : s.fit) : (applyFx s e).fit := by
 obtain ⟨a, b, c⟩ := h
 refine ⟨?_, ?_, ?_⟩
 ·show (if inR e.r 0 7 = true then s.regs.set e.r.toNat e.val else s.regs).length ≤ _
  split <;> simpa using a
 ·show (if inR e.adr 0 23 = true then s.mem.words.set e.adr.toNat e.put else s.mem.words).length ≤ _
  split <;> simpa using b
 ·show (if inR e.drop 0 23 = true then s.mem.gone.set e.drop.toNat true else s.mem.gone).length ≤ _
  split <;> simpa using c
theorem step_fit (h : s.fit) : (step l s).fit := by
 unfold step
 split
 ·exact noStt_fit
 ·split
  ·exact h
  ·split
   ·exact h
   ·exact apply_fit h
theorem sweep_no (h : memOk m = false) : sweep m n = noMem := by rw [sweep, if_neg (by rw [h]; exact Bool.noConfusion)]
theorem sweep_in (h : memOk m = true) (hn : inR n 0 23 = true) : sweep m n = ⟨m.words.set n.toNat (filt m (m.words.getD n.toNat noWord)), m.gone⟩ := by rw [sweep, if_pos h, if_pos hn]
theorem sweep_out (h : memOk m = true) (hn : inR n 0 23 = false) : sweep m n = m := by rw [sweep, if_pos h, if_neg (by rw [hn]; exact Bool.noConfusion)]
theorem sweep_fit (h : m.fit) : (sweep m n).fit := by
 unfold sweep
 split
 ·split
  ·exact ⟨by simpa using h.1, h.2⟩
  ·exact h
 ·exact noMem_fit
theorem runOne_fit (h : s.fit) : (runOne l s n).fit := by
 unfold runOne
 split
 ·exact step_fit h
 ·exact ⟨h.1, sweep_fit h.2⟩
theorem runOne_step (h : n < 0) : runOne l s n = step l s := by rw [runOne, if_pos h]
theorem runOne_sweep (h : ¬ n < 0) : runOne l s n = withMem s (sweep s.mem n) := by rw [runOne, if_neg h]
theorem foldl_take {ns : List Int} {i : Nat} (h : i < ns.length) (he : (ns.take i).foldl (runOne l) s = u) : (ns.take (i + 1)).foldl (runOne l) s = runOne l u (ns.getD i 0) := by
 have : ns.take (i + 1) = ns.take i ++ [ns.getD i 0] := by rw [List.take_add_one]; simp [h]
 rw [this, List.foldl_append, he]
 rfl
theorem run_no {ns : List Int} (h : sttOk s = false) : run l s ns = noStt := by rw [run, if_pos h]
theorem run_long {ns : List Int} (h : sttOk s = true) (hn : 600 < ns.length) : run l s ns = s := by rw [run, if_neg (by rw [h]; exact Bool.noConfusion), if_pos hn]
theorem run_go {ns : List Int} (h : sttOk s = true) (hn : ¬ 600 < ns.length) : run l s ns = ns.foldl (runOne l) s := by rw [run, if_neg (by rw [h]; exact Bool.noConfusion), if_neg hn]
theorem fold_fit : ∀ (ns : List Int) {s : Stt}, s.fit → (ns.foldl (runOne l) s).fit
 | [], _, h => h
 | n :: ns, s, h => fold_fit ns (runOne_fit (n := n) h)
theorem run_fit {ns : List Int} (h : s.fit) : (run l s ns).fit := by
 unfold run
 split
 ·exact noStt_fit
 ·split
  ·exact h
  ·exact fold_fit ns h
theorem corNew_no (h : sttOk s = false) : corNew s = noCor := by rw [corNew, if_neg (by rw [h]; exact Bool.noConfusion)]
theorem corNew_go (h : sttOk s = true) : corNew s = ⟨s, [], s.pc, false, guessNew⟩ := by rw [corNew, if_pos h]
theorem corNew_fit (h : s.fit) : (corNew s).fit := by
 unfold corNew
 split
 ·exact ⟨h, Nat.zero_le _, (by simp [guessNew])⟩
 ·exact ⟨noStt_fit, Nat.zero_le _, Nat.zero_le _⟩
end
section
variable {l : List Ins} {c : Cor}
theorem pull_no (h : corOk c = false) : pull l c = (noCor, false) := by rw [pull, if_pos h]
theorem pull_idle (h : corOk c = true) (h1 : c.stop = true ∨ c.rob.length = 6 ∨ c.s.trap ≠ 0) : pull l c = (c, false) := by rw [pull, if_neg (by rw [h]; exact Bool.noConfusion), if_pos h1]
theorem pull_trap (h : corOk c = true) (h1 : ¬ (c.stop = true ∨ c.rob.length = 6 ∨ c.s.trap ≠ 0)) (h2 : ¬ (fetch l c.next).2 = 0) :
 pull l c = (withRob c (c.rob ++ [⟨c.next, noIns, true, fxTrap (fetch l c.next).2 c.next, c.next⟩]) c.next true, true) := by
 rw [pull, if_neg (by rw [h]; exact Bool.noConfusion), if_neg h1, if_pos h2]
theorem pull_go (h : corOk c = true) (h1 : ¬ (c.stop = true ∨ c.rob.length = 6 ∨ c.s.trap ≠ 0)) (h2 : (fetch l c.next).2 = 0) :
 pull l c = (withRob c (c.rob ++ [⟨c.next, (fetch l c.next).1, false, noFx, guess c.guesses c.next⟩]) (guess c.guesses c.next) c.stop, true) := by
 rw [pull, if_neg (by rw [h]; exact Bool.noConfusion), if_neg h1, if_neg (fun g => g h2)]
theorem noCor_fit : noCor.fit := ⟨noStt_fit, Nat.zero_le _, Nat.zero_le _⟩
theorem pull_fit (h : c.fit) : (pull l c).1.fit := by
 by_cases hc : corOk c = true
 ·have h6 := (corOk_parts hc).2.2.1
  by_cases h1 : c.stop = true ∨ c.rob.length = 6 ∨ c.s.trap ≠ 0
  ·rw [pull_idle hc h1]; exact h
  ·by_cases h2 : (fetch l c.next).2 = 0
   ·rw [pull_go hc h1 h2]
    exact ⟨h.1, by simp [withRob]; omega, h.2.2⟩
   ·rw [pull_trap hc h1 h2]
    exact ⟨h.1, by simp [withRob]; omega, h.2.2⟩
 ·rw [pull_no (by simpa using hc)]
  exact noCor_fit
theorem commit_no (h : corOk c = false) : commit c = (noCor, false) := by rw [commit, if_pos h]
theorem commit_idle (h : corOk c = true) (h1 : c.rob = [] ∨ (c.rob.getD 0 noEnt).done = false ∨ c.s.trap ≠ 0) : commit c = (c, false) := by rw [commit, if_neg (by rw [h]; exact Bool.noConfusion), if_pos h1]
theorem commit_on (h : corOk c = true) (h1 : ¬ (c.rob = [] ∨ (c.rob.getD 0 noEnt).done = false ∨ c.s.trap ≠ 0)) : commit c = (commitE c (c.rob.getD 0 noEnt), true) := by rw [commit, if_neg (by rw [h]; exact Bool.noConfusion), if_neg h1]
theorem commitE_trap {x : Ent} (h : ¬ x.e.trap = 0) : commitE c x = ⟨⟨c.s.regs, x.pc, c.s.mem, x.e.trap⟩, [], c.next, true, c.guesses⟩ := by rw [commitE, if_pos h]
theorem commitE_drop {x : Ent} (h : x.e.trap = 0) (h1 : 0 ≤ x.e.drop) : commitE c x = ⟨applyFx c.s x.e, [], x.e.next, false, learn c.guesses x.pc x.e.next⟩ := by rw [commitE, if_neg (fun g => g h), if_pos h1]
theorem commitE_go {x : Ent} (h : x.e.trap = 0) (h1 : ¬ 0 ≤ x.e.drop) : commitE c x = ⟨applyFx c.s x.e, c.rob.drop 1, c.next, c.stop, learn c.guesses x.pc x.e.next⟩ := by rw [commitE, if_neg (fun g => g h), if_neg h1]
theorem commitE_fit {x : Ent} (h : c.fit) : (commitE c x).fit := by
 unfold commitE
 split
 ·exact ⟨⟨h.1.1, h.1.2⟩, Nat.zero_le _, h.2.2⟩
 ·split
  ·exact ⟨apply_fit h.1, Nat.zero_le _, by rw [learn_len]; exact h.2.2⟩
  ·exact ⟨apply_fit h.1, by have := h.2.1; simp; omega, by rw [learn_len]; exact h.2.2⟩
theorem commit_fit (h : c.fit) : (commit c).1.fit := by
 unfold commit
 split
 ·exact noCor_fit
 ·split
  ·exact h
  ·exact commitE_fit h
end
section
variable {xs : List Ent}
theorem ents_first (h : 0 < xs.length) : rows xs = Ent.cells (xs.getD 0 noEnt) ++ rows (xs.drop 1) := by
 cases xs with
 | nil => exact absurd h (by simp)
 | cons x xs => rfl
theorem ents_done0 (h : 0 < xs.length) : ((rows xs).drop 11).head? = some (.bool (xs.getD 0 noEnt).done) := by rw [ents_first h]; rfl
theorem ents_take0 (h : 0 < xs.length) : (rows xs).take 40 = Ent.cells (xs.getD 0 noEnt) := by rw [ents_first h]; exact List.take_left' entc_len
theorem ents_drop1 : (rows xs).drop 40 = rows (xs.drop 1) := by
 have := rows_drop (xs := xs) (i := 1)
 rwa [show 1 * Enc.sz Ent = 40 from rfl] at this
theorem ents_takeD {n : Nat} (h : n = xs.length - 1) : (rows (xs.drop 1)).take (n * 40) = rows (xs.drop 1) := by
 rw [ents_takeN, List.take_of_length_le (by rw [List.length_drop, h]; exact Nat.le_refl _)]
theorem ents_putMany {ys : List Ent} {i : Nat} (h : i + ys.length ≤ xs.length) : putAt (rows xs) (i * 40) (rows ys) = rows (xs.take i ++ (ys ++ xs.drop (i + ys.length))) := by
 have h1 : rows xs = rows (xs.take i) ++ rows (xs.drop i) := by rw [← rows_append, List.take_append_drop]
 have h2 : (rows (xs.take i)).length = i * 40 := by rw [ents_len, List.length_take, Nat.min_eq_left (by omega)]
 have h3 : rows (xs.drop i) = rows ((xs.drop i).take ys.length) ++ rows (xs.drop (i + ys.length)) := by
  rw [← rows_append, ← List.drop_drop, List.take_append_drop]
 have h4 : (rows ((xs.drop i).take ys.length)).length = (rows ys).length := by
  rw [ents_len, ents_len, List.length_take, List.length_drop, Nat.min_eq_left (by omega)]
 rw [h1, putAt_app0 h2, h3, putAt_self h4, rows_append, rows_append]
theorem ents_putHead (h : 0 < xs.length) : putAt (rows xs) 0 (rows (xs.drop 1)) = rows (xs.drop 1 ++ xs.drop (xs.length - 1)) := by
 have := ents_putMany (xs := xs) (ys := xs.drop 1) (i := 0) (by simp)
 rw [Nat.zero_mul] at this
 rw [this]
 simp
theorem take_put {l cs : List AV} {n : Nat} (h : n ≤ l.length) : (putAt l n cs).take n = l.take n := by
 unfold putAt
 rw [List.append_assoc, List.take_left' (by rw [List.length_take]; omega)]
end
section
variable {c : Cor} {i : Int} {x : Ins} {pc a b : Word}
theorem at_load (h : x.op = 10) : memAt c i x a b = found c i a (wadd a.n x.n) := by rw [memAt, if_pos h]
theorem at_store (h : ¬ x.op = 10) (h1 : x.op = 11) : memAt c i x a b = (noWord, writeT c.s.mem a (wadd a.n x.n) b) := by rw [memAt, if_neg h, if_pos h1]
theorem at_none (h : ¬ x.op = 10) (h1 : ¬ x.op = 11) : memAt c i x a b = (noWord, 0) := by rw [memAt, if_neg h, if_neg h1]
theorem fxAt_trap (h : ¬ (memAt c i x a b).2 = 0) : fxAt c i x pc a b = fxTrap (memAt c i x a b).2 pc := by rw [fxAt, if_pos h]
theorem fxAt_go (h : (memAt c i x a b).2 = 0) : fxAt c i x pc a b = work x pc a b (memAt c i x a b).1 := by rw [fxAt, if_neg (fun g => g h)]
theorem ready_parts (h : ready c i = true) : corOk c = true ∧ inR i 0 (c.rob.length - 1) = true ∧ (c.rob.getD i.toNat noEnt).done = false := by
 by_cases h0 : corOk c = true ∧ inR i 0 (c.rob.length - 1) = true ∧ (c.rob.getD i.toNat noEnt).done = false
 ·exact h0
 ·rw [ready_no h0] at h; cases h
theorem do_no (h : corOk c = false) : do_ c i = (noCor, false) := by rw [do_, if_pos h]
theorem do_idle (h : corOk c = true) (hr : ready c i = false) : do_ c i = (c, false) := by rw [do_, if_neg (by rw [h]; exact Bool.noConfusion), if_pos hr]
theorem do_on (h : corOk c = true) (hr : ready c i = true) : do_ c i = (doE c i.toNat (c.rob.getD i.toNat noEnt) (doneBy c i (c.rob.getD i.toNat noEnt)), true) := by
 rw [do_, if_neg (by rw [h]; exact Bool.noConfusion), if_neg (by rw [hr]; exact Bool.noConfusion)]
variable {e : Fx} {n : Nat} {y : Ent}
theorem doE_trap (h : ¬ e.trap = 0) : doE c n y e = withRob c ((c.rob.set n ⟨y.pc, y.x, true, e, y.guess⟩).take (n + 1)) c.next true := by rw [doE, if_pos h]
theorem doE_turn (h : e.trap = 0) (h1 : ¬ e.next = y.guess) : doE c n y e = withRob c ((c.rob.set n ⟨y.pc, y.x, true, e, y.guess⟩).take (n + 1)) e.next false := by rw [doE, if_neg (fun g => g h), if_pos h1]
theorem doE_go (h : e.trap = 0) (h1 : e.next = y.guess) : doE c n y e = withRob c (c.rob.set n ⟨y.pc, y.x, true, e, y.guess⟩) c.next c.stop := by rw [doE, if_neg (fun g => g h), if_neg (fun g => g h1)]
theorem doE_fit (h : c.fit) : (doE c n y e).fit := by
 unfold doE
 have := h.2.1
 split
 ·exact ⟨h.1, by simp [withRob]; omega, h.2.2⟩
 ·split
  ·exact ⟨h.1, by simp [withRob]; omega, h.2.2⟩
  ·exact ⟨h.1, by simp [withRob]; omega, h.2.2⟩
theorem do_fit (h : c.fit) : (do_ c i).1.fit := by
 unfold do_
 split
 ·exact noCor_fit
 ·split
  ·exact h
  ·exact doE_fit h
end
theorem put_cell {xs : List Ent} {i j : Nat} {v : AV} {y : Ent} (h : i < xs.length) (hj : j < 40) (hy : (Ent.cells (xs.getD i noEnt)).set j v = Ent.cells y) : putAt (rows xs) (i * 40 + j) [v] = rows (xs.set i y) := by
 have h1 : rows xs = rows (xs.take i) ++ rows (xs.drop i) := by rw [← rows_append, List.take_append_drop]
 have h2 : (rows (xs.take i)).length = i * 40 := by rw [ents_len, List.length_take, Nat.min_eq_left (by omega)]
 have h3 : rows (xs.drop i) = Ent.cells (xs.getD i noEnt) ++ rows (xs.drop (i + 1)) := rows_split h
 have h5 : putAt (Ent.cells (xs.getD i noEnt) ++ rows (xs.drop (i + 1))) j [v] = Ent.cells y ++ rows (xs.drop (i + 1)) := by
  rw [← hy, List.set_eq_take_append_cons_drop, if_pos (by rw [entc_len]; exact hj)]
  unfold putAt
  rw [List.take_append_of_le_length (by rw [entc_len]; omega), List.length_singleton, List.drop_append_of_le_length (by rw [entc_len]; omega)]
  simp
 rw [h1, putAt_app h2, h3, h5, List.set_eq_take_append_cons_drop, if_pos h, rows_append, rows_cons]
 rfl
def doneOf (x : Ent) : Ent := ⟨x.pc, x.x, true, x.e, x.guess⟩
def withE (x : Ent) (e : Fx) : Ent := ⟨x.pc, x.x, x.done, e, x.guess⟩
section
variable {xs : List Ent} {i : Nat} {e : Fx} {x y : Ent}
theorem done_put (h : i < xs.length) : putAt (rows xs) (i * 40 + 11) [.bool true] = rows (xs.set i (doneOf (xs.getD i noEnt))) := put_cell h (by decide) rfl
theorem put_cells {j : Nat} {L : List AV} (h : i < xs.length) (hj : j + L.length ≤ 40) (hy : (Ent.cells (xs.getD i noEnt)).take j ++ (L ++ (Ent.cells (xs.getD i noEnt)).drop (j + L.length)) = Ent.cells y) : putAt (rows xs) (i * 40 + j) L = rows (xs.set i y) := by
 have h1 : rows xs = rows (xs.take i) ++ rows (xs.drop i) := by rw [← rows_append, List.take_append_drop]
 have h2 : (rows (xs.take i)).length = i * 40 := by rw [ents_len, List.length_take, Nat.min_eq_left (by omega)]
 have h3 : rows (xs.drop i) = Ent.cells (xs.getD i noEnt) ++ rows (xs.drop (i + 1)) := rows_split h
 have h5 : putAt (Ent.cells (xs.getD i noEnt) ++ rows (xs.drop (i + 1))) j L = Ent.cells y ++ rows (xs.drop (i + 1)) := by
  rw [← hy]
  unfold putAt
  rw [List.take_append_of_le_length (by rw [entc_len]; omega), List.drop_append_of_le_length (by rw [entc_len]; omega)]
  simp only [List.append_assoc]
 rw [h1, putAt_app h2, h3, h5, List.set_eq_take_append_cons_drop, if_pos h, rows_append, rows_cons]
 rfl
theorem fx_put (h : i < xs.length) : putAt (rows xs) (i * 40 + 12) [AV.int .i64 e.trap, .int .i64 e.r, .int .i64 e.val.n, .bool e.val.is, .int .i64 e.val.key.base, .int .i64 e.val.key.top, .int .i64 e.val.key.perms, .int .i64 e.val.key.lock, .int .i64 e.next.n, .bool e.next.is, .int .i64 e.next.key.base, .int .i64 e.next.key.top, .int .i64 e.next.key.perms, .int .i64 e.next.key.lock, .int .i64 e.adr, .int .i64 e.put.n, .bool e.put.is, .int .i64 e.put.key.base, .int .i64 e.put.key.top, .int .i64 e.put.key.perms, .int .i64 e.put.key.lock, .int .i64 e.drop] = rows (xs.set i (withE (xs.getD i noEnt) e)) := put_cells h (Nat.le_of_ble_eq_true rfl) rfl
theorem getD_set (h : i < xs.length) : (xs.set i x).getD i noEnt = x := by simp [h]
theorem done_both (h : i < xs.length) : (xs.set i (doneOf (xs.getD i noEnt))).set i (withE ((xs.set i (doneOf (xs.getD i noEnt))).getD i noEnt) e) = xs.set i ⟨(xs.getD i noEnt).pc, (xs.getD i noEnt).x, true, e, (xs.getD i noEnt).guess⟩ := by
 rw [getD_set h, List.set_set]
 rfl
end
section
variable {l : List Ins} {c u : Cor} {p : Pik} {i k w : Nat} {m : Int} {s : Stt}
theorem pick_no (h : corOk c = false) : corPick l c p = (noCor, false) := by rw [corPick, if_pos h]
theorem pick_1 (h : corOk c = true) (h1 : p.kind = 1) : corPick l c p = pull l c := by rw [corPick, if_neg (by rw [h]; exact Bool.noConfusion), if_pos h1]
theorem pick_2 (h : corOk c = true) (h1 : p.kind = 2) : corPick l c p = do_ c p.n := by rw [corPick, if_neg (by rw [h]; exact Bool.noConfusion), if_neg (by omega), if_pos h1]
theorem pick_3 (h : corOk c = true) (h1 : p.kind = 3) : corPick l c p = commit c := by rw [corPick, if_neg (by rw [h]; exact Bool.noConfusion), if_neg (by omega), if_neg (by omega), if_pos h1]
theorem pick_4 (h : corOk c = true) (h1 : p.kind = 4) : corPick l c p = (withS c (withMem c.s (sweep c.s.mem p.n)), inR p.n 0 23) := by rw [corPick, if_neg (by rw [h]; exact Bool.noConfusion), if_neg (by omega), if_neg (by omega), if_neg (by omega), if_pos h1]
theorem pick_5 (h : corOk c = true) (h1 : ¬ p.kind = 1) (h2 : ¬ p.kind = 2) (h3 : ¬ p.kind = 3) (h4 : ¬ p.kind = 4) : corPick l c p = (c, false) := by rw [corPick, if_neg (by rw [h]; exact Bool.noConfusion), if_neg h1, if_neg h2, if_neg h3, if_neg h4]
theorem pick_out (h : corOk c = true) (h1 : p.kind = 4) (hn : inR p.n 0 23 = false) : corPick l c p = (c, false) := by
 rw [pick_4 h h1, hn, sweep_out (sttOk_parts (corOk_parts h).2.1).2.2.2.1 hn]
 rfl
theorem pick_in (h : corOk c = true) (h1 : p.kind = 4) (hn : inR p.n 0 23 = true) : corPick l c p = (withS c (withMem c.s (sweep c.s.mem p.n)), true) := by rw [pick_4 h h1, hn]
theorem pick_idle (h : corOk c = true) (h1 : ¬ p.kind = 1) (h2 : ¬ p.kind = 2) (h3 : ¬ p.kind = 3) (h5 : ¬ p.kind = 4 ∨ inR p.n 0 23 = false) : corPick l c p = (c, false) := by
 by_cases h4 : p.kind = 4
 ·exact pick_out h h4 (h5.resolve_left (fun g => g h4))
 ·exact pick_5 h h1 h2 h3 h4
theorem pick_fit (h : c.fit) : (corPick l c p).1.fit := by
 unfold corPick
 split
 ·exact noCor_fit
 ·split
  ·exact pull_fit h
  ·split
   ·exact do_fit h
   ·split
    ·exact commit_fit h
    ·split
     ·exact ⟨⟨h.1.1, sweep_fit h.1.2⟩, h.2⟩
     ·exact h
theorem ints_snoc {o : List Int} {n : Int} : ints o ++ [.int .i64 n] = ints (o ++ [n]) := by simp [ints]
theorem note_len : (noted p).length ≤ 1 := by
 unfold noted
 split
 ·simp
 ·split <;> simp
def numS (p : Pik) : Int := if p.kind = 4 then p.n else -1
def numI (p : Pik) : Int := if p.kind = 3 then -1 else if p.kind = 4 then p.n else 0
def isN (p : Pik) : Bool := decide (p.kind = 3 ∨ p.kind = 4)
theorem noteS (h : isN p = true) : noted p = [numS p] := by
 have := of_decide_eq_true h
 unfold noted numS
 by_cases h3 : p.kind = 3
 ·rw [if_pos h3, if_neg (by omega)]
 ·rw [if_neg h3, if_pos (by omega), if_pos (by omega)]
theorem noteI (h : isN p = true) : noted p = [numI p] := by
 have := of_decide_eq_true h
 unfold noted numI
 by_cases h3 : p.kind = 3
 ·rw [if_pos h3, if_pos h3]
 ·rw [if_neg h3, if_neg h3, if_pos (by omega), if_pos (by omega)]
theorem note_off (h : isN p = false) : noted p = [] := by
 have := of_decide_eq_false h
 unfold noted
 rw [if_neg (by omega), if_neg (by omega)]
def markP (t : Int) : Pik := ⟨t, t + 1⟩
theorem do_len : (do_ c m).1.rob.length ≤ c.rob.length := by
 unfold do_
 split
 ·exact Nat.zero_le _
 ·split
  ·exact Nat.le_refl _
  ·unfold doE
   split
   ·simp [withRob]; omega
   ·split
    ·simp [withRob]; omega
    ·simp [withRob]
theorem commit_len : (commit c).1.rob.length ≤ c.rob.length := by
 unfold commit
 split
 ·exact Nat.zero_le _
 ·split
  ·exact Nat.le_refl _
  ·unfold commitE
   split
   ·exact Nat.zero_le _
   ·split
    ·exact Nat.zero_le _
    ·simp
theorem all_step (h : i < u.rob.length) (h6 : u.rob.length ≤ 6) : doAll (7 - i) i u = doAll (7 - (i + 1)) (i + 1) (do_ u (i : Int)).1 := by
 rw [show 7 - i = (7 - (i + 1)) + 1 by omega, doAll, if_pos h]
theorem all_stop (h : ¬ i < u.rob.length) : doAll (7 - i) i u = u := by
 cases hq : 7 - i with
 | zero => rfl
 | succ n => rw [doAll, if_neg h]
theorem all_fit : ∀ (n : Nat) {i : Nat} {c : Cor}, c.fit → (doAll n i c).fit
 | 0, _, _, h => h
 | n + 1, i, c, h => by
  rw [doAll]
  split
  ·exact all_fit n (do_fit h)
  ·exact h
theorem all_len : ∀ (n : Nat) {i : Nat} {c : Cor}, (doAll n i c).rob.length ≤ c.rob.length
 | 0, _, _ => Nat.le_refl _
 | n + 1, i, c => by
  rw [doAll]
  split
  ·exact Nat.le_trans (all_len n) do_len
  ·exact Nat.le_refl _
theorem set_stop (h : 600 ≤ k ∨ u.rob.length = 0) : settleGo (600 - k) u m = (u, m) := by
 cases hq : 600 - k with
 | zero => rfl
 | succ n =>
  rw [settleGo, if_pos (List.eq_nil_of_length_eq_zero (by omega))]
theorem set_on (hk : k < 600) (h : 0 < u.rob.length) (hu : c = doAll 7 0 u) (hb : (commit c).2 = true) : settleGo (600 - k) u m = settleGo (600 - (k + 1)) (commit c).1 (m + 1) := by
 rw [show 600 - k = (600 - (k + 1)) + 1 by omega, settleGo, if_neg (fun g => by rw [g] at h; simp at h), ← hu, if_pos hb]
theorem set_off (hk : k < 600) (h : 0 < u.rob.length) (hu : c = doAll 7 0 u) (hb : (commit c).2 = false) : settleGo (600 - k) u m = settleGo (600 - (k + 1)) (commit c).1 m := by
 rw [show 600 - k = (600 - (k + 1)) + 1 by omega, settleGo, if_neg (fun g => by rw [g] at h; simp at h), ← hu, if_neg (by rw [hb]; exact Bool.noConfusion)]
theorem set_fit : ∀ (n : Nat) {c : Cor} {m : Int}, c.fit → (settleGo n c m).1.fit
 | 0, _, _, h => h
 | n + 1, c, m, h => by
  rw [settleGo]
  split
  ·exact h
  ·exact set_fit n (commit_fit (all_fit 7 h))
theorem set_many : ∀ (n : Nat) {c : Cor} {m : Int}, m ≤ (settleGo n c m).2 ∧ (settleGo n c m).2 ≤ m + n
 | 0, _, _ => by simp [settleGo]
 | n + 1, c, m => by
  rw [settleGo]
  split
  ·simp; omega
  ·have := set_many n (c := (commit (doAll 7 0 c)).1) (m := if (commit (doAll 7 0 c)).2 = true then m + 1 else m)
   split at this <;> rename_i hb
   ·simp only [hb, if_true] at this ⊢; omega
   ·simp only [hb] at this ⊢
    simp only [Bool.false_eq_true, if_false] at this ⊢; omega
theorem settle_no (h : corOk c = false) : settle c = (noCor, 0) := by rw [settle, if_pos h]
theorem settle_go (h : corOk c = true) : settle c = settleGo 600 c 0 := by rw [settle, if_neg (by rw [h]; exact Bool.noConfusion)]
theorem settle_fit (h : c.fit) : (settle c).1.fit := by
 unfold settle
 split
 ·exact noCor_fit
 ·exact set_fit 600 h
theorem settle_many : 0 ≤ (settle c).2 ∧ (settle c).2 ≤ 600 := by
 unfold settle
 split
 ·simp
 ·have := set_many 600 (c := c) (m := 0)
  exact ⟨this.1, by have := this.2; simpa using this⟩
def wid (w : Int) : Int := if inR w 1 6 = true then w else 1
def widN (w : Int) : Nat := if inR w 1 6 = true then w.toNat else 1
variable {a b : Int}
end
section
variable {l : List Ins} {s t : Stt} {u : Cor} {ks : List Word} {ps : List Pik} {i : Nat} {a b : Int}
end
end Go.Proofs.YtgpjgljgplngpaaGreatDoor.AM
