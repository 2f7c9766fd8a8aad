/- What the laws' marks come to; the last entry that is so. No conditions. -/
import Derived.Test.YtokjjeibagmgpaaGreatM4
set_option linter.unusedVariables false
set_option linter.unusedSimpArgs false
namespace Go.Proofs.YtokjjeibagmgpaaGreat.AM
open Go

/-! ### the last that is so -/
section
variable {α : Type} {p : α → Bool} {d : α} {xs : List α} {k n : Nat}
theorem lastAt_lt : ∀ k : Nat, -1 ≤ lastAt p d xs k ∧ lastAt p d xs k < k
  | 0 => by simp [lastAt]
  | k + 1 => by
    have := lastAt_lt k
    rw [lastAt]
    split <;> omega
theorem lastAt_hit (h : p (xs.getD k d) = true) : lastAt p d xs (k + 1) = (k : Int) := by rw [lastAt, if_pos h]
theorem lastAt_miss (h : ¬ p (xs.getD k d) = true) : lastAt p d xs (k + 1) = lastAt p d xs k := by rw [lastAt, if_neg h]
end
theorem upTo_le (i : Int) (n : Nat) : upTo i n ≤ n := by unfold upTo; omega
theorem source_lt (rob : List Ent) (i r : Int) : -1 ≤ source rob i r ∧ source rob i r < rob.length := by
  unfold source
  split
  · omega
  · have := lastAt_lt (p := fun x => decide (setBy x = r)) (d := noEnt) (xs := rob) (upTo i rob.length)
    have := upTo_le i rob.length
    omega
theorem source_nat {rob : List Ent} {i r : Int} (h : ¬ source rob i r < 0) : ∃ m : Nat, source rob i r = (m : Int) ∧ m < rob.length := by
  obtain ⟨m, hm⟩ := Int.eq_ofNat_of_zero_le (Int.not_lt.1 h)
  have := (source_lt rob i r).2
  exact ⟨m, hm, by omega⟩

theorem source_neg {rob : List Ent} {i r : Int} (h : r < 0 ∨ i < 0) : source rob i r = -1 := by
  unfold source
  split
  · rfl
  · rw [show upTo i rob.length = 0 by unfold upTo; omega]; rfl
theorem corOk_parts {c : Cor} (h : corOk c = true) : c.rob.all entOk = true ∧ sttOk c.s = true ∧ c.rob.length ≤ 6 ∧ wordOk c.next = true ∧ guessOk c.guesses = true := by
  simp only [corOk, Bool.and_eq_true, decide_eq_true_eq] at h
  exact ⟨h.1.1.1.1, h.1.1.1.2, h.1.1.2, h.1.2, h.2⟩
theorem sttOk_parts {s : Stt} (h : sttOk s = true) : s.regs.all wordOk = true ∧ s.regs.length = 8 ∧ wordOk s.pc = true ∧ memOk s.mem = true ∧ inR s.trap 0 5 = true := by
  simp only [sttOk, Bool.and_eq_true, decide_eq_true_eq] at h
  exact ⟨h.1.1.1.1, h.1.1.1.2, h.1.1.2, h.1.2, h.2⟩
theorem memOk_parts {m : Mem} (h : memOk m = true) : m.words.length = 24 ∧ m.gone.length = 24 ∧ m.words.all wordOk = true := by
  simp only [memOk, Bool.and_eq_true, decide_eq_true_eq] at h
  exact ⟨h.1.1, h.1.2, h.2⟩
theorem corOk_reg {c : Cor} {r : Int} (h : corOk c = true) (hr : inR r 0 7 = true) : 0 ≤ r ∧ r < c.s.regs.length := by
  have := (sttOk_parts (corOk_parts h).2.1).2.1
  have := inR_iff.1 hr
  omega
theorem value_ok {c : Cor} {i r : Int} (h : corOk c = true) (hr : inR r 0 7 = true) : value c i r = valueRaw c i r := by rw [value, if_pos ⟨hr, h⟩]
theorem value_no {c : Cor} {i r : Int} (h : ¬ (inR r 0 7 = true ∧ corOk c = true)) : value c i r = (noWord, false) := by rw [value, if_neg h]
theorem raw_reg {c : Cor} {i r : Int} (h : source c.rob i r < 0) : valueRaw c i r = (reg c.s r, true) := by rw [valueRaw, if_pos h]
theorem raw_wait {c : Cor} {i r : Int} {m : Nat} (h : source c.rob i r = m) (hd : (c.rob.getD m noEnt).done = false) : valueRaw c i r = (noWord, false) := by rw [valueRaw, if_neg (by omega), h, Int.toNat_natCast, if_pos hd]
theorem raw_done {c : Cor} {i r : Int} {m : Nat} (h : source c.rob i r = m) (hd : (c.rob.getD m noEnt).done = true) : valueRaw c i r = ((c.rob.getD m noEnt).e.val, true) := by rw [valueRaw, if_neg (by omega), h, Int.toNat_natCast, if_neg (by rw [hd]; exact Bool.noConfusion)]
theorem ent_ok {c : Cor} {m : Nat} (h : corOk c = true) (hm : m < c.rob.length) : entOk (c.rob.getD m noEnt) = true := by
  have := List.all_eq_true.1 (corOk_parts h).1 (c.rob[m]) (List.getElem_mem hm)
  simpa [hm] using this
theorem ins_reg {x : Ins} (h : (insOk x || decide (x = noIns)) = true) : inR x.r 0 7 = true ∧ inR x.a 0 7 = true ∧ inR x.b 0 7 = true := by
  rcases Bool.or_eq_true_iff.1 h with h | h
  · simp only [insOk, fieldOk, Bool.and_eq_true] at h
    exact ⟨h.1.1.1.1.2.1, h.1.1.1.2.1, h.1.1.2.1⟩
  · obtain rfl := of_decide_eq_true h
    exact ⟨rfl, rfl, rfl⟩
theorem entOk_parts {x : Ent} (h : entOk x = true) : wordOk x.pc = true ∧ wordOk x.guess = true ∧ wordOk x.e.val = true ∧ wordOk x.e.next = true ∧ wordOk x.e.put = true ∧ (insOk x.x || decide (x.x = noIns)) = true ∧ inR x.e.trap 0 5 = true ∧ inR x.e.r (-1) 7 = true ∧ x.e.drop ≤ 4096 := by
  simp only [entOk, Bool.and_eq_true, decide_eq_true_eq] at h
  obtain ⟨⟨⟨⟨⟨⟨⟨⟨a, b⟩, c⟩, d⟩, e⟩, f⟩, g⟩, i⟩, j⟩ := h
  exact ⟨a, b, c, d, e, f, g, i, j⟩
section
variable {α : Type} {p : α → Bool} {xs : List α} {d : α} {k n : Nat}
theorem any_at (h : k < n) (hk : k < xs.length) (hp : p (xs.getD k d) = true) : (xs.take n).any p = true := by
  rw [List.any_eq_true]
  refine ⟨xs[k], ?_, by simpa [hk] using hp⟩
  rw [List.mem_take_iff_getElem]
  exact ⟨k, by omega, rfl⟩
theorem any_take_succ (hk : k < xs.length) (h : (xs.take k).any p = false) (hp : p (xs.getD k d) = false) : (xs.take (k + 1)).any p = false := by
  rw [List.take_add_one, List.any_append, h]
  simpa [hk] using hp
end
theorem ents_takeN {xs : List Ent} {n : Nat} : (rows xs).take (n * 40) = rows (xs.take n) := rows_take (α := Ent) (i := n)
theorem read_in {m : Mem} {by_ : Word} {n : Int} (h : readT m by_ n = 0) : inR n 0 (m.words.length - 1) = true := by
  unfold readT at h
  split at h
  · split at h
    · assumption
    · omega
  · omega
theorem read_no {m : Mem} {by_ : Word} {n : Int} (h : ¬ readT m by_ n = 0) : read m by_ n = (noWord, readT m by_ n) := by rw [read, if_neg h]
theorem read_ok {m : Mem} {by_ : Word} {n : Int} (h : readT m by_ n = 0) : read m by_ n = (filt m (taken by_ (m.words.getD n.toNat noWord)), 0) := by rw [read, if_pos h]
theorem read_fst {m : Mem} {by_ : Word} {n : Int} (h : (read m by_ n).2 ≠ 0) : (read m by_ n).1 = noWord := by
  unfold read at *
  split at h
  · exact absurd rfl h
  · rename_i h1
    rw [if_neg h1]
theorem found_no {c : Cor} {i n : Int} {by_ : Word} (h : (read c.s.mem by_ n).2 ≠ 0) : found c i by_ n = (noWord, (read c.s.mem by_ n).2) := by rw [found, if_pos h]
theorem found_hit {c : Cor} {i n : Int} {by_ : Word} {q : Nat} (h : ¬ (read c.s.mem by_ n).2 ≠ 0) (hl : lastAt (puts n) noEnt c.rob (upTo i c.rob.length) = (q : Int)) : found c i by_ n = (filt c.s.mem (taken by_ (c.rob.getD q noEnt).e.put), 0) := by
  rw [found, if_neg h, if_neg (by omega), hl, Int.toNat_natCast]
theorem found_miss {c : Cor} {i n : Int} {by_ : Word} (h : ¬ (read c.s.mem by_ n).2 ≠ 0) (hl : lastAt (puts n) noEnt c.rob (upTo i c.rob.length) = -1) : found c i by_ n = ((read c.s.mem by_ n).1, 0) := by
  rw [found, if_neg h, if_pos (by omega)]
  exact Prod.ext rfl (Classical.not_not.1 h)
def entAt (c : Cor) (i : Int) : Ent := c.rob.getD i.toNat noEnt
theorem ready_no {c : Cor} {i : Int} (h : ¬ (corOk c = true ∧ inR i 0 (c.rob.length - 1) = true ∧ (c.rob.getD i.toNat noEnt).done = false)) : ready c i = false := by
  rw [← Bool.not_eq_true]
  intro hr
  simp only [ready, Bool.and_eq_true, Bool.not_eq_true'] at hr
  exact h ⟨hr.1.1.1.1.1, hr.1.1.1.1.2, hr.1.1.1.2⟩
theorem ready_eq {c : Cor} {i : Int} (h : corOk c = true ∧ inR i 0 (c.rob.length - 1) = true ∧ (c.rob.getD i.toNat noEnt).done = false) : ready c i =
    ((!hasA (c.rob.getD i.toNat noEnt).x.op || (valueRaw c i (c.rob.getD i.toNat noEnt).x.a).2) && (!hasB (c.rob.getD i.toNat noEnt).x.op || (valueRaw c i (c.rob.getD i.toNat noEnt).x.b).2) &&
      (!decide ((c.rob.getD i.toNat noEnt).x.op = 10) || !(c.rob.take i.toNat).any waits)) := by
  rw [ready, h.1, h.2.1, h.2.2]
  simp only [Bool.not_false, Bool.true_and]
theorem ent_regs {c : Cor} {i : Int} (h : corOk c = true) (hi : i.toNat < c.rob.length) : inR (c.rob.getD i.toNat noEnt).x.r 0 7 = true ∧ inR (c.rob.getD i.toNat noEnt).x.a 0 7 = true ∧ inR (c.rob.getD i.toNat noEnt).x.b 0 7 = true :=
  ins_reg (entOk_parts (ent_ok h hi)).2.2.2.2.2.1
/-! ### marks -/
def mk3 (t : Int) : Bool := decide (t.tmod 3 = 0)
def markW (t : Int) : Word := ⟨t, mk3 (t + 1), ⟨t + 2, t + 3, t + 4, t + 5⟩⟩
def markI (t : Int) : Ins := ⟨t, t + 1, t + 2, t + 3, t + 4⟩
def markF (t : Int) : Fx := ⟨t, t + 1, markW (t + 2), markW (t + 8), t + 14, markW (t + 15), t + 21⟩
def markE (t : Int) : Ent := ⟨markW t, markI (t + 6), mk3 (t + 11), markF (t + 12), markW (t + 34)⟩
def mrow {α : Type} (f : Int → α) (s : Nat) (t : Int) (n : Nat) : List α := (List.range n).map fun i : Nat => f (t + (s * i : Nat))
section
variable {α : Type} {f : Int → α} {s n i : Nat} {t : Int} {d : α}
theorem mrow_len : (mrow f s t n).length = n := by simp [mrow]
theorem mrow_succ : mrow f s t (n + 1) = mrow f s t n ++ [f (t + (s * n : Nat))] := by simp [mrow, List.range_succ]
theorem mrow_get (h : i < n) : (mrow f s t n).getD i d = f (t + (s * i : Nat)) := by simp [mrow, h]
theorem mrow_zero : mrow f s t 0 = [] := rfl
end
theorem mrow_rows {α : Type} [Enc α] {f : Int → α} {s n : Nat} {t u : Int} {xs : List α} {cs : List AV} (hu : u = t + (s * n : Nat)) (hc : cs = Enc.cells (f u)) : rows (mrow f s t n) ++ (cs ++ rows xs) = rows (mrow f s t (n + 1)) ++ rows xs := by
  rw [mrow_succ, rows_append, rows_one, ← hu, hc, List.append_assoc]
theorem putAt_c0 {b c : AV} {B : List AV} : putAt (b :: B) 0 [c] = c :: B := by simp [putAt]
theorem putAt_cs {b c : AV} {B : List AV} {o : Nat} : putAt (b :: B) (o + 1) [c] = b :: putAt B o [c] := by simp [putAt, Nat.add_right_comm]
theorem mrowsW_len {f : Int → Word} {s n : Nat} {t : Int} : (rows (mrow f s t n)).length = n * 6 := by rw [words_len, mrow_len]
theorem mrowsI_len {f : Int → Ins} {s n : Nat} {t : Int} : (rows (mrow f s t n)).length = n * 5 := by rw [inss_len, mrow_len]
theorem mrowsE_len {f : Int → Ent} {s n : Nat} {t : Int} : (rows (mrow f s t n)).length = n * 40 := by rw [ents_len, mrow_len]
theorem mrowsB_len {f : Int → Bool} {s n : Nat} {t : Int} : (rows (mrow f s t n)).length = n := by rw [bools_len, mrow_len]
theorem rows_split {α : Type} [Enc α] {xs : List α} {i : Nat} (h : i < xs.length) : rows (xs.drop i) = Enc.cells (xs.getD i Enc.dflt) ++ rows (xs.drop (i + 1)) := by
  rw [← rows_drop, rows_at h]
section
variable {α : Type} [Enc α] {f : Int → α} {s n o o1 o2 o3 o4 : Nat} {t : Int} {B cs : List AV}
theorem mrows_len : (rows (mrow f s t n)).length = n * Enc.sz α := by rw [rows_len, mrow_len]
theorem putAt_m0 : putAt (rows (mrow f s t n) ++ B) (n * Enc.sz α) cs = rows (mrow f s t n) ++ putAt B 0 cs := putAt_app0 mrows_len
theorem putAt_m1 : putAt (rows (mrow f s t n) ++ B) (n * Enc.sz α + o) cs = rows (mrow f s t n) ++ putAt B o cs := putAt_app mrows_len
theorem putAt_m2 : putAt (rows (mrow f s t n) ++ B) (n * Enc.sz α + o + o1) cs = rows (mrow f s t n) ++ putAt B (o + o1) cs := by rw [Nat.add_assoc, putAt_m1]
theorem putAt_m3 : putAt (rows (mrow f s t n) ++ B) (n * Enc.sz α + o + o1 + o2) cs = rows (mrow f s t n) ++ putAt B (o + o1 + o2) cs := by rw [Nat.add_assoc, Nat.add_assoc, putAt_m1, Nat.add_assoc]
theorem putAt_m4 : putAt (rows (mrow f s t n) ++ B) (n * Enc.sz α + o + o1 + o2 + o3) cs = rows (mrow f s t n) ++ putAt B (o + o1 + o2 + o3) cs := by rw [Nat.add_assoc, Nat.add_assoc, Nat.add_assoc, putAt_m1, Nat.add_assoc, Nat.add_assoc]
end
section
variable {s n o o1 o2 o3 : Nat} {t : Int} {B cs : List AV}
theorem putW0 {f : Int → Word} : putAt (rows (mrow f s t n) ++ B) (n * 6) cs = rows (mrow f s t n) ++ putAt B (0) cs := putAt_m0
theorem putW1 {f : Int → Word} : putAt (rows (mrow f s t n) ++ B) (n * 6 + o) cs = rows (mrow f s t n) ++ putAt B (o) cs := putAt_m1
theorem putW2 {f : Int → Word} : putAt (rows (mrow f s t n) ++ B) (n * 6 + o + o1) cs = rows (mrow f s t n) ++ putAt B (o + o1) cs := putAt_m2
theorem putW3 {f : Int → Word} : putAt (rows (mrow f s t n) ++ B) (n * 6 + o + o1 + o2) cs = rows (mrow f s t n) ++ putAt B (o + o1 + o2) cs := putAt_m3
theorem putW4 {f : Int → Word} : putAt (rows (mrow f s t n) ++ B) (n * 6 + o + o1 + o2 + o3) cs = rows (mrow f s t n) ++ putAt B (o + o1 + o2 + o3) cs := putAt_m4
theorem putI0 {f : Int → Ins} : putAt (rows (mrow f s t n) ++ B) (n * 5) cs = rows (mrow f s t n) ++ putAt B (0) cs := putAt_m0
theorem putI1 {f : Int → Ins} : putAt (rows (mrow f s t n) ++ B) (n * 5 + o) cs = rows (mrow f s t n) ++ putAt B (o) cs := putAt_m1
theorem putI2 {f : Int → Ins} : putAt (rows (mrow f s t n) ++ B) (n * 5 + o + o1) cs = rows (mrow f s t n) ++ putAt B (o + o1) cs := putAt_m2
theorem putI3 {f : Int → Ins} : putAt (rows (mrow f s t n) ++ B) (n * 5 + o + o1 + o2) cs = rows (mrow f s t n) ++ putAt B (o + o1 + o2) cs := putAt_m3
theorem putI4 {f : Int → Ins} : putAt (rows (mrow f s t n) ++ B) (n * 5 + o + o1 + o2 + o3) cs = rows (mrow f s t n) ++ putAt B (o + o1 + o2 + o3) cs := putAt_m4
theorem putE0 {f : Int → Ent} : putAt (rows (mrow f s t n) ++ B) (n * 40) cs = rows (mrow f s t n) ++ putAt B (0) cs := putAt_m0
theorem putE1 {f : Int → Ent} : putAt (rows (mrow f s t n) ++ B) (n * 40 + o) cs = rows (mrow f s t n) ++ putAt B (o) cs := putAt_m1
theorem putE2 {f : Int → Ent} : putAt (rows (mrow f s t n) ++ B) (n * 40 + o + o1) cs = rows (mrow f s t n) ++ putAt B (o + o1) cs := putAt_m2
theorem putE3 {f : Int → Ent} : putAt (rows (mrow f s t n) ++ B) (n * 40 + o + o1 + o2) cs = rows (mrow f s t n) ++ putAt B (o + o1 + o2) cs := putAt_m3
theorem putE4 {f : Int → Ent} : putAt (rows (mrow f s t n) ++ B) (n * 40 + o + o1 + o2 + o3) cs = rows (mrow f s t n) ++ putAt B (o + o1 + o2 + o3) cs := putAt_m4
theorem putP0 {f : Int → Pik} : putAt (rows (mrow f s t n) ++ B) (n * 2) cs = rows (mrow f s t n) ++ putAt B (0) cs := putAt_m0
theorem putP1 {f : Int → Pik} : putAt (rows (mrow f s t n) ++ B) (n * 2 + o) cs = rows (mrow f s t n) ++ putAt B (o) cs := putAt_m1
theorem putP2 {f : Int → Pik} : putAt (rows (mrow f s t n) ++ B) (n * 2 + o + o1) cs = rows (mrow f s t n) ++ putAt B (o + o1) cs := putAt_m2
theorem putP3 {f : Int → Pik} : putAt (rows (mrow f s t n) ++ B) (n * 2 + o + o1 + o2) cs = rows (mrow f s t n) ++ putAt B (o + o1 + o2) cs := putAt_m3
theorem putP4 {f : Int → Pik} : putAt (rows (mrow f s t n) ++ B) (n * 2 + o + o1 + o2 + o3) cs = rows (mrow f s t n) ++ putAt B (o + o1 + o2 + o3) cs := putAt_m4
theorem putB0 {f : Int → Bool} : putAt (rows (mrow f s t n) ++ B) n cs = rows (mrow f s t n) ++ putAt B 0 cs := putAt_app0 (by rw [bools_len, mrow_len])
end
def Mem.marked (m : Mem) (t : Int) : Mem := ⟨mrow markW 6 t m.words.length, mrow mk3 1 (t + (6 * m.words.length : Nat)) m.gone.length⟩
def Mem.cost (m : Mem) : Nat := 6 * m.words.length + m.gone.length
def Stt.marked (s : Stt) (t : Int) : Stt := ⟨mrow markW 6 t s.regs.length, s.pc, s.mem.marked (t + (6 * s.regs.length : Nat)), s.trap⟩
def Stt.cost (s : Stt) : Nat := 6 * s.regs.length + s.mem.cost
def Cor.marked (c : Cor) (t : Int) : Cor := ⟨c.s.marked t, mrow markE 40 (t + c.s.cost) c.rob.length, c.next, c.stop, marks (t + c.s.cost + (40 * c.rob.length : Nat)) c.guesses.length⟩
def Cor.cost (c : Cor) : Nat := c.s.cost + 40 * c.rob.length + c.guesses.length
theorem Mem.cost_le {m : Mem} (h : m.fit) : m.cost ≤ 8388608 := by have := h.1; have := h.2; unfold Mem.cost; omega
theorem Stt.cost_le {s : Stt} (h : s.fit) : s.cost ≤ 16777216 := by have := h.1; have := Mem.cost_le h.2; unfold Stt.cost; omega
theorem Cor.cost_le {c : Cor} (h : c.fit) : c.cost ≤ 134217728 := by have := h.2.1; have := h.2.2; have := Stt.cost_le h.1; unfold Cor.cost; omega
theorem wrapB {x : Int} (a : -9223372036854775808 ≤ x) (b : x ≤ 9223372036854775807) : IntKind.i64.wrap x = x := wrap64 ⟨a, b⟩
theorem ents_put {xs : List Ent} {x : Ent} {i : Nat} (h : i < xs.length) : putAt (rows xs) (i * 40) [AV.int .i64 x.pc.n, AV.bool x.pc.is, AV.int .i64 x.pc.key.base, AV.int .i64 x.pc.key.top, AV.int .i64 x.pc.key.perms, AV.int .i64 x.pc.key.lock, AV.int .i64 x.x.op, AV.int .i64 x.x.r, AV.int .i64 x.x.a, AV.int .i64 x.x.b, AV.int .i64 x.x.n, AV.bool x.done, AV.int .i64 x.e.trap, AV.int .i64 x.e.r, AV.int .i64 x.e.val.n, AV.bool x.e.val.is, AV.int .i64 x.e.val.key.base, AV.int .i64 x.e.val.key.top, AV.int .i64 x.e.val.key.perms, AV.int .i64 x.e.val.key.lock, AV.int .i64 x.e.next.n, AV.bool x.e.next.is, AV.int .i64 x.e.next.key.base, AV.int .i64 x.e.next.key.top, AV.int .i64 x.e.next.key.perms, AV.int .i64 x.e.next.key.lock, AV.int .i64 x.e.adr, AV.int .i64 x.e.put.n, AV.bool x.e.put.is, AV.int .i64 x.e.put.key.base, AV.int .i64 x.e.put.key.top, AV.int .i64 x.e.put.key.perms, AV.int .i64 x.e.put.key.lock, AV.int .i64 x.e.drop, AV.int .i64 x.guess.n, AV.bool x.guess.is, AV.int .i64 x.guess.key.base, AV.int .i64 x.guess.key.top, AV.int .i64 x.guess.key.perms, AV.int .i64 x.guess.key.lock] = rows (xs.set i x) := rows_put h
theorem inss_put {xs : List Ins} {x : Ins} {i : Nat} (h : i < xs.length) : putAt (rows xs) (i * 5) [AV.int .i64 x.op, AV.int .i64 x.r, AV.int .i64 x.a, AV.int .i64 x.b, AV.int .i64 x.n] = rows (xs.set i x) := rows_put h
theorem ents_zero' {n : Nat} : (List.replicate n [AV.int .i64 0, AV.bool false, AV.int .i64 0, AV.int .i64 0, AV.int .i64 0, AV.int .i64 0, AV.int .i64 0, AV.int .i64 0, AV.int .i64 0, AV.int .i64 0, AV.int .i64 0, AV.bool false, AV.int .i64 0, AV.int .i64 0, AV.int .i64 0, AV.bool false, AV.int .i64 0, AV.int .i64 0, AV.int .i64 0, AV.int .i64 0, AV.int .i64 0, AV.bool false, AV.int .i64 0, AV.int .i64 0, AV.int .i64 0, AV.int .i64 0, AV.int .i64 0, AV.int .i64 0, AV.bool false, AV.int .i64 0, AV.int .i64 0, AV.int .i64 0, AV.int .i64 0, AV.int .i64 0, AV.int .i64 0, AV.bool false, AV.int .i64 0, AV.int .i64 0, AV.int .i64 0, AV.int .i64 0]).flatten = rows (List.replicate n noEnt) := rows_rep rfl
attribute [go_sem] ents_zero'
end Go.Proofs.YtokjjeibagmgpaaGreat.AM
