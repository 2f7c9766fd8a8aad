/- What the program's functions come to, by what happens. No conditions. -/
import Derived.Test.YtgpjgljgplngpaaGreatDoorM4
set_option linter.unusedVariables false
set_option linter.unusedSimpArgs false
namespace Go.Proofs.YtgpjgljgplngpaaGreatDoor.AM
open Go

/-! ### the last that is so -/
section
variable {α : Type} {p : α → Bool} {d : α} {xs : List α} {k n : Nat}
end
section
variable {α : Type} {p : α → Bool} {xs : List α} {d : α} {k n : Nat}
end
theorem ents_takeN {xs : List Ent} {n : Nat} : (rows xs).take (n * 40) = rows (xs.take n) := rows_take (α := Ent) (i := n)
def entAt (c : Cor) (i : Int) : Ent := c.rob.getD i.toNat noEnt
/-! ### marks -/
def mk3 (t : Int) : Bool := decide (t.tmod 3 = 0)
def markW (t : Int) : Word := ⟨t, mk3 (t + 1), ⟨t + 2, t + 3, t + 4, t + 5⟩⟩
def markI (t : Int) : Ins := ⟨t, t + 1, t + 2, t + 3, t + 4⟩
def markF (t : Int) : Fx := ⟨t, t + 1, markW (t + 2), markW (t + 8), t + 14, markW (t + 15), t + 21⟩
def markE (t : Int) : Ent := ⟨markW t, markI (t + 6), mk3 (t + 11), markF (t + 12), markW (t + 34)⟩
def mrow {α : Type} (f : Int → α) (s : Nat) (t : Int) (n : Nat) : List α := (List.range n).map fun i : Nat => f (t + (s * i : Nat))
section
variable {α : Type} {f : Int → α} {s n i : Nat} {t : Int} {d : α}
theorem mrow_len : (mrow f s t n).length = n := by simp [mrow]
theorem mrow_succ : mrow f s t (n + 1) = mrow f s t n ++ [f (t + (s * n : Nat))] := by simp [mrow, List.range_succ]
theorem mrow_get (h : i < n) : (mrow f s t n).getD i d = f (t + (s * i : Nat)) := by simp [mrow, h]
end
theorem mrow_rows {α : Type} [Enc α] {f : Int → α} {s n : Nat} {t u : Int} {xs : List α} {cs : List AV} (hu : u = t + (s * n : Nat)) (hc : cs = Enc.cells (f u)) : rows (mrow f s t n) ++ (cs ++ rows xs) = rows (mrow f s t (n + 1)) ++ rows xs := by
  rw [mrow_succ, rows_append, rows_one, ← hu, hc, List.append_assoc]
theorem mrowsE_len {f : Int → Ent} {s n : Nat} {t : Int} : (rows (mrow f s t n)).length = n * 40 := by rw [ents_len, mrow_len]
theorem rows_split {α : Type} [Enc α] {xs : List α} {i : Nat} (h : i < xs.length) : rows (xs.drop i) = Enc.cells (xs.getD i Enc.dflt) ++ rows (xs.drop (i + 1)) := by
  rw [← rows_drop, rows_at h]
section
variable {α : Type} [Enc α] {f : Int → α} {s n o o1 o2 o3 o4 : Nat} {t : Int} {B cs : List AV}
theorem mrows_len : (rows (mrow f s t n)).length = n * Enc.sz α := by rw [rows_len, mrow_len]
theorem putAt_m0 : putAt (rows (mrow f s t n) ++ B) (n * Enc.sz α) cs = rows (mrow f s t n) ++ putAt B 0 cs := putAt_app0 mrows_len
theorem putAt_m1 : putAt (rows (mrow f s t n) ++ B) (n * Enc.sz α + o) cs = rows (mrow f s t n) ++ putAt B o cs := putAt_app mrows_len
theorem putAt_m2 : putAt (rows (mrow f s t n) ++ B) (n * Enc.sz α + o + o1) cs = rows (mrow f s t n) ++ putAt B (o + o1) cs := by rw [Nat.add_assoc, putAt_m1]
end
section
variable {s n o o1 o2 o3 : Nat} {t : Int} {B cs : List AV}
theorem putW0 {f : Int → Word} : putAt (rows (mrow f s t n) ++ B) (n * 6) cs = rows (mrow f s t n) ++ putAt B (0) cs := putAt_m0
theorem putW1 {f : Int → Word} : putAt (rows (mrow f s t n) ++ B) (n * 6 + o) cs = rows (mrow f s t n) ++ putAt B (o) cs := putAt_m1
theorem putW2 {f : Int → Word} : putAt (rows (mrow f s t n) ++ B) (n * 6 + o + o1) cs = rows (mrow f s t n) ++ putAt B (o + o1) cs := putAt_m2
theorem putI0 {f : Int → Ins} : putAt (rows (mrow f s t n) ++ B) (n * 5) cs = rows (mrow f s t n) ++ putAt B (0) cs := putAt_m0
theorem putI1 {f : Int → Ins} : putAt (rows (mrow f s t n) ++ B) (n * 5 + o) cs = rows (mrow f s t n) ++ putAt B (o) cs := putAt_m1
theorem putB0 {f : Int → Bool} : putAt (rows (mrow f s t n) ++ B) n cs = rows (mrow f s t n) ++ putAt B 0 cs := putAt_app0 (by rw [bools_len, mrow_len])
end
def Mem.marked (m : Mem) (t : Int) : Mem := ⟨mrow markW 6 t m.words.length, mrow mk3 1 (t + (6 * m.words.length : Nat)) m.gone.length⟩
def Mem.cost (m : Mem) : Nat := 6 * m.words.length + m.gone.length
def Stt.marked (s : Stt) (t : Int) : Stt := ⟨mrow markW 6 t s.regs.length, s.pc, s.mem.marked (t + (6 * s.regs.length : Nat)), s.trap⟩
def Stt.cost (s : Stt) : Nat := 6 * s.regs.length + s.mem.cost
def Cor.marked (c : Cor) (t : Int) : Cor := ⟨c.s.marked t, mrow markE 40 (t + c.s.cost) c.rob.length, c.next, c.stop, marks (t + c.s.cost + (40 * c.rob.length : Nat)) c.guesses.length⟩
def Cor.cost (c : Cor) : Nat := c.s.cost + 40 * c.rob.length + c.guesses.length
theorem Mem.cost_le {m : Mem} (h : m.fit) : m.cost ≤ 8388608 := by have := h.1; have := h.2; unfold Mem.cost; omega
theorem Stt.cost_le {s : Stt} (h : s.fit) : s.cost ≤ 16777216 := by have := h.1; have := Mem.cost_le h.2; unfold Stt.cost; omega
theorem Cor.cost_le {c : Cor} (h : c.fit) : c.cost ≤ 134217728 := by have := h.2.1; have := h.2.2; have := Stt.cost_le h.1; unfold Cor.cost; omega
theorem ents_zero' {n : Nat} : (List.replicate n [AV.int .i64 0, AV.bool false, AV.int .i64 0, AV.int .i64 0, AV.int .i64 0, AV.int .i64 0, AV.int .i64 0, AV.int .i64 0, AV.int .i64 0, AV.int .i64 0, AV.int .i64 0, AV.bool false, AV.int .i64 0, AV.int .i64 0, AV.int .i64 0, AV.bool false, AV.int .i64 0, AV.int .i64 0, AV.int .i64 0, AV.int .i64 0, AV.int .i64 0, AV.bool false, AV.int .i64 0, AV.int .i64 0, AV.int .i64 0, AV.int .i64 0, AV.int .i64 0, AV.int .i64 0, AV.bool false, AV.int .i64 0, AV.int .i64 0, AV.int .i64 0, AV.int .i64 0, AV.int .i64 0, AV.int .i64 0, AV.bool false, AV.int .i64 0, AV.int .i64 0, AV.int .i64 0, AV.int .i64 0]).flatten = rows (List.replicate n noEnt) := rows_rep rfl
attribute [go_sem] ents_zero'
end Go.Proofs.YtgpjgljgplngpaaGreatDoor.AM
set_option linter.unusedVariables false
set_option linter.unusedSimpArgs false
namespace Go.Proofs.YtgpjgljgplngpaaGreatDoor.AM
open Go

def slW (xs : List Word) : AV := .sl xs.length xs.length (rows xs)
section
variable {L : List (List Word)} {i : Nat}
end
/-- What is left of a row, if the rest is taken out. -/
def kept (p : Word → Bool) (xs : List Word) : List Word := xs.filter fun w => !p w
/-- Is a part of an entry known, as the program asks it. -/
def knownB (c : Cor) (i p : Int) : Bool := !hasI (c.rob.getD i.toNat noEnt).x.op p || (value c i (partI (c.rob.getD i.toNat noEnt).x p)).2
section
variable {c : Cor} {i : Int}
end
/-! ### keys of a state -/
theorem words_takeL {xs : List Word} {n : Nat} (h : n = xs.length) : (rows xs).take (n * 6) = rows xs := by rw [h]; exact words_take
end Go.Proofs.YtgpjgljgplngpaaGreatDoor.AM
set_option linter.unusedVariables false
set_option linter.unusedSimpArgs false
namespace Go.Proofs.YtgpjgljgplngpaaGreatDoor.AM
open Go

/-! ### guards in a drawn stretch -/
section
variable {P : Program} {H : Heap} {ρ : Env} {K : Env → Heap → Prop} {ops : Array Oper} {l rest : List SOp} {acc : List Foot} {d : Option Tmp} {op : Op} {t : Tmp} {w : Bool}
theorem awpDS_onT (h : ρ t = .bool true) : awpDS P ops K ((d, op, some (t, true)) :: rest) acc ρ H = awpDS P ops K ((d, op, none) :: rest) acc ρ H := by simp [awpDS, gTest, h]
theorem awpDS_onF (h : ρ t = .bool false) : awpDS P ops K ((d, op, some (t, false)) :: rest) acc ρ H = awpDS P ops K ((d, op, none) :: rest) acc ρ H := by simp [awpDS, gTest, h]
theorem awpDS_offT (h : ρ t = .bool false) : awpDS P ops K ((d, op, some (t, true)) :: rest) acc ρ H = awpDS P ops K rest (⟨H.length, H.length, [], []⟩ :: acc) (updO ρ d (.tuple [])) H := by simp [awpDS, gTest, h]
theorem awpDS_offF (h : ρ t = .bool true) : awpDS P ops K ((d, op, some (t, false)) :: rest) acc ρ H = awpDS P ops K rest (⟨H.length, H.length, [], []⟩ :: acc) (updO ρ d (.tuple [])) H := by simp [awpDS, gTest, h]
theorem awpDS_offU (h : ρ t = .tuple []) : awpDS P ops K ((d, op, some (t, w)) :: rest) acc ρ H = awpDS P ops K rest (⟨H.length, H.length, [], []⟩ :: acc) (updO ρ d (.tuple [])) H := by simp [awpDS, gTest, h]
end
attribute [go_sem] awpDS_onT awpDS_onF awpDS_offT awpDS_offF awpDS_offU
/-! ### what a core holds -/
def five (x : Ent) : List Word := [x.pc, x.guess, x.e.val, x.e.next, x.e.put]
def heldUp (c : Cor) (i : Nat) : List Word := keys c.s ++ ((c.rob.take i).map heldE).flatten
section
variable {s n : Nat} {t : Int}
theorem mrow_takeW {f : Int → Word} : (rows (mrow f s t n)).take (n * 6) = rows (mrow f s t n) := words_takeL mrow_len.symm
theorem mrow_takeE {f : Int → Ent} : (rows (mrow f s t n)).take (n * 40) = rows (mrow f s t n) := by
  rw [ents_takeN, List.take_of_length_le (by rw [mrow_len]; exact Nat.le_refl _)]
theorem mrow_takeI {f : Int → Ins} : (rows (mrow f s t n)).take (n * 5) = rows (mrow f s t n) := by
  have := inss_take (xs := mrow f s t n)
  rwa [mrow_len] at this
theorem mrow_takeB {f : Int → Bool} : (rows (mrow f s t n)).take n = rows (mrow f s t n) := by
  have := bools_take (xs := mrow f s t n)
  rwa [mrow_len] at this
end
attribute [go_sem] mrow_takeW mrow_takeE mrow_takeI mrow_takeB
end Go.Proofs.YtgpjgljgplngpaaGreatDoor.AM
set_option linter.unusedVariables false
set_option linter.unusedSimpArgs false
namespace Go.Proofs.YtgpjgljgplngpaaGreatDoor.AM
open Go

section
variable {P : Program} {H : Heap} {ρ : Env} {k : Nat}
/-- A function's end, where empty rows come back as empty blocks. -/
theorem retN {rs : List ResultVar} {vs : List AV} {v w w' : AV} {h' H' : Heap} (szs keep m : List Nat) (hm : List.range k ++ keep = m) (h1 : aRes P H ρ rs = some vs) (ha : aResult vs = v) (hr : Ref H.length (H.length + szs.length) v w)
    (hH : H ++ szs.map (fun s => (⟨s, [], true, false⟩ : Blk)) = H') (h2 : m.Nodup) (h3 : Nat.ble k H'.length = true) (h4 : (keep.all fun id => match H'[id]? with | some b => b.live | none => false) = true)
    (hv : bor [] (idx m) fuel w = w') (hh : gcH m H' = h') : retQ P rs k (fun v' h'' => v' = w' ∧ h'' = h') .ret ρ H := by
  subst hm ha
  refine ret_norm szs keep vs w h1 hr hH h2 (Nat.le_of_ble_eq_true h3) (fun id hid => ?_) ⟨hv, hh⟩
  have := List.all_eq_true.1 h4 id hid
  split at this
  · rename_i b hb
    exact ⟨b, hb, this⟩
  · cases this
end
section
variable {l : List Ins} {s : Stt} {w : Word}
end
end Go.Proofs.YtgpjgljgplngpaaGreatDoor.AM
set_option linter.unusedVariables false
set_option linter.unusedSimpArgs false
namespace Go.Proofs.YtgpjgljgplngpaaGreatDoor.AM
open Go

theorem ints_putMany {xs ys : List Int} {i : Nat} : putAt (ints xs) i (ints ys) = ints (xs.take i ++ (ys ++ xs.drop (i + ys.length))) := by
  simp [putAt, ints, List.map_take, List.map_drop]
theorem ints_takeN {xs : List Int} {n : Nat} : (ints xs).take n = ints (xs.take n) := by simp [ints, List.map_take]
def gfill (m : Nat) : List Int := List.replicate m (-1) ++ List.replicate (48 - m) 0
theorem gfill_len {m : Nat} (h : m ≤ 48) : (gfill m).length = 48 := by simp [gfill]; omega
theorem gfill_one : (List.replicate 48 (0 : Int)).set 0 (-1) = gfill 1 := rfl
theorem gfill_end : gfill 48 = guessNew := by simp [gfill, guessNew]
theorem gfill_copy {m : Nat} (h : m ≤ 48) : putAt (ints (gfill m)) m (((ints (gfill m)).take m).take (Nat.min m (48 - m))) = ints (gfill (m + Nat.min m (48 - m))) := by
  have e1 : (gfill m).take m = List.replicate m (-1) := by rw [gfill, List.take_left' (by simp)]
  have e2 : Nat.min m (48 - m) = min m (48 - m) := rfl
  rw [ints_takeN, e1, ints_takeN, List.take_replicate, e2, show min (min m (48 - m)) m = min m (48 - m) by omega, ints_putMany, e1]
  congr 1
  have e3 : (gfill m).drop (m + (List.replicate (min m (48 - m)) (-1 : Int)).length) = List.replicate (48 - (m + min m (48 - m))) 0 := by
    rw [List.length_replicate, ← List.drop_drop, gfill, List.drop_left' (by simp), List.drop_replicate]
    congr 1
    omega
  rw [e3, gfill, ← List.append_assoc, List.replicate_append_replicate]
theorem rep_snoc {i : Nat} : ints (List.replicate (i + 1) (-1)) = ints (List.replicate i (-1)) ++ [.int .i64 (-1)] := by
  rw [List.replicate_succ', ints, List.map_append]; rfl
theorem ints_takeR {i : Nat} : (ints (List.replicate i (-1))).take i = ints (List.replicate i (-1)) := by rw [ints_takeN, List.take_of_length_le (by simp)]
theorem ints_lenR {i : Nat} : (ints (List.replicate i (-1))).length = i := by simp [ints]
theorem ints_lenF {m : Nat} (h : m ≤ 48) : (ints (gfill m)).length = 48 := by rw [ints_len, gfill_len h]
theorem wu1 : IntKind.u64.wrap 1 = 1 := by decide
theorem wu48 : IntKind.u64.wrap 48 = 48 := by decide
theorem wi48 : IntKind.i64.wrap 48 = 48 := by decide
theorem wi1 : IntKind.i64.wrap 1 = 1 := by decide
end Go.Proofs.YtgpjgljgplngpaaGreatDoor.AM
set_option linter.unusedVariables false
set_option linter.unusedSimpArgs false
namespace Go.Proofs.YtgpjgljgplngpaaGreatDoor.AM
open Go

/-- A function's code; a part of some code (0: the first of two, 1: the second, 2: what stands inside). -/
def fnCode (f : Func) : Code := match f.body with
  | some c => c
  | none => .skip
def codeAt : Code → List Nat → Code
  | c, [] => c
  | .seq a b, n :: p => if n = 0 then codeAt a p else codeAt b p
  | .block _ c, _ :: p => codeAt c p
  | .loop c, _ :: p => codeAt c p
  | c, _ :: _ => c
def markQ (s : Int) : Ent := ⟨⟨s, decide ((s + 1).tmod 3 = 0), ⟨s + 2, s + 3, s + 4, s + 5⟩⟩, ⟨s + 6, s + 7, s + 8, s + 9, s + 10⟩, decide ((s + 11).tmod 3 = 0), ⟨s + 12, s + 13, ⟨s + 14, decide ((s + 15).tmod 3 = 0), ⟨s + 16, s + 17, s + 18, s + 19⟩⟩, ⟨s + 20, decide ((s + 21).tmod 3 = 0), ⟨s + 22, s + 23, s + 24, s + 25⟩⟩, s + 26, ⟨s + 27, decide ((s + 28).tmod 3 = 0), ⟨s + 29, s + 30, s + 31, s + 32⟩⟩, s + 33⟩, ⟨s + 34, decide ((s + 35).tmod 3 = 0), ⟨s + 36, s + 37, s + 38, s + 39⟩⟩⟩
/-- The first j cells are marked. -/
def mixQ (s : Int) (x : Ent) (j : Nat) : List AV := (Ent.cells (markQ s)).take j ++ (Ent.cells x).drop j
theorem entc_len {x : Ent} : (Ent.cells x).length = 40 := rfl
theorem mixQ_len {s : Int} {x : Ent} {j : Nat} : (mixQ s x j).length = 40 := by
  rw [mixQ, List.length_append, List.length_take, List.length_drop, entc_len, entc_len]
  omega
section
variable {s t : Int} {x : Ent} {n : Nat} {R : List AV}
theorem mixQ_put {j m : Nat} {v : AV} (hm : m = n * 40 + j) (hj : j < 40) (hv : (Ent.cells (markQ s))[j]? = some v) : putAt (rows (mrow markQ 40 t n) ++ (mixQ s x j ++ R)) m [v] = rows (mrow markQ 40 t n) ++ (mixQ s x (j + 1) ++ R) := by
  subst hm
  rw [putAt_app (mrowsE_len (f := markQ))]
  congr 1
  have h1 : mixQ s x j ++ R = (Ent.cells (markQ s)).take j ++ ((Ent.cells x).drop j ++ R) := by rw [mixQ, List.append_assoc]
  have h2 : ((Ent.cells (markQ s)).take j).length = j := by rw [List.length_take, entc_len]; omega
  have h3 : (Ent.cells x).drop j = (Ent.cells x)[j]'(by rw [entc_len]; exact hj) :: (Ent.cells x).drop (j + 1) := List.drop_eq_getElem_cons _
  rw [h1, putAt_app0 h2, h3, List.cons_append, putAt_zero, mixQ, List.take_add_one, hv]
  simp [putAt]

theorem mixQ0 : putAt (rows (mrow markQ 40 t n) ++ (mixQ s x 0 ++ R)) (n * 40) [.int .i64 (s)] = rows (mrow markQ 40 t n) ++ (mixQ s x 1 ++ R) := mixQ_put rfl (by decide) rfl
theorem mixQ1 : putAt (rows (mrow markQ 40 t n) ++ (mixQ s x 1 ++ R)) (n * 40 + 1) [.bool (decide ((s + 1).tmod 3 = 0))] = rows (mrow markQ 40 t n) ++ (mixQ s x 2 ++ R) := mixQ_put rfl (by decide) rfl
theorem mixQ2 : putAt (rows (mrow markQ 40 t n) ++ (mixQ s x 2 ++ R)) (n * 40 + 2) [.int .i64 (s + 2)] = rows (mrow markQ 40 t n) ++ (mixQ s x 3 ++ R) := mixQ_put rfl (by decide) rfl
theorem mixQ3 : putAt (rows (mrow markQ 40 t n) ++ (mixQ s x 3 ++ R)) (n * 40 + 2 + 1) [.int .i64 (s + 3)] = rows (mrow markQ 40 t n) ++ (mixQ s x 4 ++ R) := mixQ_put (by simp only [Nat.add_assoc]) (by decide) rfl
theorem mixQ4 : putAt (rows (mrow markQ 40 t n) ++ (mixQ s x 4 ++ R)) (n * 40 + 2 + 2) [.int .i64 (s + 4)] = rows (mrow markQ 40 t n) ++ (mixQ s x 5 ++ R) := mixQ_put (by simp only [Nat.add_assoc]) (by decide) rfl
theorem mixQ5 : putAt (rows (mrow markQ 40 t n) ++ (mixQ s x 5 ++ R)) (n * 40 + 2 + 3) [.int .i64 (s + 5)] = rows (mrow markQ 40 t n) ++ (mixQ s x 6 ++ R) := mixQ_put (by simp only [Nat.add_assoc]) (by decide) rfl
theorem mixQ6 : putAt (rows (mrow markQ 40 t n) ++ (mixQ s x 6 ++ R)) (n * 40 + 6) [.int .i64 (s + 6)] = rows (mrow markQ 40 t n) ++ (mixQ s x 7 ++ R) := mixQ_put rfl (by decide) rfl
theorem mixQ7 : putAt (rows (mrow markQ 40 t n) ++ (mixQ s x 7 ++ R)) (n * 40 + 6 + 1) [.int .i64 (s + 7)] = rows (mrow markQ 40 t n) ++ (mixQ s x 8 ++ R) := mixQ_put (by simp only [Nat.add_assoc]) (by decide) rfl
theorem mixQ8 : putAt (rows (mrow markQ 40 t n) ++ (mixQ s x 8 ++ R)) (n * 40 + 6 + 2) [.int .i64 (s + 8)] = rows (mrow markQ 40 t n) ++ (mixQ s x 9 ++ R) := mixQ_put (by simp only [Nat.add_assoc]) (by decide) rfl
theorem mixQ9 : putAt (rows (mrow markQ 40 t n) ++ (mixQ s x 9 ++ R)) (n * 40 + 6 + 3) [.int .i64 (s + 9)] = rows (mrow markQ 40 t n) ++ (mixQ s x 10 ++ R) := mixQ_put (by simp only [Nat.add_assoc]) (by decide) rfl
theorem mixQ10 : putAt (rows (mrow markQ 40 t n) ++ (mixQ s x 10 ++ R)) (n * 40 + 6 + 4) [.int .i64 (s + 10)] = rows (mrow markQ 40 t n) ++ (mixQ s x 11 ++ R) := mixQ_put (by simp only [Nat.add_assoc]) (by decide) rfl
theorem mixQ11 : putAt (rows (mrow markQ 40 t n) ++ (mixQ s x 11 ++ R)) (n * 40 + 11) [.bool (decide ((s + 11).tmod 3 = 0))] = rows (mrow markQ 40 t n) ++ (mixQ s x 12 ++ R) := mixQ_put rfl (by decide) rfl
theorem mixQ12 : putAt (rows (mrow markQ 40 t n) ++ (mixQ s x 12 ++ R)) (n * 40 + 12) [.int .i64 (s + 12)] = rows (mrow markQ 40 t n) ++ (mixQ s x 13 ++ R) := mixQ_put rfl (by decide) rfl
theorem mixQ13 : putAt (rows (mrow markQ 40 t n) ++ (mixQ s x 13 ++ R)) (n * 40 + 12 + 1) [.int .i64 (s + 13)] = rows (mrow markQ 40 t n) ++ (mixQ s x 14 ++ R) := mixQ_put (by simp only [Nat.add_assoc]) (by decide) rfl
theorem mixQ14 : putAt (rows (mrow markQ 40 t n) ++ (mixQ s x 14 ++ R)) (n * 40 + 12 + 2) [.int .i64 (s + 14)] = rows (mrow markQ 40 t n) ++ (mixQ s x 15 ++ R) := mixQ_put (by simp only [Nat.add_assoc]) (by decide) rfl
theorem mixQ15 : putAt (rows (mrow markQ 40 t n) ++ (mixQ s x 15 ++ R)) (n * 40 + 12 + 2 + 1) [.bool (decide ((s + 15).tmod 3 = 0))] = rows (mrow markQ 40 t n) ++ (mixQ s x 16 ++ R) := mixQ_put (by simp only [Nat.add_assoc]) (by decide) rfl
theorem mixQ16 : putAt (rows (mrow markQ 40 t n) ++ (mixQ s x 16 ++ R)) (n * 40 + 12 + 2 + 2) [.int .i64 (s + 16)] = rows (mrow markQ 40 t n) ++ (mixQ s x 17 ++ R) := mixQ_put (by simp only [Nat.add_assoc]) (by decide) rfl
theorem mixQ17 : putAt (rows (mrow markQ 40 t n) ++ (mixQ s x 17 ++ R)) (n * 40 + 12 + 2 + 2 + 1) [.int .i64 (s + 17)] = rows (mrow markQ 40 t n) ++ (mixQ s x 18 ++ R) := mixQ_put (by simp only [Nat.add_assoc]) (by decide) rfl
theorem mixQ18 : putAt (rows (mrow markQ 40 t n) ++ (mixQ s x 18 ++ R)) (n * 40 + 12 + 2 + 2 + 2) [.int .i64 (s + 18)] = rows (mrow markQ 40 t n) ++ (mixQ s x 19 ++ R) := mixQ_put (by simp only [Nat.add_assoc]) (by decide) rfl
theorem mixQ19 : putAt (rows (mrow markQ 40 t n) ++ (mixQ s x 19 ++ R)) (n * 40 + 12 + 2 + 2 + 3) [.int .i64 (s + 19)] = rows (mrow markQ 40 t n) ++ (mixQ s x 20 ++ R) := mixQ_put (by simp only [Nat.add_assoc]) (by decide) rfl
theorem mixQ20 : putAt (rows (mrow markQ 40 t n) ++ (mixQ s x 20 ++ R)) (n * 40 + 12 + 8) [.int .i64 (s + 20)] = rows (mrow markQ 40 t n) ++ (mixQ s x 21 ++ R) := mixQ_put (by simp only [Nat.add_assoc]) (by decide) rfl
theorem mixQ21 : putAt (rows (mrow markQ 40 t n) ++ (mixQ s x 21 ++ R)) (n * 40 + 12 + 8 + 1) [.bool (decide ((s + 21).tmod 3 = 0))] = rows (mrow markQ 40 t n) ++ (mixQ s x 22 ++ R) := mixQ_put (by simp only [Nat.add_assoc]) (by decide) rfl
theorem mixQ22 : putAt (rows (mrow markQ 40 t n) ++ (mixQ s x 22 ++ R)) (n * 40 + 12 + 8 + 2) [.int .i64 (s + 22)] = rows (mrow markQ 40 t n) ++ (mixQ s x 23 ++ R) := mixQ_put (by simp only [Nat.add_assoc]) (by decide) rfl
theorem mixQ23 : putAt (rows (mrow markQ 40 t n) ++ (mixQ s x 23 ++ R)) (n * 40 + 12 + 8 + 2 + 1) [.int .i64 (s + 23)] = rows (mrow markQ 40 t n) ++ (mixQ s x 24 ++ R) := mixQ_put (by simp only [Nat.add_assoc]) (by decide) rfl
theorem mixQ24 : putAt (rows (mrow markQ 40 t n) ++ (mixQ s x 24 ++ R)) (n * 40 + 12 + 8 + 2 + 2) [.int .i64 (s + 24)] = rows (mrow markQ 40 t n) ++ (mixQ s x 25 ++ R) := mixQ_put (by simp only [Nat.add_assoc]) (by decide) rfl
theorem mixQ25 : putAt (rows (mrow markQ 40 t n) ++ (mixQ s x 25 ++ R)) (n * 40 + 12 + 8 + 2 + 3) [.int .i64 (s + 25)] = rows (mrow markQ 40 t n) ++ (mixQ s x 26 ++ R) := mixQ_put (by simp only [Nat.add_assoc]) (by decide) rfl
theorem mixQ26 : putAt (rows (mrow markQ 40 t n) ++ (mixQ s x 26 ++ R)) (n * 40 + 12 + 14) [.int .i64 (s + 26)] = rows (mrow markQ 40 t n) ++ (mixQ s x 27 ++ R) := mixQ_put (by simp only [Nat.add_assoc]) (by decide) rfl
theorem mixQ27 : putAt (rows (mrow markQ 40 t n) ++ (mixQ s x 27 ++ R)) (n * 40 + 12 + 15) [.int .i64 (s + 27)] = rows (mrow markQ 40 t n) ++ (mixQ s x 28 ++ R) := mixQ_put (by simp only [Nat.add_assoc]) (by decide) rfl
theorem mixQ28 : putAt (rows (mrow markQ 40 t n) ++ (mixQ s x 28 ++ R)) (n * 40 + 12 + 15 + 1) [.bool (decide ((s + 28).tmod 3 = 0))] = rows (mrow markQ 40 t n) ++ (mixQ s x 29 ++ R) := mixQ_put (by simp only [Nat.add_assoc]) (by decide) rfl
theorem mixQ29 : putAt (rows (mrow markQ 40 t n) ++ (mixQ s x 29 ++ R)) (n * 40 + 12 + 15 + 2) [.int .i64 (s + 29)] = rows (mrow markQ 40 t n) ++ (mixQ s x 30 ++ R) := mixQ_put (by simp only [Nat.add_assoc]) (by decide) rfl
theorem mixQ30 : putAt (rows (mrow markQ 40 t n) ++ (mixQ s x 30 ++ R)) (n * 40 + 12 + 15 + 2 + 1) [.int .i64 (s + 30)] = rows (mrow markQ 40 t n) ++ (mixQ s x 31 ++ R) := mixQ_put (by simp only [Nat.add_assoc]) (by decide) rfl
theorem mixQ31 : putAt (rows (mrow markQ 40 t n) ++ (mixQ s x 31 ++ R)) (n * 40 + 12 + 15 + 2 + 2) [.int .i64 (s + 31)] = rows (mrow markQ 40 t n) ++ (mixQ s x 32 ++ R) := mixQ_put (by simp only [Nat.add_assoc]) (by decide) rfl
theorem mixQ32 : putAt (rows (mrow markQ 40 t n) ++ (mixQ s x 32 ++ R)) (n * 40 + 12 + 15 + 2 + 3) [.int .i64 (s + 32)] = rows (mrow markQ 40 t n) ++ (mixQ s x 33 ++ R) := mixQ_put (by simp only [Nat.add_assoc]) (by decide) rfl
theorem mixQ33 : putAt (rows (mrow markQ 40 t n) ++ (mixQ s x 33 ++ R)) (n * 40 + 12 + 21) [.int .i64 (s + 33)] = rows (mrow markQ 40 t n) ++ (mixQ s x 34 ++ R) := mixQ_put (by simp only [Nat.add_assoc]) (by decide) rfl
theorem mixQ34 : putAt (rows (mrow markQ 40 t n) ++ (mixQ s x 34 ++ R)) (n * 40 + 34) [.int .i64 (s + 34)] = rows (mrow markQ 40 t n) ++ (mixQ s x 35 ++ R) := mixQ_put rfl (by decide) rfl
theorem mixQ35 : putAt (rows (mrow markQ 40 t n) ++ (mixQ s x 35 ++ R)) (n * 40 + 34 + 1) [.bool (decide ((s + 35).tmod 3 = 0))] = rows (mrow markQ 40 t n) ++ (mixQ s x 36 ++ R) := mixQ_put (by simp only [Nat.add_assoc]) (by decide) rfl
theorem mixQ36 : putAt (rows (mrow markQ 40 t n) ++ (mixQ s x 36 ++ R)) (n * 40 + 34 + 2) [.int .i64 (s + 36)] = rows (mrow markQ 40 t n) ++ (mixQ s x 37 ++ R) := mixQ_put (by simp only [Nat.add_assoc]) (by decide) rfl
theorem mixQ37 : putAt (rows (mrow markQ 40 t n) ++ (mixQ s x 37 ++ R)) (n * 40 + 34 + 2 + 1) [.int .i64 (s + 37)] = rows (mrow markQ 40 t n) ++ (mixQ s x 38 ++ R) := mixQ_put (by simp only [Nat.add_assoc]) (by decide) rfl
theorem mixQ38 : putAt (rows (mrow markQ 40 t n) ++ (mixQ s x 38 ++ R)) (n * 40 + 34 + 2 + 2) [.int .i64 (s + 38)] = rows (mrow markQ 40 t n) ++ (mixQ s x 39 ++ R) := mixQ_put (by simp only [Nat.add_assoc]) (by decide) rfl
theorem mixQ39 : putAt (rows (mrow markQ 40 t n) ++ (mixQ s x 39 ++ R)) (n * 40 + 34 + 2 + 3) [.int .i64 (s + 39)] = rows (mrow markQ 40 t n) ++ (mixQ s x 40 ++ R) := mixQ_put (by simp only [Nat.add_assoc]) (by decide) rfl
theorem seeQ0 {z : Nat} (h : n < z) (hs : s = t + (40 * n : Nat)) : ((rows (mrow markQ 40 t z)).drop (n * 40)).head? = some (.int .i64 (s)) := by
  rw [ents_at (by rw [mrow_len]; exact h), mrow_get h, ← hs]
  rfl
theorem seeQ1 {z : Nat} (h : n < z) (hs : s = t + (40 * n : Nat)) : (((rows (mrow markQ 40 t z)).drop (n * 40)).drop 1).head? = some (.bool (decide ((s + 1).tmod 3 = 0))) := by
  rw [ents_at (by rw [mrow_len]; exact h), mrow_get h, ← hs]
  rfl
theorem seeQ2 {z : Nat} (h : n < z) (hs : s = t + (40 * n : Nat)) : (((rows (mrow markQ 40 t z)).drop (n * 40)).drop 2).head? = some (.int .i64 (s + 2)) := by
  rw [ents_at (by rw [mrow_len]; exact h), mrow_get h, ← hs]
  rfl
theorem seeQ3 {z : Nat} (h : n < z) (hs : s = t + (40 * n : Nat)) : ((((rows (mrow markQ 40 t z)).drop (n * 40)).drop 2).drop 1).head? = some (.int .i64 (s + 3)) := by
  rw [ents_at (by rw [mrow_len]; exact h), mrow_get h, ← hs]
  rfl
theorem seeQ4 {z : Nat} (h : n < z) (hs : s = t + (40 * n : Nat)) : ((((rows (mrow markQ 40 t z)).drop (n * 40)).drop 2).drop 2).head? = some (.int .i64 (s + 4)) := by
  rw [ents_at (by rw [mrow_len]; exact h), mrow_get h, ← hs]
  rfl
theorem seeQ5 {z : Nat} (h : n < z) (hs : s = t + (40 * n : Nat)) : ((((rows (mrow markQ 40 t z)).drop (n * 40)).drop 2).drop 3).head? = some (.int .i64 (s + 5)) := by
  rw [ents_at (by rw [mrow_len]; exact h), mrow_get h, ← hs]
  rfl
theorem seeQ6 {z : Nat} (h : n < z) (hs : s = t + (40 * n : Nat)) : (((rows (mrow markQ 40 t z)).drop (n * 40)).drop 6).head? = some (.int .i64 (s + 6)) := by
  rw [ents_at (by rw [mrow_len]; exact h), mrow_get h, ← hs]
  rfl
theorem seeQ7 {z : Nat} (h : n < z) (hs : s = t + (40 * n : Nat)) : ((((rows (mrow markQ 40 t z)).drop (n * 40)).drop 6).drop 1).head? = some (.int .i64 (s + 7)) := by
  rw [ents_at (by rw [mrow_len]; exact h), mrow_get h, ← hs]
  rfl
theorem seeQ8 {z : Nat} (h : n < z) (hs : s = t + (40 * n : Nat)) : ((((rows (mrow markQ 40 t z)).drop (n * 40)).drop 6).drop 2).head? = some (.int .i64 (s + 8)) := by
  rw [ents_at (by rw [mrow_len]; exact h), mrow_get h, ← hs]
  rfl
theorem seeQ9 {z : Nat} (h : n < z) (hs : s = t + (40 * n : Nat)) : ((((rows (mrow markQ 40 t z)).drop (n * 40)).drop 6).drop 3).head? = some (.int .i64 (s + 9)) := by
  rw [ents_at (by rw [mrow_len]; exact h), mrow_get h, ← hs]
  rfl
theorem seeQ10 {z : Nat} (h : n < z) (hs : s = t + (40 * n : Nat)) : ((((rows (mrow markQ 40 t z)).drop (n * 40)).drop 6).drop 4).head? = some (.int .i64 (s + 10)) := by
  rw [ents_at (by rw [mrow_len]; exact h), mrow_get h, ← hs]
  rfl
theorem seeQ11 {z : Nat} (h : n < z) (hs : s = t + (40 * n : Nat)) : (((rows (mrow markQ 40 t z)).drop (n * 40)).drop 11).head? = some (.bool (decide ((s + 11).tmod 3 = 0))) := by
  rw [ents_at (by rw [mrow_len]; exact h), mrow_get h, ← hs]
  rfl
theorem seeQ12 {z : Nat} (h : n < z) (hs : s = t + (40 * n : Nat)) : (((rows (mrow markQ 40 t z)).drop (n * 40)).drop 12).head? = some (.int .i64 (s + 12)) := by
  rw [ents_at (by rw [mrow_len]; exact h), mrow_get h, ← hs]
  rfl
theorem seeQ13 {z : Nat} (h : n < z) (hs : s = t + (40 * n : Nat)) : ((((rows (mrow markQ 40 t z)).drop (n * 40)).drop 12).drop 1).head? = some (.int .i64 (s + 13)) := by
  rw [ents_at (by rw [mrow_len]; exact h), mrow_get h, ← hs]
  rfl
theorem seeQ14 {z : Nat} (h : n < z) (hs : s = t + (40 * n : Nat)) : ((((rows (mrow markQ 40 t z)).drop (n * 40)).drop 12).drop 2).head? = some (.int .i64 (s + 14)) := by
  rw [ents_at (by rw [mrow_len]; exact h), mrow_get h, ← hs]
  rfl
theorem seeQ15 {z : Nat} (h : n < z) (hs : s = t + (40 * n : Nat)) : (((((rows (mrow markQ 40 t z)).drop (n * 40)).drop 12).drop 2).drop 1).head? = some (.bool (decide ((s + 15).tmod 3 = 0))) := by
  rw [ents_at (by rw [mrow_len]; exact h), mrow_get h, ← hs]
  rfl
theorem seeQ16 {z : Nat} (h : n < z) (hs : s = t + (40 * n : Nat)) : (((((rows (mrow markQ 40 t z)).drop (n * 40)).drop 12).drop 2).drop 2).head? = some (.int .i64 (s + 16)) := by
  rw [ents_at (by rw [mrow_len]; exact h), mrow_get h, ← hs]
  rfl
theorem seeQ17 {z : Nat} (h : n < z) (hs : s = t + (40 * n : Nat)) : ((((((rows (mrow markQ 40 t z)).drop (n * 40)).drop 12).drop 2).drop 2).drop 1).head? = some (.int .i64 (s + 17)) := by
  rw [ents_at (by rw [mrow_len]; exact h), mrow_get h, ← hs]
  rfl
theorem seeQ18 {z : Nat} (h : n < z) (hs : s = t + (40 * n : Nat)) : ((((((rows (mrow markQ 40 t z)).drop (n * 40)).drop 12).drop 2).drop 2).drop 2).head? = some (.int .i64 (s + 18)) := by
  rw [ents_at (by rw [mrow_len]; exact h), mrow_get h, ← hs]
  rfl
theorem seeQ19 {z : Nat} (h : n < z) (hs : s = t + (40 * n : Nat)) : ((((((rows (mrow markQ 40 t z)).drop (n * 40)).drop 12).drop 2).drop 2).drop 3).head? = some (.int .i64 (s + 19)) := by
  rw [ents_at (by rw [mrow_len]; exact h), mrow_get h, ← hs]
  rfl
theorem seeQ20 {z : Nat} (h : n < z) (hs : s = t + (40 * n : Nat)) : ((((rows (mrow markQ 40 t z)).drop (n * 40)).drop 12).drop 8).head? = some (.int .i64 (s + 20)) := by
  rw [ents_at (by rw [mrow_len]; exact h), mrow_get h, ← hs]
  rfl
theorem seeQ21 {z : Nat} (h : n < z) (hs : s = t + (40 * n : Nat)) : (((((rows (mrow markQ 40 t z)).drop (n * 40)).drop 12).drop 8).drop 1).head? = some (.bool (decide ((s + 21).tmod 3 = 0))) := by
  rw [ents_at (by rw [mrow_len]; exact h), mrow_get h, ← hs]
  rfl
theorem seeQ22 {z : Nat} (h : n < z) (hs : s = t + (40 * n : Nat)) : (((((rows (mrow markQ 40 t z)).drop (n * 40)).drop 12).drop 8).drop 2).head? = some (.int .i64 (s + 22)) := by
  rw [ents_at (by rw [mrow_len]; exact h), mrow_get h, ← hs]
  rfl
theorem seeQ23 {z : Nat} (h : n < z) (hs : s = t + (40 * n : Nat)) : ((((((rows (mrow markQ 40 t z)).drop (n * 40)).drop 12).drop 8).drop 2).drop 1).head? = some (.int .i64 (s + 23)) := by
  rw [ents_at (by rw [mrow_len]; exact h), mrow_get h, ← hs]
  rfl
theorem seeQ24 {z : Nat} (h : n < z) (hs : s = t + (40 * n : Nat)) : ((((((rows (mrow markQ 40 t z)).drop (n * 40)).drop 12).drop 8).drop 2).drop 2).head? = some (.int .i64 (s + 24)) := by
  rw [ents_at (by rw [mrow_len]; exact h), mrow_get h, ← hs]
  rfl
theorem seeQ25 {z : Nat} (h : n < z) (hs : s = t + (40 * n : Nat)) : ((((((rows (mrow markQ 40 t z)).drop (n * 40)).drop 12).drop 8).drop 2).drop 3).head? = some (.int .i64 (s + 25)) := by
  rw [ents_at (by rw [mrow_len]; exact h), mrow_get h, ← hs]
  rfl
theorem seeQ26 {z : Nat} (h : n < z) (hs : s = t + (40 * n : Nat)) : ((((rows (mrow markQ 40 t z)).drop (n * 40)).drop 12).drop 14).head? = some (.int .i64 (s + 26)) := by
  rw [ents_at (by rw [mrow_len]; exact h), mrow_get h, ← hs]
  rfl
theorem seeQ27 {z : Nat} (h : n < z) (hs : s = t + (40 * n : Nat)) : ((((rows (mrow markQ 40 t z)).drop (n * 40)).drop 12).drop 15).head? = some (.int .i64 (s + 27)) := by
  rw [ents_at (by rw [mrow_len]; exact h), mrow_get h, ← hs]
  rfl
theorem seeQ28 {z : Nat} (h : n < z) (hs : s = t + (40 * n : Nat)) : (((((rows (mrow markQ 40 t z)).drop (n * 40)).drop 12).drop 15).drop 1).head? = some (.bool (decide ((s + 28).tmod 3 = 0))) := by
  rw [ents_at (by rw [mrow_len]; exact h), mrow_get h, ← hs]
  rfl
theorem seeQ29 {z : Nat} (h : n < z) (hs : s = t + (40 * n : Nat)) : (((((rows (mrow markQ 40 t z)).drop (n * 40)).drop 12).drop 15).drop 2).head? = some (.int .i64 (s + 29)) := by
  rw [ents_at (by rw [mrow_len]; exact h), mrow_get h, ← hs]
  rfl
theorem seeQ30 {z : Nat} (h : n < z) (hs : s = t + (40 * n : Nat)) : ((((((rows (mrow markQ 40 t z)).drop (n * 40)).drop 12).drop 15).drop 2).drop 1).head? = some (.int .i64 (s + 30)) := by
  rw [ents_at (by rw [mrow_len]; exact h), mrow_get h, ← hs]
  rfl
theorem seeQ31 {z : Nat} (h : n < z) (hs : s = t + (40 * n : Nat)) : ((((((rows (mrow markQ 40 t z)).drop (n * 40)).drop 12).drop 15).drop 2).drop 2).head? = some (.int .i64 (s + 31)) := by
  rw [ents_at (by rw [mrow_len]; exact h), mrow_get h, ← hs]
  rfl
theorem seeQ32 {z : Nat} (h : n < z) (hs : s = t + (40 * n : Nat)) : ((((((rows (mrow markQ 40 t z)).drop (n * 40)).drop 12).drop 15).drop 2).drop 3).head? = some (.int .i64 (s + 32)) := by
  rw [ents_at (by rw [mrow_len]; exact h), mrow_get h, ← hs]
  rfl
theorem seeQ33 {z : Nat} (h : n < z) (hs : s = t + (40 * n : Nat)) : ((((rows (mrow markQ 40 t z)).drop (n * 40)).drop 12).drop 21).head? = some (.int .i64 (s + 33)) := by
  rw [ents_at (by rw [mrow_len]; exact h), mrow_get h, ← hs]
  rfl
theorem seeQ34 {z : Nat} (h : n < z) (hs : s = t + (40 * n : Nat)) : (((rows (mrow markQ 40 t z)).drop (n * 40)).drop 34).head? = some (.int .i64 (s + 34)) := by
  rw [ents_at (by rw [mrow_len]; exact h), mrow_get h, ← hs]
  rfl
theorem seeQ35 {z : Nat} (h : n < z) (hs : s = t + (40 * n : Nat)) : ((((rows (mrow markQ 40 t z)).drop (n * 40)).drop 34).drop 1).head? = some (.bool (decide ((s + 35).tmod 3 = 0))) := by
  rw [ents_at (by rw [mrow_len]; exact h), mrow_get h, ← hs]
  rfl
theorem seeQ36 {z : Nat} (h : n < z) (hs : s = t + (40 * n : Nat)) : ((((rows (mrow markQ 40 t z)).drop (n * 40)).drop 34).drop 2).head? = some (.int .i64 (s + 36)) := by
  rw [ents_at (by rw [mrow_len]; exact h), mrow_get h, ← hs]
  rfl
theorem seeQ37 {z : Nat} (h : n < z) (hs : s = t + (40 * n : Nat)) : (((((rows (mrow markQ 40 t z)).drop (n * 40)).drop 34).drop 2).drop 1).head? = some (.int .i64 (s + 37)) := by
  rw [ents_at (by rw [mrow_len]; exact h), mrow_get h, ← hs]
  rfl
theorem seeQ38 {z : Nat} (h : n < z) (hs : s = t + (40 * n : Nat)) : (((((rows (mrow markQ 40 t z)).drop (n * 40)).drop 34).drop 2).drop 2).head? = some (.int .i64 (s + 38)) := by
  rw [ents_at (by rw [mrow_len]; exact h), mrow_get h, ← hs]
  rfl
theorem seeQ39 {z : Nat} (h : n < z) (hs : s = t + (40 * n : Nat)) : (((((rows (mrow markQ 40 t z)).drop (n * 40)).drop 34).drop 2).drop 3).head? = some (.int .i64 (s + 39)) := by
  rw [ents_at (by rw [mrow_len]; exact h), mrow_get h, ← hs]
  rfl
end
def Cor.markedQ (c : Cor) (t : Int) : Cor := ⟨c.s.marked t, mrow markQ 40 (t + c.s.cost) c.rob.length, c.next, c.stop, marks (t + c.s.cost + (40 * c.rob.length : Nat)) c.guesses.length⟩
end Go.Proofs.YtgpjgljgplngpaaGreatDoor.AM
set_option linter.unusedVariables false
set_option linter.unusedSimpArgs false
namespace Go.Proofs.YtgpjgljgplngpaaGreatDoor.AM
open Go

section
variable {l : List Ins} {s u : Stt} {m : Mem} {n : Int}
theorem noStt_fit : noStt.fit := ⟨Nat.zero_le _, Nat.zero_le _, Nat.zero_le _⟩
theorem corNew_no (h : sttOk s = false) : corNew s = noCor := by rw [corNew, if_neg (by rw [h]; exact Bool.noConfusion)]
theorem corNew_go (h : sttOk s = true) : corNew s = ⟨s, [], s.pc, false, guessNew⟩ := by rw [corNew, if_pos h]
theorem corNew_fit (h : s.fit) : (corNew s).fit := by
  unfold corNew
  split
  · exact ⟨h, Nat.zero_le _, (by simp [guessNew])⟩
  · exact ⟨noStt_fit, Nat.zero_le _, Nat.zero_le _⟩
end
end Go.Proofs.YtgpjgljgplngpaaGreatDoor.AM
set_option linter.unusedVariables false
set_option linter.unusedSimpArgs false
namespace Go.Proofs.YtgpjgljgplngpaaGreatDoor.AM
open Go

section
variable {l : List Ins} {c : Cor}
end
end Go.Proofs.YtgpjgljgplngpaaGreatDoor.AM
set_option linter.unusedVariables false
set_option linter.unusedSimpArgs false
namespace Go.Proofs.YtgpjgljgplngpaaGreatDoor.AM
open Go

section
variable {xs : List Ent}
end
end Go.Proofs.YtgpjgljgplngpaaGreatDoor.AM
set_option linter.unusedVariables false
set_option linter.unusedSimpArgs false
namespace Go.Proofs.YtgpjgljgplngpaaGreatDoor.AM
open Go

section
variable {c : Cor} {i : Int} {x : Ins} {pc a b : Word}
variable {e : Fx} {n : Nat} {y : Ent}
end
end Go.Proofs.YtgpjgljgplngpaaGreatDoor.AM
set_option linter.unusedVariables false
set_option linter.unusedSimpArgs false
namespace Go.Proofs.YtgpjgljgplngpaaGreatDoor.AM
open Go

def doneOf (x : Ent) : Ent := ⟨x.pc, x.x, true, x.e, x.guess⟩
def withE (x : Ent) (e : Fx) : Ent := ⟨x.pc, x.x, x.done, e, x.guess⟩
section
variable {xs : List Ent} {i : Nat} {e : Fx} {x y : Ent}
end
end Go.Proofs.YtgpjgljgplngpaaGreatDoor.AM
set_option linter.unusedVariables false
set_option linter.unusedSimpArgs false
namespace Go.Proofs.YtgpjgljgplngpaaGreatDoor.AM
open Go

section
variable {l : List Ins} {c u : Cor} {p : Pik} {i k w : Nat} {m : Int} {s : Stt}
/-- What a pick is noted by, and whether it is. -/
def numS (p : Pik) : Int := if p.kind = 4 then p.n else -1
def numI (p : Pik) : Int := if p.kind = 3 then -1 else if p.kind = 4 then p.n else 0
def isN (p : Pik) : Bool := decide (p.kind = 3 ∨ p.kind = 4)
def markP (t : Int) : Pik := ⟨t, t + 1⟩
/-! ### settling -/
/-! ### out of order -/
/-- How wide. -/
def wid (w : Int) : Int := if inR w 1 6 = true then w else 1
def widN (w : Int) : Nat := if inR w 1 6 = true then w.toNat else 1
variable {a b : Int}
end
end Go.Proofs.YtgpjgljgplngpaaGreatDoor.AM
set_option linter.unusedVariables false
set_option linter.unusedSimpArgs false
namespace Go.Proofs.YtgpjgljgplngpaaGreatDoor.AM
open Go

section
variable {l : List Ins} {s t : Stt} {u : Cor} {ks : List Word} {ps : List Pik} {i : Nat} {a b : Int}
end
end Go.Proofs.YtgpjgljgplngpaaGreatDoor.AM
