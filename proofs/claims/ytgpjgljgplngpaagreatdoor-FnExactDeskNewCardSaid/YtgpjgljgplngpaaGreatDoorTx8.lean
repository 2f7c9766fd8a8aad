/- Commands as texts, step by step. No conditions. -/
import Derived.Test.YtgpjgljgplngpaaGreatDoorTx7
set_option linter.unusedVariables false
set_option linter.unusedSimpArgs false
namespace Go.Proofs.YtgpjgljgplngpaaGreatDoor.AM
open Go

theorem ins_op {x : Ins} (h : insOk x = true) : inR x.op 1 15 = true := by simp only [insOk, Bool.and_eq_true] at h; exact h.1.1.1.1.1
theorem ins_op_rng {x : Ins} (h : insOk x = true) : 1 ≤ x.op ∧ x.op ≤ 15 := inR_iff.1 (ins_op h)
theorem names_at {op : Int} (h : 1 ≤ op ∧ op ≤ 15) : (List.drop op.toNat (strsV namesT)).head? = some (.str (bt (nameT op))) := strsV_at (xs := namesT) (by show op.toNat < 16; omega)
theorem names_len : (strsV namesT).length = 16 := by rw [strsV_len]; rfl
theorem name_len {op : Int} : (nameT op).length ≤ 5 := by
  unfold nameT
  have all : ∀ w, w ∈ namesT → w.length ≤ 5 := by decide
  rcases Nat.lt_or_ge op.toNat namesT.length with h | h
  · exact all _ (strs_mem h)
  · rw [List.getD_eq_getElem?_getD, List.getElem?_eq_none h]; exact Nat.zero_le _
/-- What stands ahead of a part's number. -/
def preT (p : UInt8) : Bs := if p = 78 then [] else [114]
theorem partT_pre {x : Ins} {p : UInt8} : partT x p = preT p ++ itoa (partI x (p.toNat : Int)) := by
  unfold partT preT
  split <;> rfl
theorem parts_step {x : Ins} {L : List UInt8} {i : Nat} (h : i < L.length) : partsT x (L.take i) ++ 32 :: (preT (L.getD i 0) ++ itoa (partI x ((L.getD i 0).toNat : Int))) = partsT x (L.take (i + 1)) := by
  have ht : L.take (i + 1) = L.take i ++ [L.getD i 0] := by rw [List.take_add_one]; simp [h]
  rw [ht, ← partT_pre]
  simp only [partsT, List.map_append, List.flatten_append, List.map_cons, List.map_nil, List.flatten_cons, List.flatten_nil, List.append_nil]
theorem itoa_part {x : Ins} (h : insOk x = true) (p : Int) : (itoa (partI x p)).length ≤ 21 := by
  have := part_rng h p
  exact itoa_len (by omega)
theorem parts_len {x : Ins} (h : insOk x = true) : ∀ (L : List UInt8), (partsT x L).length ≤ 23 * L.length
  | [] => Nat.zero_le _
  | p :: L => by
    have h1 := itoa_part h (p.toNat : Int)
    have h2 := parts_len h L
    have h3 : (partsT x (p :: L)).length = 1 + (partT x p).length + (partsT x L).length := by
      simp only [partsT, List.map_cons, List.flatten_cons, List.cons_append, List.length_cons, List.length_append]; omega
    have h4 : (preT p).length ≤ 1 := by unfold preT; split <;> simp
    rw [h3, partT_pre, List.length_append]
    simp only [List.length_cons]
    omega
theorem take_parts {x : Ins} (h : insOk x = true) {L : List UInt8} (hL : L.length ≤ 4) (i : Nat) : (partsT x (L.take i)).length ≤ 92 := by
  have := parts_len h (L.take i)
  have hl : (L.take i).length ≤ 4 := by rw [List.length_take]; omega
  omega
theorem byteCells_form {op : Int} : byteCells (form op) = bytesV (formL op) := (rfl)
/-! ### as it is put together elsewhere -/
def qT (h : Int) (k : Int) (pre : Bs) (n : Int) : Bs := if bitop .and .i64 h k = 0 then [] else pre ++ itoa n
theorem qT_len {h k n : Int} {pre : Bs} (hp : pre.length ≤ 2) (hn : (itoa n).length ≤ 21) : (qT h k pre n).length ≤ 23 := by
  unfold qT
  split
  · exact Nat.zero_le _
  · rw [List.length_append]; omega
theorem qs_all {x : Ins} (h : inR x.op 1 15 = true) : nameT x.op ++ (qT (has x.op) 1 [32, 114] x.r ++ (qT (has x.op) 2 [32, 114] x.a ++ (qT (has x.op) 4 [32, 114] x.b ++ qT (has x.op) 8 [32] x.n))) = insB x := by
  have bits : ∀ op : Int, inR op 1 15 = true → (bitop .and .i64 (has op) 1 = 0 ↔ ¬ 82 ∈ formL op) ∧ (bitop .and .i64 (has op) 2 = 0 ↔ ¬ 65 ∈ formL op) ∧ (bitop .and .i64 (has op) 4 = 0 ↔ ¬ 66 ∈ formL op) ∧ (bitop .and .i64 (has op) 8 = 0 ↔ ¬ 78 ∈ formL op) := by
    intro op ho
    rcases op_cases ho with rfl | rfl | rfl | rfl | rfl | rfl | rfl | rfl | rfl | rfl | rfl | rfl | rfl | rfl | rfl <;> decide
  obtain ⟨b1, b2, b3, b4⟩ := bits x.op h
  rw [insB]
  congr 1
  unfold qT
  simp only [b1, b2, b3, b4]
  clear b1 b2 b3 b4
  obtain ⟨op, r, a, b, n⟩ := x
  simp only at h ⊢
  rcases op_cases h with rfl | rfl | rfl | rfl | rfl | rfl | rfl | rfl | rfl | rfl | rfl | rfl | rfl | rfl | rfl <;>
  simp (decide := true) [formL, partsT, partT, partI]
theorem insT_len {x : Ins} : (insT x).length ≤ 97 := by
  unfold insT
  split
  · rename_i h
    have h1 := parts_len h (formL x.op)
    have h2 := name_len (op := x.op)
    have h3 := formL_len (op := x.op)
    rw [insB, List.length_append]
    omega
  · exact Nat.zero_le _
end Go.Proofs.YtgpjgljgplngpaaGreatDoor.AM
