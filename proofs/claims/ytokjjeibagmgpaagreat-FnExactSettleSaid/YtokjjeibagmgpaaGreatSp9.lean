/- More on keys of states and cores. No conditions. -/
import Derived.Test.YtokjjeibagmgpaaGreatSp8
set_option linter.unusedVariables false
set_option linter.unusedSimpArgs false
namespace Go.Proofs.YtokjjeibagmgpaaGreat.AM
open Go

/-! ### guards in a drawn stretch -/
section
variable {P : Program} {H : Heap} {ρ : Env} {K : Env → Heap → Prop} {ops : Array Oper} {l rest : List SOp} {acc : List Foot} {d : Option Tmp} {op : Op} {t : Tmp} {w : Bool}
theorem awpDS_onT (h : ρ t = .bool true) : awpDS P ops K ((d, op, some (t, true)) :: rest) acc ρ H = awpDS P ops K ((d, op, none) :: rest) acc ρ H := by simp [awpDS, gTest, h]
theorem awpDS_onF (h : ρ t = .bool false) : awpDS P ops K ((d, op, some (t, false)) :: rest) acc ρ H = awpDS P ops K ((d, op, none) :: rest) acc ρ H := by simp [awpDS, gTest, h]
theorem awpDS_offT (h : ρ t = .bool false) : awpDS P ops K ((d, op, some (t, true)) :: rest) acc ρ H = awpDS P ops K rest (⟨H.length, H.length, [], []⟩ :: acc) (updO ρ d (.tuple [])) H := by simp [awpDS, gTest, h]
theorem awpDS_offF (h : ρ t = .bool true) : awpDS P ops K ((d, op, some (t, false)) :: rest) acc ρ H = awpDS P ops K rest (⟨H.length, H.length, [], []⟩ :: acc) (updO ρ d (.tuple [])) H := by simp [awpDS, gTest, h]
theorem awpDS_offU (h : ρ t = .tuple []) : awpDS P ops K ((d, op, some (t, w)) :: rest) acc ρ H = awpDS P ops K rest (⟨H.length, H.length, [], []⟩ :: acc) (updO ρ d (.tuple [])) H := by simp [awpDS, gTest, h]
theorem awpDS_split {b : Bool} (g : Tmp) (h : ρ g = .bool b) (ht : b = true → awpDS P ops K l acc ρ H) (hf : b = false → awpDS P ops K l acc ρ H) : awpDS P ops K l acc ρ H := by
  cases b
  · exact hf rfl
  · exact ht rfl
theorem awl_regDJ {k : Nat} {cs : List Code} {Q : Exit → Env → Heap → Prop} {id : Nat} (hm : P.follows .mixedOrders = true) (l : List SOp) (hl : stripL ops ops.toList = some l) (J : Heap → Env → Heap → Prop)
    (inner : ∀ K : Env → Heap → Prop, (∀ ρ' G, J H ρ' G → K ρ' G) → awpDS P ops K l [] ρ H) (after : ∀ ρ' G, J H ρ' G → awpL P k cs Q ρ' G) : awpL P k (.region id ops true :: cs) Q ρ H :=
  awl_regD hm l hl fun K hK => inner K fun ρ' G hj => hK _ _ (.mk (after ρ' G hj))
end
attribute [go_sem] awpDS_onT awpDS_onF awpDS_offT awpDS_offF awpDS_offU
theorem keyOk_perms {k : Key} (h : keyOk k = true) : 0 ≤ k.perms ∧ k.perms ≤ 63 := by
  simp only [keyOk, Bool.and_eq_true] at h
  exact inR_iff.1 h.1.2
theorem covers_impl {a b : Key} : (keyOk a && keyOk b && decide (a.base ≤ b.base) && decide (b.top ≤ a.top) && decide (bitop .andNot .i64 b.perms a.perms = 0)) = covers a b := by
  cases hb : keyOk b
  · simp only [covers, hb, Bool.and_false, Bool.false_and]
  · have := andNot_zero (a := a.perms) (keyOk_perms hb)
    rw [Bool.eq_iff_iff]
    simp only [covers, hb, Bool.and_eq_true, decide_eq_true_eq, this]
theorem any_of {α : Type} {p : α → Bool} {xs : List α} {d : α} {k : Nat} (hk : k < xs.length) (hp : p (xs.getD k d) = true) : xs.any p = true := by
  rw [List.any_eq_true]
  exact ⟨xs[k], List.getElem_mem hk, by simpa [hk] using hp⟩
theorem keys_len {s : Stt} (h : s.fit) : (keys s).length ≤ 4194304 := by
  rw [keys_eq]
  refine Nat.le_trans keysOf_len ?_
  have := h.1; have := h.2.1
  simp
  omega
/-! ### what a core holds -/
def five (x : Ent) : List Word := [x.pc, x.guess, x.e.val, x.e.next, x.e.put]
def heldUp (c : Cor) (i : Nat) : List Word := keys c.s ++ ((c.rob.take i).map heldE).flatten
theorem five_len {x : Ent} : (five x).length = 5 := rfl
theorem heldE_eq {x : Ent} : heldE x = keysOf (five x) := rfl
theorem heldUp_zero {c : Cor} : heldUp c 0 = keys c.s := by simp [heldUp]
theorem heldUp_succ {c : Cor} {i : Nat} (h : i < c.rob.length) : heldUp c (i + 1) = heldUp c i ++ keysOf (five (c.rob.getD i noEnt)) := by
  have : c.rob.take (i + 1) = c.rob.take i ++ [c.rob.getD i noEnt] := by rw [List.take_add_one]; simp [h]
  rw [heldUp, this, List.map_append, List.flatten_append, ← List.append_assoc]
  rw [List.map_cons, List.map_nil, List.flatten_cons, List.flatten_nil, List.append_nil]
  rfl
theorem held_eq {c : Cor} : held c = heldUp c c.rob.length ++ keysOf [c.next] := by rw [held, heldUp, List.take_length]
theorem held_yes {c : Cor} (h : c.next.is = true) : held c = heldUp c c.rob.length ++ [c.next] := by
  rw [held_eq, show keysOf [c.next] = [c.next] by simp only [keysOf, List.filter_cons, h]; rfl]
theorem held_no {c : Cor} (h : c.next.is = false) : held c = heldUp c c.rob.length := by
  rw [held_eq, show keysOf [c.next] = [] by simp only [keysOf, List.filter_cons, h]; rfl, List.append_nil]
theorem heldUp_len {c : Cor} (h : c.fit) : ∀ {i : Nat}, i ≤ c.rob.length → (heldUp c i).length ≤ 4194304 + 5 * i
  | 0, _ => by
    rw [heldUp_zero]
    exact keys_len h.1
  | i + 1, hi => by
    have h1 := heldUp_len h (i := i) (by omega)
    have h2 : (keysOf (five (c.rob.getD i noEnt))).length ≤ 5 := keysOf_len
    rw [heldUp_succ (by omega), List.length_append]
    omega
theorem held_len {c : Cor} (h : c.fit) : (held c).length ≤ 16777216 := by
  have h1 := heldUp_len h (Nat.le_refl _)
  have h2 : (keysOf [c.next]).length ≤ 1 := keysOf_len
  have h3 := h.2.1
  rw [held_eq, List.length_append]
  omega
section
variable {s n : Nat} {t : Int}
theorem mrow_takeW {f : Int → Word} : (rows (mrow f s t n)).take (n * 6) = rows (mrow f s t n) := words_takeL mrow_len.symm
theorem mrow_takeE {f : Int → Ent} : (rows (mrow f s t n)).take (n * 40) = rows (mrow f s t n) := by
  rw [ents_takeN, List.take_of_length_le (by rw [mrow_len]; exact Nat.le_refl _)]
theorem mrow_takeI {f : Int → Ins} : (rows (mrow f s t n)).take (n * 5) = rows (mrow f s t n) := by
  have := inss_take (xs := mrow f s t n)
  rwa [mrow_len] at this
theorem mrow_takeB {f : Int → Bool} : (rows (mrow f s t n)).take n = rows (mrow f s t n) := by
  have := bools_take (xs := mrow f s t n)
  rwa [mrow_len] at this
end
attribute [go_sem] mrow_takeW mrow_takeE mrow_takeI mrow_takeB
end Go.Proofs.YtokjjeibagmgpaaGreat.AM
