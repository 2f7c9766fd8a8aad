/- Texts: bytes and numbers. No conditions. -/
import Derived.Test.YtgpjgljgplngpaaGreatDoorM5
import Derived.Lib.ItoaNum
import Derived.Lib.AtoiAll
import Derived.Lib.Bytealg
import Derived.Lib.Strings
set_option linter.unusedVariables false
set_option linter.unusedSimpArgs false
namespace Go.Proofs.YtgpjgljgplngpaaGreatDoor.AM
open Go

abbrev Bs := List UInt8
/-- A text of bytes. -/
def bt (l : Bs) : ByteArray := ⟨l.toArray⟩
theorem bt_app {a b : Bs} : bt a ++ bt b = bt (a ++ b) := by
  apply ByteArray.ext
  simp [bt]
theorem bt_size {a : Bs} : (bt a).size = a.length := by simp [bt, ByteArray.size]
theorem bt_inj {a b : Bs} : bt a = bt b ↔ a = b := by
  constructor
  · intro h
    have := congrArg (fun x : ByteArray => x.data.toList) h
    simpa [bt] using this
  · intro h; rw [h]
theorem bt_data {a : Bs} : (bt a).data.toList = a := by simp [bt]
theorem bt_of (s : ByteArray) : bt s.data.toList = s := by
  apply ByteArray.ext
  simp [bt]

/-! ### numbers -/
def digit (b : UInt8) : Prop := 48 ≤ b.toNat ∧ b.toNat ≤ 57
instance (b : UInt8) : Decidable (digit b) := by unfold digit; infer_instance
theorem digit_of {n : Nat} (h : n < 10) : digit (UInt8.ofNat (48 + n)) ∧ (UInt8.ofNat (48 + n)).toNat = 48 + n := by
  have : (UInt8.ofNat (48 + n)).toNat = 48 + n := by rw [UInt8.toNat_ofNat']; omega
  exact ⟨⟨by omega, by omega⟩, this⟩
/-- The digits of what is not yet told; none of nought. -/
def decP (u : Nat) : Bs := if u = 0 then [] else Lib.decDigits u
theorem decP_pos {u : Nat} (h : u ≠ 0) : decP u = Lib.decDigits u := by rw [decP, if_neg h]
theorem decP_step {u : Nat} (h : u ≠ 0) : decP (u / 10) ++ [UInt8.ofNat (48 + u % 10)] = decP u := by
  rw [decP_pos h, Lib.decDigits]
  by_cases h10 : u < 10
  · rw [dif_pos h10, decP, if_pos (by omega), Nat.mod_eq_of_lt h10]
    rfl
  · rw [dif_neg h10, decP_pos (by omega)]
theorem dec_big {u : Nat} (h : ¬ u < 10) : Lib.decDigits u = Lib.decDigits (u / 10) ++ [UInt8.ofNat (48 + u % 10)] := by rw [Lib.decDigits, dif_neg h]
theorem dec_all (u : Nat) : ∀ b, b ∈ Lib.decDigits u → digit b := by
  induction u using Nat.strongRecOn with
  | _ u ih =>
    intro b hb
    by_cases h : u < 10
    · rw [Lib.decDigits_one h] at hb
      obtain rfl := List.mem_singleton.1 hb
      exact (digit_of h).1
    · rw [dec_big h] at hb
      rcases List.mem_append.1 hb with hb | hb
      · exact ih (u / 10) (by omega) b hb
      · obtain rfl := List.mem_singleton.1 hb
        exact (digit_of (Nat.mod_lt _ (by decide))).1
theorem dec_ne (u : Nat) : Lib.decDigits u ≠ [] := by
  by_cases h : u < 10
  · rw [Lib.decDigits_one h]; simp
  · rw [dec_big h]; simp
/-- What a row of digits spells. -/
def valD (x : Nat) (l : Bs) : Nat := l.foldl (fun x b => 10 * x + (b.toNat - 48)) x
theorem valD_snoc {x : Nat} {l : Bs} {b : UInt8} : valD x (l ++ [b]) = 10 * valD x l + (b.toNat - 48) := by simp [valD]
theorem valD_dec (u : Nat) : valD 0 (Lib.decDigits u) = u := by
  induction u using Nat.strongRecOn with
  | _ u ih =>
    by_cases h : u < 10
    · rw [Lib.decDigits_one h]
      have := (digit_of h).2
      simp only [valD, List.foldl_cons, List.foldl_nil, this]
      omega
    · rw [dec_big h, valD_snoc, ih (u / 10) (by omega), (digit_of (Nat.mod_lt u (by decide : 0 < 10))).2]
      omega
theorem pu_snoc : ∀ (l : Bs) {acc v : Nat} {c : UInt8}, Lib.parseUint10 acc l = .ok v → digit c → v < 1000000000000000000 → Lib.parseUint10 acc (l ++ [c]) = .ok (10 * v + (c.toNat - 48))
  | [], acc, v, c, h, hc, hv => by
    simp only [Lib.parseUint10] at h
    injection h with h
    subst h
    show Lib.parseUint10 acc [c] = _
    rw [Lib.parseUint10, if_pos (show 48 ≤ c.toNat ∧ c.toNat ≤ 57 from hc), if_neg (by omega), if_neg (by have := hc.2; omega), Lib.parseUint10]
    congr 1
    omega
  | b :: l, acc, v, c, h, hc, hv => by
    rw [Lib.parseUint10] at h
    show Lib.parseUint10 acc (b :: (l ++ [c])) = _
    rw [Lib.parseUint10]
    split at h
    · rename_i hb
      rw [if_pos hb]
      split at h
      · cases h
      · rename_i h1
        rw [if_neg h1]
        split at h
        · cases h
        · rename_i h2
          rw [if_neg h2]
          exact pu_snoc l h hc hv
    · cases h
theorem pu_dec (u : Nat) (h : u < 1000000000000000000) : Lib.parseUint10 0 (Lib.decDigits u) = .ok u := by
  induction u using Nat.strongRecOn with
  | _ u ih =>
    by_cases h10 : u < 10
    · rw [Lib.decDigits_one h10]
      have := pu_snoc [] (acc := 0) (v := 0) (c := UInt8.ofNat (48 + u)) rfl (digit_of h10).1 (by decide)
      rw [(digit_of h10).2] at this
      rw [List.nil_append] at this
      rw [this]
      congr 1
      omega
    · rw [dec_big h10, pu_snoc _ (ih (u / 10) (by omega) (by omega)) (digit_of (Nat.mod_lt u (by decide))).1 (by omega), (digit_of (Nat.mod_lt u (by decide : 0 < 10))).2]
      congr 1
      omega
theorem atoi_itoa {n : Int} (h : -1000000000000000000 < n ∧ n < 1000000000000000000) : Lib.atoiAll (Lib.itoa n) = .ok n := by
  unfold Lib.itoa
  split
  · rename_i hn
    have hp := pu_dec n.natAbs (by omega)
    show (match Lib.parseMag (if (45 : UInt8).toNat = 43 ∨ (45 : UInt8).toNat = 45 then Lib.decDigits n.natAbs else 45 :: Lib.decDigits n.natAbs) with
      | Lib.NumEnd.syntax => (Lib.NumEnd.syntax : Lib.NumEnd Int)
      | .range => .range
      | .ok u => if ¬ (45 : UInt8).toNat = 45 ∧ 9223372036854775808 ≤ u then .range else if (45 : UInt8).toNat = 45 ∧ 9223372036854775808 < u then .range else .ok (if (45 : UInt8).toNat = 45 then -(u : Int) else u)) = _
    have e45 : (45 : UInt8).toNat = 45 := rfl
    rw [e45, if_pos (Or.inr rfl), Lib.parseMag, if_neg (dec_ne _), hp]
    simp only [not_true_eq_false, false_and, if_false, true_and, if_true]
    rw [if_neg (by omega)]
    congr 1
    omega
  · rename_i hn
    have hp := pu_dec n.toNat (by omega)
    have hne := dec_ne n.toNat
    have hall := dec_all n.toNat
    generalize Lib.decDigits n.toNat = l at hp hne hall
    cases l with
    | nil => exact absurd rfl hne
    | cons c r =>
      have hc := hall c (by simp)
      have h45 : ¬ c.toNat = 45 := by have := hc.1; omega
      unfold Lib.atoiAll
      have h43' : ¬ c.toNat = 43 := by have := hc.1; omega
      simp only [h43', h45, or_self, if_false, Lib.parseMag, if_neg (List.cons_ne_nil c r), hp, not_false_eq_true, true_and, false_and]
      rw [if_neg (by omega)]
      congr 1
      omega
/-- What is scanned: so many digits at most; what they spell, and how many. -/
def scan : Nat → Bs → Nat → Nat × Nat
  | k + 1, b :: l, x => if digit b then ((scan k l (10 * x + (b.toNat - 48))).1, (scan k l (10 * x + (b.toNat - 48))).2 + 1) else (x, 0)
  | _, _, x => (x, 0)
end Go.Proofs.YtgpjgljgplngpaaGreatDoor.AM
