/- Texts: how they are made step by step. No conditions. -/
import Derived.Test.YtgpjgljgplngpaaDoorTx2
import Derived.Test.YtgpjgljgplngpaaDoorLb1
set_option linter.unusedVariables false
set_option linter.unusedSimpArgs false
namespace Go.Proofs.YtgpjgljgplngpaaDoor.AM
open Go

/-! ### digits, the last first -/
theorem tmod_abs (n : Int) : (n.tmod 10).natAbs = n.natAbs % 10 := by
  rw [Int.natAbs_tmod]; rfl
theorem tdiv_abs (n : Int) : (n.tdiv 10).natAbs = n.natAbs / 10 := by
  rw [Int.natAbs_tdiv]; rfl
/-- A digit as it is reckoned. -/
def digI (n : Int) : Int := if n.tmod 10 < 0 then 0 - n.tmod 10 else n.tmod 10
theorem digI_eq (n : Int) : digI n = ((n.natAbs % 10 : Nat) : Int) := by
  have := tmod_abs n
  unfold digI
  split <;> omega
theorem digI_step {n : Int} {out : Bs} {x : Bs} (h : n ≠ 0) (hd : decP n.natAbs ++ out = x) : decP (n.tdiv 10).natAbs ++ (UInt8.ofNat (48 + n.natAbs % 10) :: out) = x := by
  have h0 : n.natAbs ≠ 0 := by omega
  rw [tdiv_abs, ← hd, ← decP_step h0, List.append_assoc]
  rfl
theorem itoa_pos {n : Int} (h : 0 < n) {x : Bs} (hx : decP n.natAbs = x) : itoa n = x := by
  rw [itoa, Lib.itoa, if_neg (by omega), ← hx, decP_pos (by omega)]
  congr 1
  omega
theorem itoa_neg {n : Int} (h : n < 0) {x : Bs} (hx : decP n.natAbs = x) : itoa n = 45 :: x := by
  rw [itoa, Lib.itoa, if_pos h, ← hx, decP_pos (by omega)]
theorem itoa_zero : itoa 0 = [48] := by rw [itoa, Lib.itoa, if_neg (by omega), show (0 : Int).toNat = 0 from rfl, Lib.decDigits_one (by omega)]; rfl
theorem dec_len20 {u : Nat} (h : u < 100000000000000000000) : (Lib.decDigits u).length ≤ 20 := by
  rw [Lib.decDigits_length]
  by_cases g : Lib.nDigits u ≤ 20
  · exact g
  · exfalso
    have key : ∀ (k u : Nat), u < 10 ^ (k + 1) → Lib.nDigits u ≤ k + 1 := by
      intro k
      induction k with
      | zero => intro u hu; rw [Lib.nDigits_small (by simpa using hu)]; omega
      | succ k ih =>
        intro u hu
        by_cases h10 : u < 10
        · rw [Lib.nDigits_small h10]; omega
        · rw [Lib.nDigits_big h10]
          have := ih (u / 10) (by rw [Nat.pow_succ] at hu; omega)
          omega
    have := key 19 u (by simpa using h)
    omega
theorem digI_range (n : Int) : 0 ≤ digI n ∧ digI n ≤ 9 := by rw [digI_eq]; omega
theorem dig_facts {m : Int} (h : -9223372036854775808 ≤ m ∧ m ≤ 9223372036854775807) : IntKind.i64.wrap (48 + digI m) = 48 + digI m ∧ IntKind.u8.wrap (48 + digI m) = 48 + digI m ∧ IntKind.i64.wrap (m.tdiv 10) = m.tdiv 10 ∧ IntKind.i64.wrap (0 - m.tmod 10) = 0 - m.tmod 10 := by
  have := digI_range m
  have h1 := tdiv_abs m
  have h2 := tmod_abs m
  refine ⟨wrap64 (by omega), ?_, wrap64 (by omega), wrap64 (by omega)⟩
  generalize digI m = d at this ⊢
  show (48 + d).emod 256 = 48 + d
  exact Int.emod_eq_of_lt (by omega) (by omega)
theorem dig_step {m a : Int} {o : Bs} (h : ¬ m = 0) (i : decP m.natAbs ++ o = decP a.natAbs) : decP (m.tdiv 10).natAbs ++ ([UInt8.ofNat (48 + digI m).toNat] ++ o) = decP a.natAbs := by
  rw [digI_eq, show (48 + ((m.natAbs % 10 : Nat) : Int)).toNat = 48 + m.natAbs % 10 by omega]
  exact digI_step h i
theorem dig_end {m a : Int} {o : Bs} (h : m = 0) (i : decP m.natAbs ++ o = decP a.natAbs) : o = decP a.natAbs := by
  rw [← i, h]
  rfl
theorem decP_len {a : Int} (h : -9223372036854775808 ≤ a ∧ a ≤ 9223372036854775807) : (decP a.natAbs).length ≤ 20 := by
  unfold decP
  split
  · exact Nat.zero_le _
  · exact dec_len20 (by omega)
theorem itoa_len {n : Int} (h : -9223372036854775808 ≤ n ∧ n ≤ 9223372036854775807) : (itoa n).length ≤ 21 := by
  unfold itoa Lib.itoa
  split
  · have := dec_len20 (u := n.natAbs) (by omega)
    simp; omega
  · have := dec_len20 (u := n.toNat) (by omega)
    omega
/-! ### texts joined, as they stand in the code -/
theorem mk_bt (l : List UInt8) : (⟨l.toArray⟩ : ByteArray) = bt l := (rfl)
/-- Two texts are short enough to be joined. -/
def lenOk (a b : Bs) : Bool := decide (a.length + b.length ≤ 1099511627776)
theorem bt_fits {a b : Bs} (h : lenOk a b = true) : ((((bt a).size + (bt b).size : Nat) : Int) ≤ 9223372036854775807) = True := by
  have := of_decide_eq_true h
  rw [bt_size, bt_size]
  exact eq_true (by omega)
theorem lenOk_of {a b : Bs} (h : a.length + b.length ≤ 1099511627776) : lenOk a b = true := decide_eq_true h
theorem dig_fits {m a : Int} {o : Bs} (h : ¬ m = 0) (i : decP m.natAbs ++ o = decP a.natAbs) (ha : -9223372036854775808 ≤ a ∧ a ≤ 9223372036854775807) : lenOk [UInt8.ofNat (48 + digI m).toNat] o = true := by
  have h1 := decP_len ha
  have h2 := congrArg List.length i
  rw [List.length_append] at h2
  exact lenOk_of (by simp only [List.length_cons, List.length_nil]; omega)
theorem bytes_one {n : Int} : bytesOf? [.int .u8 n] = some [UInt8.ofNat n.toNat] := (rfl)
/-- The letters, as a row of texts; one of them. -/
theorem lets_row {i : Nat} (h : i < 6) : (List.drop i [AV.str (bt [108]), .str (bt [115]), .str (bt [114]), .str (bt [116]), .str (bt [112]), .str (bt [107])]).head? = some (.str (bt [lets.getD i 0])) := by
  match i, h with
  | 0, _ => rfl
  | 1, _ => rfl
  | 2, _ => rfl
  | 3, _ => rfl
  | 4, _ => rfl
  | 5, _ => rfl
theorem lets_cut {i : Nat} (h : i < 6) : (bt [108, 115, 114, 116, 112, 107]).extract i (i + 1) = bt [lets.getD i 0] := by
  match i, h with
  | 0, _ => decide +kernel
  | 1, _ => decide +kernel
  | 2, _ => decide +kernel
  | 3, _ => decide +kernel
  | 4, _ => decide +kernel
  | 5, _ => decide +kernel
/-! ### letters -/
theorem permT_len {p : Int} : ∀ i : Nat, (permT p i).length ≤ i
  | 0 => Nat.le_refl _
  | i + 1 => by
    have := permT_len (p := p) i
    rw [permT]
    split <;> simp <;> omega
theorem band_one (x : Int) : band x 1 = 0 ∨ band x 1 = 1 := by
  have : 0 ≤ band x 1 ∧ band x 1 ≤ 1 := by
    show 0 ≤ IntKind.i64.wrap (((BitVec.ofInt 64 x &&& BitVec.ofInt 64 1).toNat : Nat) : Int) ∧ IntKind.i64.wrap (((BitVec.ofInt 64 x &&& BitVec.ofInt 64 1).toNat : Nat) : Int) ≤ 1
    have hm : (BitVec.ofInt 64 1).toNat = 1 := by rfl
    have h1 : (BitVec.ofInt 64 x &&& BitVec.ofInt 64 1).toNat ≤ 1 := by rw [BitVec.toNat_and, hm]; exact Nat.and_le_right
    rw [wrap64 (by omega)]
    omega
  omega
theorem permT_on {p : Int} {i : Nat} (h : bitop .and .i64 (p.fdiv (2 ^ i)) 1 = 1) : permT p (i + 1) = permT p i ++ [lets.getD i 0] := by
  rw [permT, if_pos (show bitB p i = true from decide_eq_true h)]
theorem permT_off {p : Int} {i : Nat} (h : bitop .and .i64 (p.fdiv (2 ^ i)) 1 = 0) : permT p (i + 1) = permT p i := by
  rw [permT, if_neg, List.append_nil]
  have : bitB p i = false := decide_eq_false (by show ¬ bitop .and .i64 (p.fdiv (2 ^ i)) 1 = 1; omega)
  rw [this]
  exact Bool.noConfusion
theorem keyB_len {k : Key} (h : keyOk k = true) : (keyB k).length ≤ 80 := by
  have hp := key_parts h
  have h1 := itoa_len (n := k.base) (by omega)
  have h2 := itoa_len (n := k.top) (by omega)
  have h3 := permT_len (p := k.perms) 6
  have h4 : (lockT k.lock).length ≤ 22 := by
    unfold lockT
    split
    · simp
    · have := itoa_len (n := k.lock) (by omega)
      simp; omega
  simp only [keyB, List.length_cons, List.length_append]
  omega
theorem keyT_len {k : Key} : (keyT k).length ≤ 80 := by
  unfold keyT
  split
  · exact keyB_len (by assumption)
  · exact Nat.zero_le _
end Go.Proofs.YtgpjgljgplngpaaDoor.AM
