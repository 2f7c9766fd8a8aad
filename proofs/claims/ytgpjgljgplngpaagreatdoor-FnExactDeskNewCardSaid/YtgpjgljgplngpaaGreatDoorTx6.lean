/- Texts: how they are made step by step. No conditions. -/
import Derived.Test.YtgpjgljgplngpaaGreatDoorTx2
import Derived.Test.YtgpjgljgplngpaaGreatDoorLb1
set_option linter.unusedVariables false
set_option linter.unusedSimpArgs false
namespace Go.Proofs.YtgpjgljgplngpaaGreatDoor.AM
open Go

/-! ### digits, the last first -/
theorem tmod_abs (n : Int) : (n.tmod 10).natAbs = n.natAbs % 10 := by
  rw [Int.natAbs_tmod]; rfl
theorem tdiv_abs (n : Int) : (n.tdiv 10).natAbs = n.natAbs / 10 := by
  rw [Int.natAbs_tdiv]; rfl
/-- A digit as it is reckoned. -/
def digI (n : Int) : Int := if n.tmod 10 < 0 then 0 - n.tmod 10 else n.tmod 10
theorem digI_eq (n : Int) : digI n = ((n.natAbs % 10 : Nat) : Int) := by
  have := tmod_abs n
  unfold digI
  split <;> omega
theorem digI_step {n : Int} {out : Bs} {x : Bs} (h : n ≠ 0) (hd : decP n.natAbs ++ out = x) : decP (n.tdiv 10).natAbs ++ (UInt8.ofNat (48 + n.natAbs % 10) :: out) = x := by
  have h0 : n.natAbs ≠ 0 := by omega
  rw [tdiv_abs, ← hd, ← decP_step h0, List.append_assoc]
  rfl
theorem itoa_pos {n : Int} (h : 0 < n) {x : Bs} (hx : decP n.natAbs = x) : itoa n = x := by
  rw [itoa, Lib.itoa, if_neg (by omega), ← hx, decP_pos (by omega)]
  congr 1
  omega
theorem itoa_neg {n : Int} (h : n < 0) {x : Bs} (hx : decP n.natAbs = x) : itoa n = 45 :: x := by
  rw [itoa, Lib.itoa, if_pos h, ← hx, decP_pos (by omega)]
theorem itoa_zero : itoa 0 = [48] := by rw [itoa, Lib.itoa, if_neg (by omega), show (0 : Int).toNat = 0 from rfl, Lib.decDigits_one (by omega)]; rfl
theorem dec_len20 {u : Nat} (h : u < 100000000000000000000) : (Lib.decDigits u).length ≤ 20 := by
  rw [Lib.decDigits_length]
  by_cases g : Lib.nDigits u ≤ 20
  · exact g
  · exfalso
    have key : ∀ (k u : Nat), u < 10 ^ (k + 1) → Lib.nDigits u ≤ k + 1 := by
      intro k
      induction k with
      | zero => intro u hu; rw [Lib.nDigits_small (by simpa using hu)]; omega
      | succ k ih =>
        intro u hu
        by_cases h10 : u < 10
        · rw [Lib.nDigits_small h10]; omega
        · rw [Lib.nDigits_big h10]
          have := ih (u / 10) (by rw [Nat.pow_succ] at hu; omega)
          omega
    have := key 19 u (by simpa using h)
    omega
theorem digI_range (n : Int) : 0 ≤ digI n ∧ digI n ≤ 9 := by rw [digI_eq]; omega
theorem dig_facts {m : Int} (h : -9223372036854775808 ≤ m ∧ m ≤ 9223372036854775807) : IntKind.i64.wrap (48 + digI m) = 48 + digI m ∧ IntKind.u8.wrap (48 + digI m) = 48 + digI m ∧ IntKind.i64.wrap (m.tdiv 10) = m.tdiv 10 ∧ IntKind.i64.wrap (0 - m.tmod 10) = 0 - m.tmod 10 := by
  have := digI_range m
  have h1 := tdiv_abs m
  have h2 := tmod_abs m
  refine ⟨wrap64 (by omega), ?_, wrap64 (by omega), wrap64 (by omega)⟩
  generalize digI m = d at this ⊢
  show (48 + d).emod 256 = 48 + d
  exact Int.emod_eq_of_lt (by omega) (by omega)
theorem dig_step {m a : Int} {o : Bs} (h : ¬ m = 0) (i : decP m.natAbs ++ o = decP a.natAbs) : decP (m.tdiv 10).natAbs ++ ([UInt8.ofNat (48 + digI m).toNat] ++ o) = decP a.natAbs := by
  rw [digI_eq, show (48 + ((m.natAbs % 10 : Nat) : Int)).toNat = 48 + m.natAbs % 10 by omega]
  exact digI_step h i
theorem dig_end {m a : Int} {o : Bs} (h : m = 0) (i : decP m.natAbs ++ o = decP a.natAbs) : o = decP a.natAbs := by
  rw [← i, h]
  rfl
theorem decP_len {a : Int} (h : -9223372036854775808 ≤ a ∧ a ≤ 9223372036854775807) : (decP a.natAbs).length ≤ 20 := by
  unfold decP
  split
  · exact Nat.zero_le _
  · exact dec_len20 (by omega)
theorem itoa_len {n : Int} (h : -9223372036854775808 ≤ n ∧ n ≤ 9223372036854775807) : (itoa n).length ≤ 21 := by
  unfold itoa Lib.itoa
  split
  · have := dec_len20 (u := n.natAbs) (by omega)
    simp; omega
  · have := dec_len20 (u := n.toNat) (by omega)
    omega
/-! ### texts joined, as they stand in the code -/
theorem mk_bt (l : List UInt8) : (⟨l.toArray⟩ : ByteArray) = bt l := (rfl)
/-- Two texts are short enough to be joined. -/
def lenOk (a b : Bs) : Bool := decide (a.length + b.length ≤ 1099511627776)
theorem bt_fits {a b : Bs} (h : lenOk a b = true) : ((((bt a).size + (bt b).size : Nat) : Int) ≤ 9223372036854775807) = True := by
  have := of_decide_eq_true h
  rw [bt_size, bt_size]
  exact eq_true (by omega)
theorem lenOk_of {a b : Bs} (h : a.length + b.length ≤ 1099511627776) : lenOk a b = true := decide_eq_true h
theorem dig_fits {m a : Int} {o : Bs} (h : ¬ m = 0) (i : decP m.natAbs ++ o = decP a.natAbs) (ha : -9223372036854775808 ≤ a ∧ a ≤ 9223372036854775807) : lenOk [UInt8.ofNat (48 + digI m).toNat] o = true := by
  have h1 := decP_len ha
  have h2 := congrArg List.length i
  rw [List.length_append] at h2
  exact lenOk_of (by simp only [List.length_cons, List.length_nil]; omega)
theorem bytes_one {n : Int} : bytesOf? [.int .u8 n] = some [UInt8.ofNat n.toNat] := (rfl)
theorem bt_ext {l : Bs} {a b : Nat} : (bt l).extract a b = bt ((l.take b).drop a) := by
  apply ByteArray.ext
  apply Array.ext'
  simp [bt, ByteArray.data_extract, List.drop_take]
theorem bt_bat {l : Bs} {i : Nat} : bat (bt l) i = ((l.getD i 0).toNat : Int) := by
  unfold bat
  rw [bt_data]
theorem drop_at {l : Bs} {i : Nat} (h : i < l.length) : l.drop i = l.getD i 0 :: l.drop (i + 1) := by
  rw [List.drop_eq_getElem_cons h]
  simp [h]
theorem trim_len {l p : Bs} : (Lib.trimPrefix l p).length ≤ l.length := by
  unfold Lib.trimPrefix
  split
  · simp only [List.length_drop]; omega
  · exact Nat.le_refl _
/-! ### letters -/
theorem band_one (x : Int) : band x 1 = 0 ∨ band x 1 = 1 := by
  have : 0 ≤ band x 1 ∧ band x 1 ≤ 1 := by
    show 0 ≤ IntKind.i64.wrap (((BitVec.ofInt 64 x &&& BitVec.ofInt 64 1).toNat : Nat) : Int) ∧ IntKind.i64.wrap (((BitVec.ofInt 64 x &&& BitVec.ofInt 64 1).toNat : Nat) : Int) ≤ 1
    have hm : (BitVec.ofInt 64 1).toNat = 1 := by rfl
    have h1 : (BitVec.ofInt 64 x &&& BitVec.ofInt 64 1).toNat ≤ 1 := by rw [BitVec.toNat_and, hm]; exact Nat.and_le_right
    rw [wrap64 (by omega)]
    omega
  omega
/-! ### rows of texts -/
def strsV (xs : List Bs) : List AV := xs.map fun x => .str (bt x)
theorem strsV_nil : strsV [] = [] := (rfl)
theorem strsV_cons {x : Bs} {xs : List Bs} : strsV (x :: xs) = .str (bt x) :: strsV xs := (rfl)
theorem strsV_len {xs : List Bs} : (strsV xs).length = xs.length := List.length_map ..
theorem bor_strsV {Hb : Heap} {inv : Nat → Option Nat} {n : Nat} : ∀ {xs : List Bs}, (strsV xs).map (bor Hb inv (n + 1)) = strsV xs
  | [] => rfl
  | x :: xs => by rw [strsV_cons, List.map_cons, bor_strsV (xs := xs)]; rfl
theorem sh_strsV {mm : Nat → Nat} : ∀ {xs : List Bs}, shL mm (strsV xs) = strsV xs
  | [] => rfl
  | x :: xs => by rw [strsV_cons, shL, sh_strsV (xs := xs)]; rfl
theorem noS_strsV : ∀ {xs : List Bs}, noSL (strsV xs) = true
  | [] => rfl
  | x :: xs => by rw [strsV_cons, noSL, noS_strsV (xs := xs)]; rfl
attribute [go_sem] bor_strsV sh_strsV noS_strsV
theorem strs_mem {xs : List Bs} {i : Nat} (h : i < xs.length) : xs.getD i [] ∈ xs := by
  rw [List.getD_eq_getElem?_getD, List.getElem?_eq_getElem h]
  exact List.getElem_mem h
theorem strsV_at {xs : List Bs} {n : Nat} (h : n < xs.length) : (List.drop n (strsV xs)).head? = some (.str (bt (xs.getD n []))) := by
  rw [List.head?_drop, strsV, List.getElem?_map, List.getElem?_eq_getElem h]
  simp [h]
end Go.Proofs.YtgpjgljgplngpaaGreatDoor.AM
