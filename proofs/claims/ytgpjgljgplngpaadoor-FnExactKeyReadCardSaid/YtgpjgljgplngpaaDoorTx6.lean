/- Texts: how they are made step by step. No conditions. -/
import Derived.Test.YtgpjgljgplngpaaDoorTx2
import Derived.Test.YtgpjgljgplngpaaDoorLb1
set_option linter.unusedVariables false
set_option linter.unusedSimpArgs false
namespace Go.Proofs.YtgpjgljgplngpaaDoor.AM
open Go

/-! ### digits, the last first -/
theorem tmod_abs (n : Int) : (n.tmod 10).natAbs = n.natAbs % 10 := by
  rw [Int.natAbs_tmod]; rfl
theorem tdiv_abs (n : Int) : (n.tdiv 10).natAbs = n.natAbs / 10 := by
  rw [Int.natAbs_tdiv]; rfl
/-- A digit as it is reckoned. -/
def digI (n : Int) : Int := if n.tmod 10 < 0 then 0 - n.tmod 10 else n.tmod 10
theorem digI_eq (n : Int) : digI n = ((n.natAbs % 10 : Nat) : Int) := by
  have := tmod_abs n
  unfold digI
  split <;> omega
theorem digI_step {n : Int} {out : Bs} {x : Bs} (h : n ≠ 0) (hd : decP n.natAbs ++ out = x) : decP (n.tdiv 10).natAbs ++ (UInt8.ofNat (48 + n.natAbs % 10) :: out) = x := by
  have h0 : n.natAbs ≠ 0 := by omega
  rw [tdiv_abs, ← hd, ← decP_step h0, List.append_assoc]
  rfl
theorem itoa_pos {n : Int} (h : 0 < n) {x : Bs} (hx : decP n.natAbs = x) : itoa n = x := by
  rw [itoa, Lib.itoa, if_neg (by omega), ← hx, decP_pos (by omega)]
  congr 1
  omega
theorem itoa_neg {n : Int} (h : n < 0) {x : Bs} (hx : decP n.natAbs = x) : itoa n = 45 :: x := by
  rw [itoa, Lib.itoa, if_pos h, ← hx, decP_pos (by omega)]
theorem itoa_zero : itoa 0 = [48] := by rw [itoa, Lib.itoa, if_neg (by omega), show (0 : Int).toNat = 0 from rfl, Lib.decDigits_one (by omega)]; rfl
theorem dec_len20 {u : Nat} (h : u < 100000000000000000000) : (Lib.decDigits u).length ≤ 20 := by
  rw [Lib.decDigits_length]
  by_cases g : Lib.nDigits u ≤ 20
  · exact g
  · exfalso
    have key : ∀ (k u : Nat), u < 10 ^ (k + 1) → Lib.nDigits u ≤ k + 1 := by
      intro k
      induction k with
      | zero => intro u hu; rw [Lib.nDigits_small (by simpa using hu)]; omega
      | succ k ih =>
        intro u hu
        by_cases h10 : u < 10
        · rw [Lib.nDigits_small h10]; omega
        · rw [Lib.nDigits_big h10]
          have := ih (u / 10) (by rw [Nat.pow_succ] at hu; omega)
          omega
    have := key 19 u (by simpa using h)
    omega
theorem digI_range (n : Int) : 0 ≤ digI n ∧ digI n ≤ 9 := by rw [digI_eq]; omega
theorem dig_facts {m : Int} (h : -9223372036854775808 ≤ m ∧ m ≤ 9223372036854775807) : IntKind.i64.wrap (48 + digI m) = 48 + digI m ∧ IntKind.u8.wrap (48 + digI m) = 48 + digI m ∧ IntKind.i64.wrap (m.tdiv 10) = m.tdiv 10 ∧ IntKind.i64.wrap (0 - m.tmod 10) = 0 - m.tmod 10 := by
  have := digI_range m
  have h1 := tdiv_abs m
  have h2 := tmod_abs m
  refine ⟨wrap64 (by omega), ?_, wrap64 (by omega), wrap64 (by omega)⟩
  generalize digI m = d at this ⊢
  show (48 + d).emod 256 = 48 + d
  exact Int.emod_eq_of_lt (by omega) (by omega)
theorem dig_step {m a : Int} {o : Bs} (h : ¬ m = 0) (i : decP m.natAbs ++ o = decP a.natAbs) : decP (m.tdiv 10).natAbs ++ ([UInt8.ofNat (48 + digI m).toNat] ++ o) = decP a.natAbs := by
  rw [digI_eq, show (48 + ((m.natAbs % 10 : Nat) : Int)).toNat = 48 + m.natAbs % 10 by omega]
  exact digI_step h i
theorem dig_end {m a : Int} {o : Bs} (h : m = 0) (i : decP m.natAbs ++ o = decP a.natAbs) : o = decP a.natAbs := by
  rw [← i, h]
  rfl
theorem decP_len {a : Int} (h : -9223372036854775808 ≤ a ∧ a ≤ 9223372036854775807) : (decP a.natAbs).length ≤ 20 := by
  unfold decP
  split
  · exact Nat.zero_le _
  · exact dec_len20 (by omega)
theorem itoa_len {n : Int} (h : -9223372036854775808 ≤ n ∧ n ≤ 9223372036854775807) : (itoa n).length ≤ 21 := by
  unfold itoa Lib.itoa
  split
  · have := dec_len20 (u := n.natAbs) (by omega)
    simp; omega
  · have := dec_len20 (u := n.toNat) (by omega)
    omega
/-! ### texts joined, as they stand in the code -/
theorem mk_bt (l : List UInt8) : (⟨l.toArray⟩ : ByteArray) = bt l := (rfl)
/-- Two texts are short enough to be joined. -/
def lenOk (a b : Bs) : Bool := decide (a.length + b.length ≤ 1099511627776)
theorem bt_fits {a b : Bs} (h : lenOk a b = true) : ((((bt a).size + (bt b).size : Nat) : Int) ≤ 9223372036854775807) = True := by
  have := of_decide_eq_true h
  rw [bt_size, bt_size]
  exact eq_true (by omega)
theorem lenOk_of {a b : Bs} (h : a.length + b.length ≤ 1099511627776) : lenOk a b = true := decide_eq_true h
theorem dig_fits {m a : Int} {o : Bs} (h : ¬ m = 0) (i : decP m.natAbs ++ o = decP a.natAbs) (ha : -9223372036854775808 ≤ a ∧ a ≤ 9223372036854775807) : lenOk [UInt8.ofNat (48 + digI m).toNat] o = true := by
  have h1 := decP_len ha
  have h2 := congrArg List.length i
  rw [List.length_append] at h2
  exact lenOk_of (by simp only [List.length_cons, List.length_nil]; omega)
theorem bytes_one {n : Int} : bytesOf? [.int .u8 n] = some [UInt8.ofNat n.toNat] := (rfl)
theorem bt_ext {l : Bs} {a b : Nat} : (bt l).extract a b = bt ((l.take b).drop a) := by
  apply ByteArray.ext
  apply Array.ext'
  simp [bt, ByteArray.data_extract, List.drop_take]
theorem bt_bat {l : Bs} {i : Nat} : bat (bt l) i = ((l.getD i 0).toNat : Int) := by
  unfold bat
  rw [bt_data]
theorem cut_one {l : Bs} {i : Nat} (h : i < l.length) : (l.take (i + 1)).drop i = [l.getD i 0] := by
  rw [List.drop_take, Nat.add_sub_cancel_left, List.drop_eq_getElem_cons h, show l.getD i 0 = l[i] by simp [h]]
  rfl
theorem scan_len : ∀ (k : Nat) (l : Bs) (x : Nat), (scan k l x).2 ≤ k ∧ (scan k l x).2 ≤ l.length
  | 0, l, x => by cases l <;> simp [scan]
  | k + 1, [], x => by simp [scan]
  | k + 1, b :: l, x => by
    have := scan_len k l (10 * x + (b.toNat - 48))
    rw [scan]
    split
    · simp only [List.length_cons]; omega
    · exact ⟨Nat.zero_le _, Nat.zero_le _⟩
theorem scan_val : ∀ (k : Nat) (l : Bs) (x : Nat), (scan k l x).1 < (x + 1) * 10 ^ k
  | 0, l, x => by cases l <;> simp [scan]
  | k + 1, [], x => by
    have : 0 < 10 ^ (k + 1) := Nat.pow_pos (by decide)
    simp only [scan]
    exact Nat.lt_of_lt_of_le (Nat.lt_succ_self x) (Nat.le_mul_of_pos_right _ this)
  | k + 1, b :: l, x => by
    rw [scan]
    split
    · rename_i hd
      have h1 := scan_val k l (10 * x + (b.toNat - 48))
      unfold digit at hd
      have h2 : 10 * x + (b.toNat - 48) + 1 ≤ (x + 1) * 10 := by omega
      calc (scan k l (10 * x + (b.toNat - 48))).1 < (10 * x + (b.toNat - 48) + 1) * 10 ^ k := h1
        _ ≤ ((x + 1) * 10) * 10 ^ k := Nat.mul_le_mul_right _ h2
        _ = (x + 1) * 10 ^ (k + 1) := by rw [Nat.mul_assoc, Nat.pow_succ, Nat.mul_comm 10]
    · have : 0 < 10 ^ (k + 1) := Nat.pow_pos (by decide)
      exact Nat.lt_of_lt_of_le (Nat.lt_succ_self x) (Nat.le_mul_of_pos_right _ this)
theorem scan_go {l : Bs} {p k v : Nat} (h : p < l.length) (hd : 48 ≤ (l.getD p 0).toNat) (he : (l.getD p 0).toNat ≤ 57) : scan (k + 1) (l.drop p) v = ((scan k (l.drop (p + 1)) (10 * v + ((l.getD p 0).toNat - 48))).1, (scan k (l.drop (p + 1)) (10 * v + ((l.getD p 0).toNat - 48))).2 + 1) := by
  have e : l.drop p = l.getD p 0 :: l.drop (p + 1) := by
    rw [List.drop_eq_getElem_cons h]
    simp [h]
  rw [e, scan, if_pos ⟨hd, he⟩]
theorem scan_stop {l : Bs} {p k v : Nat} (h : k = 0 ∨ l.length ≤ p ∨ (l.getD p 0).toNat < 48 ∨ 57 < (l.getD p 0).toNat) : scan k (l.drop p) v = (v, 0) := by
  rcases Nat.lt_or_ge p l.length with hp | hp
  · have e : l.drop p = l.getD p 0 :: l.drop (p + 1) := by
      rw [List.drop_eq_getElem_cons hp]
      simp [hp]
    rw [e]
    cases k with
    | zero => rfl
    | succ k =>
      rw [scan, if_neg]
      unfold digit
      omega
  · rw [List.drop_of_length_le hp]
    cases k <;> rfl
theorem drop_at {l : Bs} {i : Nat} (h : i < l.length) : l.drop i = l.getD i 0 :: l.drop (i + 1) := by
  rw [List.drop_eq_getElem_cons h]
  simp [h]
theorem tailS_end {l : Bs} {i : Nat} {p : Int} (h : l.length ≤ i) : tailS (l.drop i) p = (p, 0) := by
  rw [List.drop_of_length_le h]
  rfl
theorem tailS_lock {l : Bs} {i : Nat} {p : Int} (h : i < l.length) (hb : (l.getD i 0).toNat = 35) : tailS (l.drop i) p = (p, (((numA l (i + 1)).1 : Nat) : Int)) := by
  rw [drop_at h, tailS, if_pos (UInt8.toNat_inj.1 hb)]
  rfl
theorem tailS_go {l : Bs} {i : Nat} {p : Int} (h : i < l.length) (hb : ¬ (l.getD i 0).toNat = 35) : tailS (l.drop i) p = tailS (l.drop (i + 1)) (orL (l.getD i 0) 6 p) := by
  rw [drop_at h, tailS, if_neg (fun e => hb (by rw [e]; rfl))]
theorem orL_yes {b : UInt8} {k : Nat} {p : Int} (h : bt [b] = bt [lets.getD k 0]) : orL b (k + 1) p = bitop .or .i64 (orL b k p) (2 ^ k) := by
  have := bt_inj.1 h
  rw [orL, if_pos (List.head_eq_of_cons_eq this)]
  rfl
theorem orL_no {b : UInt8} {k : Nat} {p : Int} (h : ¬ bt [b] = bt [lets.getD k 0]) : orL b (k + 1) p = orL b k p := by
  rw [orL, if_neg (fun e => h (by rw [e]))]
theorem numA_len {l : Bs} {a : Nat} : (numA l a).2 ≤ a + 4 ∧ (numA l a).1 < 10000 := by
  have h1 := (scan_len 4 (l.drop a) 0).1
  have h2 := scan_val 4 (l.drop a) 0
  simp only [numA]
  omega
theorem shl_fits {k : Nat} (h : k < 6) : IntKind.i64.wrap (1 * 2 ^ k) = 2 ^ k := by
  match k, h with
  | 0, _ => rfl
  | 1, _ => rfl
  | 2, _ => rfl
  | 3, _ => rfl
  | 4, _ => rfl
  | 5, _ => rfl
theorem trim_len {l p : Bs} : (Lib.trimPrefix l p).length ≤ l.length := by
  unfold Lib.trimPrefix
  split
  · simp only [List.length_drop]; omega
  · exact Nat.le_refl _
theorem permI_yes {ls : Bs} {i : Nat} (h : 0 ≤ Lib.indexByte ls (lets.getD i 0)) : permI ls (i + 1) = bitop .or .i64 (permI ls i) (2 ^ i) := by
  rw [permI, if_pos h]
  rfl
theorem permI_no {ls : Bs} {i : Nat} (h : ¬ 0 ≤ Lib.indexByte ls (lets.getD i 0)) : permI ls (i + 1) = permI ls i := by rw [permI, if_neg h]
theorem okI_is {l : Bs} : okI l = ((cutB (Lib.trimPrefix l [91]) 44).2.2 && (cutB (cutB (Lib.trimPrefix l [91]) 44).2.1 41).2.2 && (atoV (cutB (Lib.trimPrefix l [91]) 44).1).2 && (atoV (cutB (cutB (Lib.trimPrefix l [91]) 44).2.1 41).1).2 && (atoV (kiOf l).d).2) := rfl
theorem kr_no {l : Bs} (c : (((((((cutB (Lib.trimPrefix l [91]) 44).2.2 = false ∨ (cutB (cutB (Lib.trimPrefix l [91]) 44).2.1 41).2.2 = false) ∨ (atoV (cutB (Lib.trimPrefix l [91]) 44).1).2 = false) ∨ (atoV (cutB (cutB (Lib.trimPrefix l [91]) 44).2.1 41).1).2 = false) ∨ (atoV (kiOf l).d).2 = false) ∨ keyOk (keyI l) = false) ∨ ¬ bt (keyT (keyI l)) = bt l)) : keyRead l = (noKey, false) := by
  rw [keyRead, if_neg]
  rintro ⟨h1, h2, h3⟩
  rw [okI_is] at h1
  simp only [Bool.and_eq_true] at h1
  obtain ⟨⟨⟨⟨a1, a2⟩, a3⟩, a4⟩, a5⟩ := h1
  rw [a1, a2, a3, a4, a5, h2, h3] at c
  simp at c
theorem kr_yes {l : Bs} (c : (((((((cutB (Lib.trimPrefix l [91]) 44).2.2 = true ∧ (cutB (cutB (Lib.trimPrefix l [91]) 44).2.1 41).2.2 = true) ∧ (atoV (cutB (Lib.trimPrefix l [91]) 44).1).2 = true) ∧ (atoV (cutB (cutB (Lib.trimPrefix l [91]) 44).2.1 41).1).2 = true) ∧ (atoV (kiOf l).d).2 = true) ∧ keyOk (keyI l) = true) ∧ bt (keyT (keyI l)) = bt l)) : keyRead l = (keyI l, true) := by
  rw [keyRead, if_pos]
  obtain ⟨⟨⟨⟨⟨⟨a1, a2⟩, a3⟩, a4⟩, a5⟩, a6⟩, a7⟩ := c
  refine ⟨?_, a6, bt_inj.1 a7⟩
  rw [okI_is, a1, a2, a3, a4, a5]
  rfl
/-- The letters, as a row of texts; one of them. -/
theorem lets_row {i : Nat} (h : i < 6) : (List.drop i [AV.str (bt [108]), .str (bt [115]), .str (bt [114]), .str (bt [116]), .str (bt [112]), .str (bt [107])]).head? = some (.str (bt [lets.getD i 0])) := by
  match i, h with
  | 0, _ => rfl
  | 1, _ => rfl
  | 2, _ => rfl
  | 3, _ => rfl
  | 4, _ => rfl
  | 5, _ => rfl
theorem lets_cut {i : Nat} (h : i < 6) : (bt [108, 115, 114, 116, 112, 107]).extract i (i + 1) = bt [lets.getD i 0] := by
  match i, h with
  | 0, _ => decide +kernel
  | 1, _ => decide +kernel
  | 2, _ => decide +kernel
  | 3, _ => decide +kernel
  | 4, _ => decide +kernel
  | 5, _ => decide +kernel
/-! ### letters -/
theorem permT_len {p : Int} : ∀ i : Nat, (permT p i).length ≤ i
  | 0 => Nat.le_refl _
  | i + 1 => by
    have := permT_len (p := p) i
    rw [permT]
    split <;> simp <;> omega
theorem band_one (x : Int) : band x 1 = 0 ∨ band x 1 = 1 := by
  have : 0 ≤ band x 1 ∧ band x 1 ≤ 1 := by
    show 0 ≤ IntKind.i64.wrap (((BitVec.ofInt 64 x &&& BitVec.ofInt 64 1).toNat : Nat) : Int) ∧ IntKind.i64.wrap (((BitVec.ofInt 64 x &&& BitVec.ofInt 64 1).toNat : Nat) : Int) ≤ 1
    have hm : (BitVec.ofInt 64 1).toNat = 1 := by rfl
    have h1 : (BitVec.ofInt 64 x &&& BitVec.ofInt 64 1).toNat ≤ 1 := by rw [BitVec.toNat_and, hm]; exact Nat.and_le_right
    rw [wrap64 (by omega)]
    omega
  omega
theorem permT_on {p : Int} {i : Nat} (h : bitop .and .i64 (p.fdiv (2 ^ i)) 1 = 1) : permT p (i + 1) = permT p i ++ [lets.getD i 0] := by
  rw [permT, if_pos (show bitB p i = true from decide_eq_true h)]
theorem permT_off {p : Int} {i : Nat} (h : bitop .and .i64 (p.fdiv (2 ^ i)) 1 = 0) : permT p (i + 1) = permT p i := by
  rw [permT, if_neg, List.append_nil]
  have : bitB p i = false := decide_eq_false (by show ¬ bitop .and .i64 (p.fdiv (2 ^ i)) 1 = 1; omega)
  rw [this]
  exact Bool.noConfusion
theorem keyB_len {k : Key} (h : keyOk k = true) : (keyB k).length ≤ 80 := by
  have hp := key_parts h
  have h1 := itoa_len (n := k.base) (by omega)
  have h2 := itoa_len (n := k.top) (by omega)
  have h3 := permT_len (p := k.perms) 6
  have h4 : (lockT k.lock).length ≤ 22 := by
    unfold lockT
    split
    · simp
    · have := itoa_len (n := k.lock) (by omega)
      simp; omega
  simp only [keyB, List.length_cons, List.length_append]
  omega
theorem keyT_len {k : Key} : (keyT k).length ≤ 80 := by
  unfold keyT
  split
  · exact keyB_len (by assumption)
  · exact Nat.zero_le _
/-! ### rows of texts -/
def strsV (xs : List Bs) : List AV := xs.map fun x => .str (bt x)
theorem strsV_nil : strsV [] = [] := (rfl)
theorem strsV_cons {x : Bs} {xs : List Bs} : strsV (x :: xs) = .str (bt x) :: strsV xs := (rfl)
theorem strsV_len {xs : List Bs} : (strsV xs).length = xs.length := List.length_map ..
theorem bor_strsV {Hb : Heap} {inv : Nat → Option Nat} {n : Nat} : ∀ {xs : List Bs}, (strsV xs).map (bor Hb inv (n + 1)) = strsV xs
  | [] => rfl
  | x :: xs => by rw [strsV_cons, List.map_cons, bor_strsV (xs := xs)]; rfl
theorem sh_strsV {mm : Nat → Nat} : ∀ {xs : List Bs}, shL mm (strsV xs) = strsV xs
  | [] => rfl
  | x :: xs => by rw [strsV_cons, shL, sh_strsV (xs := xs)]; rfl
theorem noS_strsV : ∀ {xs : List Bs}, noSL (strsV xs) = true
  | [] => rfl
  | x :: xs => by rw [strsV_cons, noSL, noS_strsV (xs := xs)]; rfl
attribute [go_sem] bor_strsV sh_strsV noS_strsV
theorem strs_mem {xs : List Bs} {i : Nat} (h : i < xs.length) : xs.getD i [] ∈ xs := by
  rw [List.getD_eq_getElem?_getD, List.getElem?_eq_getElem h]
  exact List.getElem_mem h
theorem strsV_at {xs : List Bs} {n : Nat} (h : n < xs.length) : (List.drop n (strsV xs)).head? = some (.str (bt (xs.getD n []))) := by
  rw [List.head?_drop, strsV, List.getElem?_map, List.getElem?_eq_getElem h]
  simp [h]
theorem keyT_ne {k : Key} : decide (bt (keyT k) = bt []) = !keyOk k := by
  refine Eq.trans (b := decide (_ = ([] : Bs))) (decide_eq_decide.2 bt_inj) ?_
  unfold keyT
  by_cases h : keyOk k = true
  · simp only [h, if_true]; exact decide_eq_false keyB_ne
  · simp only [h, Bool.false_eq_true, if_false]; rfl
theorem keyRead_back {k : Key} (h : keyOk k = true) : keyRead (keyT k) = (k, true) := by
  have e : keyT k = keyB k := if_pos h
  have b := keyI_back h
  rw [keyRead, if_pos ⟨by rw [e]; exact b.1, by rw [e, b.2]; exact h, by rw [e, b.2]; exact e⟩, e, b.2]
theorem keyRead_is (l : Bs) : ((keyRead l).2 = false ∧ (keyRead l).1 = noKey) ∨ ((keyRead l).2 = true ∧ keyT (keyRead l).1 = l) := by
  unfold keyRead
  split
  · rename_i h; exact Or.inr ⟨rfl, h.2.2⟩
  · exact Or.inl ⟨rfl, rfl⟩
theorem wordT_ne {w : Word} : decide (bt (wordT w) = bt []) = !wordOk w := by
  refine Eq.trans (b := decide (_ = ([] : Bs))) (decide_eq_decide.2 bt_inj) ?_
  unfold wordT
  by_cases h : wordOk w = true
  · simp only [h, if_true]
    refine decide_eq_false fun e => ?_
    have hn : itoa w.n ≠ [] := by
      have : 0 ≤ w.n := by simp only [wordOk, Bool.and_eq_true, inR_iff] at h; exact h.1.1
      rw [itoa_nat this]
      exact dec_ne _
    split at e
    · exact hn (List.append_eq_nil_iff.1 e).1
    · exact hn e
  · simp only [h, Bool.false_eq_true, if_false]; rfl
theorem pks_len {z : Bs} (h : z ∈ [[48], [44], [108], [35], [57], [41], [91]]) : z.length = 1 := by
  simp only [List.mem_cons, List.not_mem_nil, or_false] at h
  rcases h with rfl | rfl | rfl | rfl | rfl | rfl | rfl <;> rfl
end Go.Proofs.YtgpjgljgplngpaaDoor.AM
