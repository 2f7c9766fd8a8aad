/- Texts: keys and words, and how they are read. No conditions. -/
import Derived.Test.YtgpjgljgplngpaaDoorTx1
set_option linter.unusedVariables false
set_option linter.unusedSimpArgs false
namespace Go.Proofs.YtgpjgljgplngpaaDoor.AM
open Go

/-! ### a text is cut -/
theorem index_none {c : UInt8} : ∀ {l : Bs}, c ∉ l → Lib.indexByte l c = -1
  | [], _ => rfl
  | b :: l, h => by
    simp at h
    have h1 : (b == c) = false := by simpa using fun e => h.1 e.symm
    rw [Lib.indexByte, h1, index_none h.2]
    rfl
theorem index_app {c : UInt8} {r : Bs} : ∀ {a : Bs}, c ∉ a → Lib.indexByte (a ++ c :: r) c = a.length
  | [], _ => by simp [Lib.indexByte]
  | b :: a, h => by
    simp at h
    have h1 : (b == c) = false := by simpa using fun e => h.1 e.symm
    rw [List.cons_append, Lib.indexByte, h1, index_app h.2]
    have h2 : ((a.length : Int) == -1) = false := by simp <;> omega
    rw [h2]
    simp
theorem index_lt {c : UInt8} : ∀ {l : Bs}, Lib.indexByte l c < l.length
  | [] => by simp [Lib.indexByte]
  | b :: l => by
    have := index_lt (c := c) (l := l)
    rw [Lib.indexByte]
    split
    · simp <;> omega
    · split
      · simp <;> omega
      · simp <;> omega
def cutB (l : Bs) (c : UInt8) : Bs × Bs × Bool := if Lib.indexByte l c < 0 then (l, [], false) else (l.take (Lib.indexByte l c).toNat, l.drop ((Lib.indexByte l c).toNat + 1), true)
theorem cutB_app {a r : Bs} {c : UInt8} (h : c ∉ a) : cutB (a ++ c :: r) c = (a, r, true) := by
  rw [cutB, index_app h, if_neg (by omega), Int.toNat_natCast, List.take_left' rfl, ← List.drop_drop, List.drop_left' rfl]
  rfl
theorem cutB_none {a : Bs} {c : UInt8} (h : c ∉ a) : cutB a c = (a, [], false) := by
  rw [cutB, index_none h, if_pos (by decide)]
theorem cutB_len {l : Bs} {c : UInt8} : (cutB l c).1.length ≤ l.length ∧ (cutB l c).2.1.length ≤ l.length := by
  unfold cutB
  split
  · exact ⟨Nat.le_refl _, Nat.zero_le _⟩
  · simp only [List.length_take, List.length_drop]; omega

/-! ### keys -/
def itoa (n : Int) : Bs := Lib.itoa n
def lets : Bs := [108, 115, 114, 116, 112, 107]
def bitB (p : Int) (i : Nat) : Bool := decide (band (p.fdiv (2 ^ i)) 1 = 1)
def bior (a b : Int) : Int := bitop .or .i64 a b
def permT (p : Int) : Nat → Bs
  | 0 => []
  | i + 1 => permT p i ++ if bitB p i = true then [lets.getD i 0] else []
def lockT (n : Int) : Bs := if n = 0 then [] else 35 :: itoa n
def keyB (k : Key) : Bs := 91 :: (itoa k.base ++ 44 :: (itoa k.top ++ 41 :: (permT k.perms 6 ++ lockT k.lock)))
def keyT (k : Key) : Bs := if keyOk k = true then keyB k else []
def wordT (w : Word) : Bs := if wordOk w = true then (if w.is = true then itoa w.n ++ 32 :: keyT w.key else itoa w.n) else []
/-- What strconv.Atoi tells, and whether without an error. -/
def atoV (l : Bs) : Int × Bool := match Lib.atoiAll l with
  | .ok v => (v, true)
  | Lib.NumEnd.syntax => (0, false)
  | .range => (Lib.atoiSat l, false)
theorem atoV_itoa {n : Int} (h : -1000000000000000000 < n ∧ n < 1000000000000000000) : atoV (itoa n) = (n, true) := by rw [atoV, itoa, atoi_itoa h]
def permI (ls : Bs) : Nat → Int
  | 0 => 0
  | i + 1 => if 0 ≤ Lib.indexByte ls (lets.getD i 0) then bior (permI ls i) (2 ^ i) else permI ls i
structure KI where
  a : Bs × Bs × Bool
  b : Bs × Bs × Bool
  c : Bs × Bs × Bool
  d : Bs
def kiOf (s : Bs) : KI :=
  ⟨cutB (Lib.trimPrefix s [91]) 44, cutB (cutB (Lib.trimPrefix s [91]) 44).2.1 41, cutB (cutB (cutB (Lib.trimPrefix s [91]) 44).2.1 41).2.1 35,
   if (cutB (cutB (cutB (Lib.trimPrefix s [91]) 44).2.1 41).2.1 35).2.2 = true then (cutB (cutB (cutB (Lib.trimPrefix s [91]) 44).2.1 41).2.1 35).2.1 else [48]⟩
def keyI (s : Bs) : Key := ⟨(atoV (kiOf s).a.1).1, (atoV (kiOf s).b.1).1, permI (kiOf s).c.1 6, (atoV (kiOf s).d).1⟩
def okI (s : Bs) : Bool := (kiOf s).a.2.2 && (kiOf s).b.2.2 && (atoV (kiOf s).a.1).2 && (atoV (kiOf s).b.1).2 && (atoV (kiOf s).d).2
def keyRead (s : Bs) : Key × Bool := if okI s = true ∧ keyOk (keyI s) = true ∧ keyT (keyI s) = s then (keyI s, true) else (noKey, false)
def numA (s : Bs) (a : Nat) : Nat × Nat := ((scan 4 (s.drop a) 0).1, a + (scan 4 (s.drop a) 0).2)
def orL (b : UInt8) : Nat → Int → Int
  | 0, p => p
  | i + 1, p => if b = lets.getD i 0 then bior (orL b i p) (2 ^ i) else orL b i p
def tailS : Bs → Int → Int × Int
  | [], p => (p, 0)
  | b :: r, p => if b = 35 then (p, ((scan 4 r 0).1 : Nat)) else tailS r (orL b 6 p)
def keyS (s : Bs) : Key := ⟨(numA s 1).1, (numA s ((numA s 1).2 + 1)).1, (tailS (s.drop ((numA s ((numA s 1).2 + 1)).2 + 1)) 0).1, (tailS (s.drop ((numA s ((numA s 1).2 + 1)).2 + 1)) 0).2⟩
theorem itoa_nat {n : Int} (h : 0 ≤ n) : itoa n = Lib.decDigits n.toNat := by rw [itoa, Lib.itoa, if_neg (by omega)]
theorem itoa_not {n : Int} {c : UInt8} (h : 0 ≤ n) (hc : ¬ digit c) : c ∉ itoa n := by
  rw [itoa_nat h]
  exact fun g => hc (dec_all _ c g)
set_option maxRecDepth 100000 in
theorem perm_back : ∀ p : Fin 64, permI (permT (p.val : Int) 6) 6 = (p.val : Int) ∧ (35 : UInt8) ∉ permT (p.val : Int) 6 := by decide +kernel
set_option maxRecDepth 100000 in
theorem tail_back : ∀ p : Fin 64, ∀ q : Fin 8, tailS (permT (p.val : Int) 6 ++ (if q.val = 0 then [] else [35, UInt8.ofNat (48 + q.val)])) 0 = ((p.val : Int), (q.val : Int)) := by decide +kernel
theorem lockT_nat {n : Int} (h : 0 ≤ n ∧ n ≤ 7) : lockT n = if n.toNat = 0 then [] else [35, UInt8.ofNat (48 + n.toNat)] := by
  unfold lockT
  by_cases e : n = 0
  · rw [if_pos e, if_pos (by omega)]
  · rw [if_neg e, if_neg (by omega), itoa_nat h.1, Lib.decDigits_one (by omega)]
theorem key_parts {k : Key} (h : keyOk k = true) : (0 ≤ k.base ∧ k.base ≤ 4096) ∧ (0 ≤ k.top ∧ k.top ≤ 4096) ∧ (0 ≤ k.perms ∧ k.perms ≤ 63) ∧ (0 ≤ k.lock ∧ k.lock ≤ 7) := by
  simp only [keyOk, exact, Bool.and_eq_true, inR_iff] at h
  have := boundsOk_iff.1 h.1.1.1.1
  exact ⟨by omega, by omega, h.1.2, h.2⟩
theorem keyI_back {k : Key} (h : keyOk k = true) : okI (keyB k) = true ∧ keyI (keyB k) = k := by
  obtain ⟨hb, ht, hp, hl⟩ := key_parts h
  obtain ⟨p, hp2⟩ : ∃ p : Fin 64, (p.val : Int) = k.perms := ⟨⟨k.perms.toNat, by omega⟩, by simp; omega⟩
  have hpb := perm_back p
  rw [hp2] at hpb
  have htp : Lib.trimPrefix (keyB k) [91] = itoa k.base ++ 44 :: (itoa k.top ++ 41 :: (permT k.perms 6 ++ lockT k.lock)) := by
    rw [Lib.trimPrefix, if_pos (by simp [Lib.hasPrefix, keyB])]
    rfl
  have c1 : cutB (Lib.trimPrefix (keyB k) [91]) 44 = (itoa k.base, itoa k.top ++ 41 :: (permT k.perms 6 ++ lockT k.lock), true) := by rw [htp]; exact cutB_app (itoa_not hb.1 (by decide))
  have c2 : cutB (itoa k.top ++ 41 :: (permT k.perms 6 ++ lockT k.lock)) 41 = (itoa k.top, permT k.perms 6 ++ lockT k.lock, true) := cutB_app (itoa_not ht.1 (by decide))
  have hbv := atoV_itoa (n := k.base) (by omega)
  have htv := atoV_itoa (n := k.top) (by omega)
  have hlv := atoV_itoa (n := k.lock) (by omega)
  by_cases e : k.lock = 0
  · have c3 : cutB (permT k.perms 6 ++ lockT k.lock) 35 = (permT k.perms 6, [], false) := by rw [lockT, if_pos e, List.append_nil]; exact cutB_none hpb.2
    have h0 : atoV [48] = (0, true) := by decide +kernel
    constructor
    · simp only [okI, kiOf, c1, c2, c3, hbv, htv, h0, Bool.and_true, Bool.false_eq_true, if_false]
    · simp only [keyI, kiOf, c1, c2, c3, hbv, htv, h0, Bool.false_eq_true, if_false, hpb.1, ← e]
  · have c3 : cutB (permT k.perms 6 ++ lockT k.lock) 35 = (permT k.perms 6, itoa k.lock, true) := by rw [lockT, if_neg e]; exact cutB_app hpb.2
    constructor
    · simp only [okI, kiOf, c1, c2, c3, hbv, htv, hlv, Bool.and_true, if_true]
    · simp only [keyI, kiOf, c1, c2, c3, hbv, htv, hlv, if_true, hpb.1]
theorem numA_at {s x r : Bs} {n : Int} {a : Nat} (hn : 0 ≤ n ∧ n < 10000) (hs : s.drop a = itoa n ++ r) (hr : ∀ b, r.head? = some b → ¬ digit b) : numA s a = (n.toNat, a + (itoa n).length) := by
  rw [numA, hs, itoa_nat hn.1, scan_digits _ r 4 0 (dec_all _) (dec_len (by omega)).2 (Or.inr hr), valD_dec]
theorem keyS_back {k : Key} (h : keyOk k = true) : keyS (keyB k) = k := by
  obtain ⟨hb, ht, hp, hl⟩ := key_parts h
  have n1 : numA (keyB k) 1 = (k.base.toNat, 1 + (itoa k.base).length) := numA_at (x := []) (by omega) (r := 44 :: (itoa k.top ++ 41 :: (permT k.perms 6 ++ lockT k.lock))) rfl (fun b hb => by simp at hb; subst hb; decide)
  have d2 : (keyB k).drop (1 + (itoa k.base).length + 1) = itoa k.top ++ 41 :: (permT k.perms 6 ++ lockT k.lock) := by
    rw [Nat.add_assoc, ← List.drop_drop]
    show (itoa k.base ++ 44 :: (itoa k.top ++ 41 :: (permT k.perms 6 ++ lockT k.lock))).drop ((itoa k.base).length + 1) = _
    rw [← List.drop_drop, List.drop_left' rfl]
    rfl
  have n2 : numA (keyB k) (1 + (itoa k.base).length + 1) = (k.top.toNat, 1 + (itoa k.base).length + 1 + (itoa k.top).length) := numA_at (x := []) (by omega) d2 (fun b hb => by simp at hb; subst hb; decide)
  have d3 : (keyB k).drop (1 + (itoa k.base).length + 1 + (itoa k.top).length + 1) = permT k.perms 6 ++ lockT k.lock := by
    rw [Nat.add_assoc (1 + (itoa k.base).length + 1), ← List.drop_drop, d2, ← List.drop_drop, List.drop_left' rfl]
    rfl
  have ht2 := tail_back ⟨k.perms.toNat, by omega⟩ ⟨k.lock.toNat, by omega⟩
  simp only at ht2
  rw [← lockT_nat hl, show ((k.perms.toNat : Nat) : Int) = k.perms by omega, show ((k.lock.toNat : Nat) : Int) = k.lock by omega] at ht2
  unfold keyS
  rw [n1]
  simp only
  rw [n2]
  simp only
  rw [d3, ht2]
  rw [show ((k.base.toNat : Nat) : Int) = k.base by omega, show ((k.top.toNat : Nat) : Int) = k.top by omega]
theorem keyT_ok {k : Key} {s : Bs} (h : keyT k = s) (hs : s ≠ []) : keyOk k = true ∧ keyB k = s := by
  unfold keyT at h
  split at h
  · exact ⟨by assumption, h⟩
  · exact absurd h.symm hs
theorem keyB_ne {k : Key} : keyB k ≠ [] := by simp [keyB]
theorem keyRead_eq {s : Bs} : keyRead s = if s ≠ [] ∧ keyT (keyS s) = s then (keyS s, true) else (noKey, false) := by
  unfold keyRead
  by_cases h : okI s = true ∧ keyOk (keyI s) = true ∧ keyT (keyI s) = s
  · have hB : keyB (keyI s) = s := by have := h.2.2; rwa [keyT, if_pos h.2.1] at this
    have hS := keyS_back h.2.1
    rw [hB] at hS
    have hne : s ≠ [] := by rw [← hB]; exact keyB_ne
    rw [if_pos h, if_pos ⟨hne, by rw [hS]; exact h.2.2⟩, hS]
  · rw [if_neg h]
    by_cases h2 : s ≠ [] ∧ keyT (keyS s) = s
    · exfalso
      obtain ⟨hk, hB⟩ := keyT_ok h2.2 h2.1
      have hI := keyI_back hk
      rw [hB] at hI
      exact h ⟨hI.1, by rw [hI.2]; exact hk, by rw [hI.2]; exact h2.2⟩
    · rw [if_neg h2]
end Go.Proofs.YtgpjgljgplngpaaDoor.AM
