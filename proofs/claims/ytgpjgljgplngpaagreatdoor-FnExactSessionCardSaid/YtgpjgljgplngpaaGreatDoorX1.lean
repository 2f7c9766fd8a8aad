/- Texts: bytes and numbers; Texts: keys and words, and how they are read; What functions of Go's library are shown to do elsewhere, said of the abstract machine; Texts: how they are made step by step; Texts: commands and rows of them, and how they are read; Texts: rows of commands, and how they are read; Texts in pieces, step by step; Commands as texts, step by step; Commands read, step by step; Rows of commands as texts, step by step. No conditions but those each theorem bears. -/
import Derived.Test.YtgpjgljgplngpaaGreatDoorM5
import Derived.Lib.ItoaNum
import Derived.Lib.AtoiAll
import Derived.Lib.Bytealg
import Derived.Lib.Strings
import Derived.Below
import Derived.Lib.AtoiErrMem
import Derived.Lib.AppendIntMem
import Derived.Lib.SlicesS
set_option linter.unusedVariables false
set_option linter.unusedSimpArgs false
namespace Go.Proofs.YtgpjgljgplngpaaGreatDoor.AM
open Go
abbrev Bs := List UInt8
def bt (l : Bs) : ByteArray := ⟨l.toArray⟩
theorem bt_app {a b : Bs} : bt a ++ bt b = bt (a ++ b) := by
 apply ByteArray.ext
 simp [bt]
theorem bt_size {a : Bs} : (bt a).size = a.length := by simp [bt, ByteArray.size]
theorem bt_inj {a b : Bs} : bt a = bt b ↔ a = b := by
 constructor
 ·intro h
  have := congrArg (fun x : ByteArray => x.data.toList) h
  simpa [bt] using this
 ·intro h; rw [h]
theorem bt_data {a : Bs} : (bt a).data.toList = a := by simp [bt]
def digit (b : UInt8) : Prop := 48 ≤ b.toNat ∧ b.toNat ≤ 57
instance (b : UInt8) : Decidable (digit b) := by unfold digit; infer_instance
theorem digit_of {n : Nat} (h : n < 10) : digit (UInt8.ofNat (48 + n)) ∧ (UInt8.ofNat (48 + n)).toNat = 48 + n := by
 have : (UInt8.ofNat (48 + n)).toNat = 48 + n := by rw [UInt8.toNat_ofNat']; omega
 exact ⟨⟨by omega, by omega⟩, this⟩
def decP (u : Nat) : Bs := if u = 0 then [] else Lib.decDigits u
theorem decP_pos {u : Nat} (h : u ≠ 0) : decP u = Lib.decDigits u := by rw [decP, if_neg h]
theorem decP_step {u : Nat} (h : u ≠ 0) : decP (u / 10) ++ [UInt8.ofNat (48 + u % 10)] = decP u := by
 rw [decP_pos h, Lib.decDigits]
 by_cases h10 : u < 10
 ·rw [dif_pos h10, decP, if_pos (by omega), Nat.mod_eq_of_lt h10]
  rfl
 ·rw [dif_neg h10, decP_pos (by omega)]
theorem dec_big {u : Nat} (h : ¬ u < 10) : Lib.decDigits u = Lib.decDigits (u / 10) ++ [UInt8.ofNat (48 + u % 10)] := by rw [Lib.decDigits, dif_neg h]
theorem dec_all (u : Nat) : ∀ b, b ∈ Lib.decDigits u → digit b := by
 induction u using Nat.strongRecOn with
 | _ u ih =>
  intro b hb
  by_cases h : u < 10
  ·rw [Lib.decDigits_one h] at hb
   obtain rfl := List.mem_singleton.1 hb
   exact (digit_of h).1
  ·rw [dec_big h] at hb
   rcases List.mem_append.1 hb with hb | hb
   ·exact ih (u / 10) (by omega) b hb
   ·obtain rfl := List.mem_singleton.1 hb
    exact (digit_of (Nat.mod_lt _ (by decide))).1
theorem dec_ne (u : Nat) : Lib.decDigits u ≠ [] := by
 by_cases h : u < 10
 ·rw [Lib.decDigits_one h]; simp
 ·rw [dec_big h]; simp
def valD (x : Nat) (l : Bs) : Nat := l.foldl (fun x b => 10 * x + (b.toNat - 48)) x
theorem valD_snoc {x : Nat} {l : Bs} {b : UInt8} : valD x (l ++ [b]) = 10 * valD x l + (b.toNat - 48) := by simp [valD]
theorem valD_dec (u : Nat) : valD 0 (Lib.decDigits u) = u := by
 induction u using Nat.strongRecOn with
 | _ u ih =>
  by_cases h : u < 10
  ·rw [Lib.decDigits_one h]
   have := (digit_of h).2
   simp only [valD, List.foldl_cons, List.foldl_nil, this]
   omega
  ·rw [dec_big h, valD_snoc, ih (u / 10) (by omega), (digit_of (Nat.mod_lt u (by decide : 0 < 10))).2]
   omega
theorem pu_snoc : ∀ (l : Bs) {acc v : Nat} {c : UInt8}, Lib.parseUint10 acc l = .ok v → digit c → v < 1000000000000000000 → Lib.parseUint10 acc (l ++ [c]) = .ok (10 * v + (c.toNat - 48))
 | [], acc, v, c, h, hc, hv => by
  simp only [Lib.parseUint10] at h
  injection h with h
  subst h
  show Lib.parseUint10 acc [c] = _
  rw [Lib.parseUint10, if_pos (show 48 ≤ c.toNat ∧ c.toNat ≤ 57 from hc), if_neg (by omega), if_neg (by have := hc.2; omega), Lib.parseUint10]
  congr 1
  omega
 | b :: l, acc, v, c, h, hc, hv => by
  rw [Lib.parseUint10] at h
  show Lib.parseUint10 acc (b :: (l ++ [c])) = _
  rw [Lib.parseUint10]
  split at h
  ·rename_i hb
   rw [if_pos hb]
   split at h
   ·cases h
   ·rename_i h1
    rw [if_neg h1]
    split at h
    ·cases h
    ·rename_i h2
     rw [if_neg h2]
     exact pu_snoc l h hc hv
  ·cases h
theorem pu_dec (u : Nat) (h : u < 1000000000000000000) : Lib.parseUint10 0 (Lib.decDigits u) = .ok u := by
 induction u using Nat.strongRecOn with
 | _ u ih =>
  by_cases h10 : u < 10
  ·rw [Lib.decDigits_one h10]
   have := pu_snoc [] (acc := 0) (v := 0) (c := UInt8.ofNat (48 + u)) rfl (digit_of h10).1 (by decide)
   rw [(digit_of h10).2] at this
   rw [List.nil_append] at this
   rw [this]
   congr 1
   omega
  ·rw [dec_big h10, pu_snoc _ (ih (u / 10) (by omega) (by omega)) (digit_of (Nat.mod_lt u (by decide))).1 (by omega), (digit_of (Nat.mod_lt u (by decide : 0 < 10))).2]
   congr 1
   omega
theorem atoi_itoa {n : Int} (h : -1000000000000000000 < n ∧ n < 1000000000000000000) : Lib.atoiAll (Lib.itoa n) = .ok n := by
 unfold Lib.itoa
 split
 ·rename_i hn
  have hp := pu_dec n.natAbs (by omega)
  show (match Lib.parseMag (if (45 : UInt8).toNat = 43 ∨ (45 : UInt8).toNat = 45 then Lib.decDigits n.natAbs else 45 :: Lib.decDigits n.natAbs) with
   | Lib.NumEnd.syntax => (Lib.NumEnd.syntax : Lib.NumEnd Int)
   | .range => .range
   | .ok u => if ¬ (45 : UInt8).toNat = 45 ∧ 9223372036854775808 ≤ u then .range else if (45 : UInt8).toNat = 45 ∧ 9223372036854775808 < u then .range else .ok (if (45 : UInt8).toNat = 45 then -(u : Int) else u)) = _
  have e45 : (45 : UInt8).toNat = 45 := rfl
  rw [e45, if_pos (Or.inr rfl), Lib.parseMag, if_neg (dec_ne _), hp]
  simp only [not_true_eq_false, false_and, if_false, true_and, if_true]
  rw [if_neg (by omega)]
  congr 1
  omega
 ·rename_i hn
  have hp := pu_dec n.toNat (by omega)
  have hne := dec_ne n.toNat
  have hall := dec_all n.toNat
  generalize Lib.decDigits n.toNat = l at hp hne hall
  cases l with
  | nil => exact absurd rfl hne
  | cons c r =>
   have hc := hall c (by simp)
   have h45 : ¬ c.toNat = 45 := by have := hc.1; omega
   unfold Lib.atoiAll
   have h43' : ¬ c.toNat = 43 := by have := hc.1; omega
   simp only [h43', h45, or_self, if_false, Lib.parseMag, if_neg (List.cons_ne_nil c r), hp, not_false_eq_true, true_and, false_and]
   rw [if_neg (by omega)]
   congr 1
   omega
def scan : Nat → Bs → Nat → Nat × Nat
 | k + 1, b :: l, x => if digit b then ((scan k l (10 * x + (b.toNat - 48))).1, (scan k l (10 * x + (b.toNat - 48))).2 + 1) else (x, 0)
 | _, _, x => (x, 0)
end Go.Proofs.YtgpjgljgplngpaaGreatDoor.AM
namespace Go.Proofs.YtgpjgljgplngpaaGreatDoor.AM
open Go
theorem index_app {c : UInt8} {r : Bs} : ∀ {a : Bs}, c ∉ a → Lib.indexByte (a ++ c :: r) c = a.length
 | [], _ => by simp [Lib.indexByte]
 | b :: a, h => by
  simp at h
  have h1 : (b == c) = false := by simpa using fun e => h.1 e.symm
  rw [List.cons_append, Lib.indexByte, h1, index_app h.2]
  have h2 : ((a.length : Int) == -1) = false := by simp <;> omega
  rw [h2]
  simp
theorem index_lt {c : UInt8} : ∀ {l : Bs}, Lib.indexByte l c < l.length
 | [] => by simp [Lib.indexByte]
 | b :: l => by
  have := index_lt (c := c) (l := l)
  rw [Lib.indexByte]
  split
  ·simp <;> omega
  ·split
   ·simp <;> omega
   ·simp <;> omega
def cutB (l : Bs) (c : UInt8) : Bs × Bs × Bool := if Lib.indexByte l c < 0 then (l, [], false) else (l.take (Lib.indexByte l c).toNat, l.drop ((Lib.indexByte l c).toNat + 1), true)
theorem cutB_app {a r : Bs} {c : UInt8} (h : c ∉ a) : cutB (a ++ c :: r) c = (a, r, true) := by
 rw [cutB, index_app h, if_neg (by omega), Int.toNat_natCast, List.take_left' rfl, ← List.drop_drop, List.drop_left' rfl]
 rfl
theorem cutB_len {l : Bs} {c : UInt8} : (cutB l c).1.length ≤ l.length ∧ (cutB l c).2.1.length ≤ l.length := by
 unfold cutB
 split
 ·exact ⟨Nat.le_refl _, Nat.zero_le _⟩
 ·simp only [List.length_take, List.length_drop]; omega
def itoa (n : Int) : Bs := Lib.itoa n
def lets : Bs := [108, 115, 114, 116, 112, 107]
def bitB (p : Int) (i : Nat) : Bool := decide (band (p.fdiv (2 ^ i)) 1 = 1)
def bior (a b : Int) : Int := bitop .or .i64 a b
def permT (p : Int) : Nat → Bs
 | 0 => []
 | i + 1 => permT p i ++ if bitB p i = true then [lets.getD i 0] else []
def lockT (n : Int) : Bs := if n = 0 then [] else 35 :: itoa n
def keyB (k : Key) : Bs := 91 :: (itoa k.base ++ 44 :: (itoa k.top ++ 41 :: (permT k.perms 6 ++ lockT k.lock)))
def keyT (k : Key) : Bs := if keyOk k = true then keyB k else []
def wordT (w : Word) : Bs := if wordOk w = true then (if w.is = true then itoa w.n ++ 32 :: keyT w.key else itoa w.n) else []
def atoV (l : Bs) : Int × Bool := match Lib.atoiAll l with
 | .ok v => (v, true)
 | Lib.NumEnd.syntax => (0, false)
 | .range => (Lib.atoiSat l, false)
theorem atoV_itoa {n : Int} (h : -1000000000000000000 < n ∧ n < 1000000000000000000) : atoV (itoa n) = (n, true) := by rw [atoV, itoa, atoi_itoa h]
def permI (ls : Bs) : Nat → Int
 | 0 => 0
 | i + 1 => if 0 ≤ Lib.indexByte ls (lets.getD i 0) then bior (permI ls i) (2 ^ i) else permI ls i
structure KI where
 a : Bs × Bs × Bool
 b : Bs × Bs × Bool
 c : Bs × Bs × Bool
 d : Bs
def kiOf (s : Bs) : KI :=
 ⟨cutB (Lib.trimPrefix s [91]) 44, cutB (cutB (Lib.trimPrefix s [91]) 44).2.1 41, cutB (cutB (cutB (Lib.trimPrefix s [91]) 44).2.1 41).2.1 35,
  if (cutB (cutB (cutB (Lib.trimPrefix s [91]) 44).2.1 41).2.1 35).2.2 = true then (cutB (cutB (cutB (Lib.trimPrefix s [91]) 44).2.1 41).2.1 35).2.1 else [48]⟩
def keyI (s : Bs) : Key := ⟨(atoV (kiOf s).a.1).1, (atoV (kiOf s).b.1).1, permI (kiOf s).c.1 6, (atoV (kiOf s).d).1⟩
def okI (s : Bs) : Bool := (kiOf s).a.2.2 && (kiOf s).b.2.2 && (atoV (kiOf s).a.1).2 && (atoV (kiOf s).b.1).2 && (atoV (kiOf s).d).2
def keyRead (s : Bs) : Key × Bool := if okI s = true ∧ keyOk (keyI s) = true ∧ keyT (keyI s) = s then (keyI s, true) else (noKey, false)
def numA (s : Bs) (a : Nat) : Nat × Nat := ((scan 4 (s.drop a) 0).1, a + (scan 4 (s.drop a) 0).2)
def orL (b : UInt8) : Nat → Int → Int
 | 0, p => p
 | i + 1, p => if b = lets.getD i 0 then bior (orL b i p) (2 ^ i) else orL b i p
def tailS : Bs → Int → Int × Int
 | [], p => (p, 0)
 | b :: r, p => if b = 35 then (p, ((scan 4 r 0).1 : Nat)) else tailS r (orL b 6 p)
def keyS (s : Bs) : Key := ⟨(numA s 1).1, (numA s ((numA s 1).2 + 1)).1, (tailS (s.drop ((numA s ((numA s 1).2 + 1)).2 + 1)) 0).1, (tailS (s.drop ((numA s ((numA s 1).2 + 1)).2 + 1)) 0).2⟩
theorem itoa_nat {n : Int} (h : 0 ≤ n) : itoa n = Lib.decDigits n.toNat := by rw [itoa, Lib.itoa, if_neg (by omega)]
theorem key_parts {k : Key} (h : keyOk k = true) : (0 ≤ k.base ∧ k.base ≤ 4096) ∧ (0 ≤ k.top ∧ k.top ≤ 4096) ∧ (0 ≤ k.perms ∧ k.perms ≤ 63) ∧ (0 ≤ k.lock ∧ k.lock ≤ 7) := by
 simp only [keyOk, exact, Bool.and_eq_true, inR_iff] at h
 have := boundsOk_iff.1 h.1.1.1.1
 exact ⟨by omega, by omega, h.1.2, h.2⟩
end Go.Proofs.YtgpjgljgplngpaaGreatDoor.AM
namespace Go.Proofs.YtgpjgljgplngpaaGreatDoor.AM
open Go
section
variable {P : Program} {F : Nat → Prop} {ι : Inj} {w : World} {f : FuncId} {v : AV} {args : List AV} {s t : ByteArray} {vs : List Value}
theorem sat_lib (hent : ∀ (as : Array Value) (w : World), (callFunc f as).run P w = .ok (.enter f as) w)
 (h : ∀ (F : Nat → Prop) (ι : Inj) (w : World) (cargs : Array Value), GR F w → VRL F ι w args cargs.toList → ∃ cv, VR F ι w v cv ∧ Calls P f cargs w (fun e w' => e = .returned cv ∧ Go.RowKit.Below w.heap.size w w')) : Sat P f args [] v [] := by
 refine ⟨hent, fun F ι w cargs hF hG _ _ _ ha => ?_⟩
 obtain ⟨cv, hv, hc⟩ := h F ι w cargs hG ha
 refine hc.mono ?_
 rintro e w' ⟨rfl, hb⟩
 exact ⟨cv, ι, rfl, hv, Nat.le_refl _, Inj.le_refl _, fun _ _ => rfl, fun id _ h2 => absurd h2 (by simp), fun id _ _ h2 => absurd h2 (by simp), fun id _ _ _ _ h2 => absurd h2 (by simp), fun id _ _ h1 => absurd h1 (by simp), fun _ _ _ => rfl, fun c hc _ => hb.block c hc, hb.os, hb.tape, hb.output, hb.size⟩
theorem vrl_str {cargs : Array Value} (h : VRL F ι w [.str s] cargs.toList) : cargs = #[.string s] := by
 obtain ⟨v, rest, h1, h2, h3⟩ := VRL_cons.1 h
 rw [VRL_nil] at h3
 simp only [VR] at h2
 subst h2 h3
 apply Array.ext'
 rw [h1]
theorem vrl_str2 {cargs : Array Value} (h : VRL F ι w [.str s, .str t] cargs.toList) : cargs = #[.string s, .string t] := by
 obtain ⟨v, rest, h1, h2, h3⟩ := VRL_cons.1 h
 obtain ⟨v', rest', h1', h2', h3'⟩ := VRL_cons.1 h3
 rw [VRL_nil] at h3'
 simp only [VR] at h2 h2'
 subst h2 h2' h3' h1'
 apply Array.ext'
 rw [h1]
theorem vrl_int {cargs : Array Value} {k : IntKind} {n : Int} (h : VRL F ι w [.int k n] cargs.toList) : cargs = #[.int k n] := by
 obtain ⟨v, rest, h1, h2, h3⟩ := VRL_cons.1 h
 rw [VRL_nil] at h3
 simp only [VR] at h2
 subst h2 h3
 apply Array.ext'
 rw [h1]
def errV (b : Bool) : AV := if b = true then .nilif else .someif
theorem errV_sh {mm : Nat → Nat} {b : Bool} : sh mm (errV b) = errV b := by cases b <;> rfl
theorem errV_bor {Hb : Heap} {inv : Nat → Option Nat} {n : Nat} {b : Bool} : bor Hb inv (n + 1) (errV b) = errV b := by cases b <;> rfl
theorem errV_noS {b : Bool} : noS (errV b) = true := by cases b <;> rfl
theorem errV_neq {t : TypeId} {b : Bool} (h : tIfc P t = true) : aBin P .neq t (errV b) .nilif = some (.bool (!b)) := by
 cases b <;> simp [errV, aBin, aEq, h]
theorem errV_gOk {x : Operand} {c : Value} {b : Bool} : gOk x (.const c) (errV b) .nilif = true := by cases b <;> simp [errV, gOk, isC]
theorem errV_cells {b : Bool} : (errV b).cells? = some [errV b] := by cases b <;> rfl
attribute [go_sem] errV_sh errV_bor errV_noS errV_neq errV_gOk errV_cells
end
end Go.Proofs.YtgpjgljgplngpaaGreatDoor.AM
namespace Go.Proofs.YtgpjgljgplngpaaGreatDoor.AM
open Go
theorem tmod_abs (n : Int) : (n.tmod 10).natAbs = n.natAbs % 10 := by
 rw [Int.natAbs_tmod]; rfl
theorem tdiv_abs (n : Int) : (n.tdiv 10).natAbs = n.natAbs / 10 := by
 rw [Int.natAbs_tdiv]; rfl
def digI (n : Int) : Int := if n.tmod 10 < 0 then 0 - n.tmod 10 else n.tmod 10
theorem digI_eq (n : Int) : digI n = ((n.natAbs % 10 : Nat) : Int) := by
 have := tmod_abs n
 unfold digI
 split <;> omega
theorem digI_step {n : Int} {out : Bs} {x : Bs} (h : n ≠ 0) (hd : decP n.natAbs ++ out = x) : decP (n.tdiv 10).natAbs ++ (UInt8.ofNat (48 + n.natAbs % 10) :: out) = x := by
 have h0 : n.natAbs ≠ 0 := by omega
 rw [tdiv_abs, ← hd, ← decP_step h0, List.append_assoc]
 rfl
theorem itoa_pos {n : Int} (h : 0 < n) {x : Bs} (hx : decP n.natAbs = x) : itoa n = x := by
 rw [itoa, Lib.itoa, if_neg (by omega), ← hx, decP_pos (by omega)]
 congr 1
 omega
theorem itoa_neg {n : Int} (h : n < 0) {x : Bs} (hx : decP n.natAbs = x) : itoa n = 45 :: x := by
 rw [itoa, Lib.itoa, if_pos h, ← hx, decP_pos (by omega)]
theorem itoa_zero : itoa 0 = [48] := by rw [itoa, Lib.itoa, if_neg (by omega), show (0 : Int).toNat = 0 from rfl, Lib.decDigits_one (by omega)]; rfl
theorem dec_len20 {u : Nat} (h : u < 100000000000000000000) : (Lib.decDigits u).length ≤ 20 := by
 rw [Lib.decDigits_length]
 by_cases g : Lib.nDigits u ≤ 20
 ·exact g
 ·exfalso
  have key : ∀ (k u : Nat), u < 10 ^ (k + 1) → Lib.nDigits u ≤ k + 1 := by
   intro k
   induction k with
   | zero => intro u hu; rw [Lib.nDigits_small (by simpa using hu)]; omega
   | succ k ih =>
    intro u hu
    by_cases h10 : u < 10
    ·rw [Lib.nDigits_small h10]; omega
    ·rw [Lib.nDigits_big h10]
     have := ih (u / 10) (by rw [Nat.pow_succ] at hu; omega)
     omega
  have := key 19 u (by simpa using h)
  omega
theorem digI_range (n : Int) : 0 ≤ digI n ∧ digI n ≤ 9 := by rw [digI_eq]; omega
theorem dig_facts {m : Int} (h : -9223372036854775808 ≤ m ∧ m ≤ 9223372036854775807) : IntKind.i64.wrap (48 + digI m) = 48 + digI m ∧ IntKind.u8.wrap (48 + digI m) = 48 + digI m ∧ IntKind.i64.wrap (m.tdiv 10) = m.tdiv 10 ∧ IntKind.i64.wrap (0 - m.tmod 10) = 0 - m.tmod 10 := by
 have := digI_range m
 have h1 := tdiv_abs m
 have h2 := tmod_abs m
 refine ⟨wrap64 (by omega), ?_, wrap64 (by omega), wrap64 (by omega)⟩
 generalize digI m = d at this ⊢
 show (48 + d).emod 256 = 48 + d
 exact Int.emod_eq_of_lt (by omega) (by omega)
theorem dig_step {m a : Int} {o : Bs} (h : ¬ m = 0) (i : decP m.natAbs ++ o = decP a.natAbs) : decP (m.tdiv 10).natAbs ++ ([UInt8.ofNat (48 + digI m).toNat] ++ o) = decP a.natAbs := by
 rw [digI_eq, show (48 + ((m.natAbs % 10 : Nat) : Int)).toNat = 48 + m.natAbs % 10 by omega]
 exact digI_step h i
theorem dig_end {m a : Int} {o : Bs} (h : m = 0) (i : decP m.natAbs ++ o = decP a.natAbs) : o = decP a.natAbs := by
 rw [← i, h]
 rfl
theorem decP_len {a : Int} (h : -9223372036854775808 ≤ a ∧ a ≤ 9223372036854775807) : (decP a.natAbs).length ≤ 20 := by
 unfold decP
 split
 ·exact Nat.zero_le _
 ·exact dec_len20 (by omega)
theorem itoa_len {n : Int} (h : -9223372036854775808 ≤ n ∧ n ≤ 9223372036854775807) : (itoa n).length ≤ 21 := by
 unfold itoa Lib.itoa
 split
 ·have := dec_len20 (u := n.natAbs) (by omega)
  simp; omega
 ·have := dec_len20 (u := n.toNat) (by omega)
  omega
theorem mk_bt (l : List UInt8) : (⟨l.toArray⟩ : ByteArray) = bt l := (rfl)
def lenOk (a b : Bs) : Bool := decide (a.length + b.length ≤ 1099511627776)
theorem bt_fits {a b : Bs} (h : lenOk a b = true) : ((((bt a).size + (bt b).size : Nat) : Int) ≤ 9223372036854775807) = True := by
 have := of_decide_eq_true h
 rw [bt_size, bt_size]
 exact eq_true (by omega)
theorem lenOk_of {a b : Bs} (h : a.length + b.length ≤ 1099511627776) : lenOk a b = true := decide_eq_true h
theorem dig_fits {m a : Int} {o : Bs} (h : ¬ m = 0) (i : decP m.natAbs ++ o = decP a.natAbs) (ha : -9223372036854775808 ≤ a ∧ a ≤ 9223372036854775807) : lenOk [UInt8.ofNat (48 + digI m).toNat] o = true := by
 have h1 := decP_len ha
 have h2 := congrArg List.length i
 rw [List.length_append] at h2
 exact lenOk_of (by simp only [List.length_cons, List.length_nil]; omega)
theorem bytes_one {n : Int} : bytesOf? [.int .u8 n] = some [UInt8.ofNat n.toNat] := (rfl)
theorem bt_ext {l : Bs} {a b : Nat} : (bt l).extract a b = bt ((l.take b).drop a) := by
 apply ByteArray.ext
 apply Array.ext'
 simp [bt, ByteArray.data_extract, List.drop_take]
theorem bt_bat {l : Bs} {i : Nat} : bat (bt l) i = ((l.getD i 0).toNat : Int) := by
 unfold bat
 rw [bt_data]
theorem drop_at {l : Bs} {i : Nat} (h : i < l.length) : l.drop i = l.getD i 0 :: l.drop (i + 1) := by
 rw [List.drop_eq_getElem_cons h]
 simp [h]
theorem trim_len {l p : Bs} : (Lib.trimPrefix l p).length ≤ l.length := by
 unfold Lib.trimPrefix
 split
 ·simp only [List.length_drop]; omega
 ·exact Nat.le_refl _
theorem lets_row {i : Nat} (h : i < 6) : (List.drop i [AV.str (bt [108]), .str (bt [115]), .str (bt [114]), .str (bt [116]), .str (bt [112]), .str (bt [107])]).head? = some (.str (bt [lets.getD i 0])) := by
 match i, h with
 | 0, _ => rfl
 | 1, _ => rfl
 | 2, _ => rfl
 | 3, _ => rfl
 | 4, _ => rfl
 | 5, _ => rfl
theorem lets_cut {i : Nat} (h : i < 6) : (bt [108, 115, 114, 116, 112, 107]).extract i (i + 1) = bt [lets.getD i 0] := by
 match i, h with
 | 0, _ => decide +kernel
 | 1, _ => decide +kernel
 | 2, _ => decide +kernel
 | 3, _ => decide +kernel
 | 4, _ => decide +kernel
 | 5, _ => decide +kernel
theorem permT_len {p : Int} : ∀ i : Nat, (permT p i).length ≤ i
 | 0 => Nat.le_refl _
 | i + 1 => by
  have := permT_len (p := p) i
  rw [permT]
  split <;> simp <;> omega
theorem band_one (x : Int) : band x 1 = 0 ∨ band x 1 = 1 := by
 have : 0 ≤ band x 1 ∧ band x 1 ≤ 1 := by
  show 0 ≤ IntKind.i64.wrap (((BitVec.ofInt 64 x &&& BitVec.ofInt 64 1).toNat : Nat) : Int) ∧ IntKind.i64.wrap (((BitVec.ofInt 64 x &&& BitVec.ofInt 64 1).toNat : Nat) : Int) ≤ 1
  have hm : (BitVec.ofInt 64 1).toNat = 1 := by rfl
  have h1 : (BitVec.ofInt 64 x &&& BitVec.ofInt 64 1).toNat ≤ 1 := by rw [BitVec.toNat_and, hm]; exact Nat.and_le_right
  rw [wrap64 (by omega)]
  omega
 omega
theorem permT_on {p : Int} {i : Nat} (h : bitop .and .i64 (p.fdiv (2 ^ i)) 1 = 1) : permT p (i + 1) = permT p i ++ [lets.getD i 0] := by
 rw [permT, if_pos (show bitB p i = true from decide_eq_true h)]
theorem permT_off {p : Int} {i : Nat} (h : bitop .and .i64 (p.fdiv (2 ^ i)) 1 = 0) : permT p (i + 1) = permT p i := by
 rw [permT, if_neg, List.append_nil]
 have : bitB p i = false := decide_eq_false (by show ¬ bitop .and .i64 (p.fdiv (2 ^ i)) 1 = 1; omega)
 rw [this]
 exact Bool.noConfusion
theorem keyB_len {k : Key} (h : keyOk k = true) : (keyB k).length ≤ 80 := by
 have hp := key_parts h
 have h1 := itoa_len (n := k.base) (by omega)
 have h2 := itoa_len (n := k.top) (by omega)
 have h3 := permT_len (p := k.perms) 6
 have h4 : (lockT k.lock).length ≤ 22 := by
  unfold lockT
  split
  ·simp
  ·have := itoa_len (n := k.lock) (by omega)
   simp; omega
 simp only [keyB, List.length_cons, List.length_append]
 omega
theorem keyT_len {k : Key} : (keyT k).length ≤ 80 := by
 unfold keyT
 split
 ·exact keyB_len (by assumption)
 ·exact Nat.zero_le _
def strsV (xs : List Bs) : List AV := xs.map fun x => .str (bt x)
theorem strsV_nil : strsV [] = [] := (rfl)
theorem strsV_cons {x : Bs} {xs : List Bs} : strsV (x :: xs) = .str (bt x) :: strsV xs := (rfl)
theorem strsV_len {xs : List Bs} : (strsV xs).length = xs.length := List.length_map ..
theorem bor_strsV {Hb : Heap} {inv : Nat → Option Nat} {n : Nat} : ∀ {xs : List Bs}, (strsV xs).map (bor Hb inv (n + 1)) = strsV xs
 | [] => rfl
 | x :: xs => by rw [strsV_cons, List.map_cons, bor_strsV (xs := xs)]; rfl
theorem sh_strsV {mm : Nat → Nat} : ∀ {xs : List Bs}, shL mm (strsV xs) = strsV xs
 | [] => rfl
 | x :: xs => by rw [strsV_cons, shL, sh_strsV (xs := xs)]; rfl
theorem noS_strsV : ∀ {xs : List Bs}, noSL (strsV xs) = true
 | [] => rfl
 | x :: xs => by rw [strsV_cons, noSL, noS_strsV (xs := xs)]; rfl
attribute [go_sem] bor_strsV sh_strsV noS_strsV
theorem strs_mem {xs : List Bs} {i : Nat} (h : i < xs.length) : xs.getD i [] ∈ xs := by
 rw [List.getD_eq_getElem?_getD, List.getElem?_eq_getElem h]
 exact List.getElem_mem h
theorem strsV_at {xs : List Bs} {n : Nat} (h : n < xs.length) : (List.drop n (strsV xs)).head? = some (.str (bt (xs.getD n []))) := by
 rw [List.head?_drop, strsV, List.getElem?_map, List.getElem?_eq_getElem h]
 simp [h]
end Go.Proofs.YtgpjgljgplngpaaGreatDoor.AM
namespace Go.Proofs.YtgpjgljgplngpaaGreatDoor.AM
open Go
def namesT : List Bs := [[], [115, 101, 116], [97, 100, 100], [109, 111, 118, 101], [119, 101, 97, 107], [98, 111, 117, 110, 100], [112, 111, 105, 110, 116], [115, 101, 97, 108], [111, 112, 101, 110], [105, 115], [108, 111, 97, 100], [115, 116, 111, 114, 101], [106, 117, 109, 112], [122, 101, 114, 111], [103, 111, 110, 101], [104, 97, 108, 116]]
def nameT (op : Int) : Bs := namesT.getD op.toNat []
def partT (x : Ins) (p : UInt8) : Bs := if p = 78 then itoa (partI x (p.toNat : Int)) else 114 :: itoa (partI x (p.toNat : Int))
def partsT (x : Ins) (l : List UInt8) : Bs := (l.map fun p => 32 :: partT x p).flatten
def insB (x : Ins) : Bs := nameT x.op ++ partsT x (formL x.op)
def insT (x : Ins) : Bs := if insOk x = true then insB x else []
def splitB (c : UInt8) : Bs → List Bs
 | [] => [[]]
 | b :: l => if b = c then [] :: splitB c l else match splitB c l with
  | [] => [[b]]
  | w :: ws => (b :: w) :: ws
theorem splitB_ne {c : UInt8} : ∀ {l : Bs}, splitB c l ≠ []
 | [] => by simp [splitB]
 | b :: l => by
  rw [splitB]
  split
  ·simp
  ·split <;> simp
theorem splitB_one {c : UInt8} : ∀ {a : Bs}, c ∉ a → splitB c a = [a]
 | [], _ => rfl
 | b :: a, h => by
  simp at h
  rw [splitB, if_neg (fun e => h.1 e.symm), splitB_one h.2]
theorem splitB_app {c : UInt8} {r : Bs} : ∀ {a : Bs}, c ∉ a → splitB c (a ++ c :: r) = a :: splitB c r
 | [], _ => by rw [List.nil_append, splitB, if_pos rfl]
 | b :: a, h => by
  simp at h
  rw [List.cons_append, splitB, if_neg (fun e => h.1 e.symm), splitB_app h.2]
theorem splitB_parts {c : UInt8} : ∀ (ws : List Bs) {a : Bs}, c ∉ a → (∀ w, w ∈ ws → c ∉ w) → splitB c (a ++ (ws.map fun w => c :: w).flatten) = a :: ws
 | [], a, h, _ => by simp [splitB_one h]
 | w :: ws, a, h, hw => by
  rw [List.map_cons, List.flatten_cons, List.cons_append, splitB_app h, splitB_parts ws (hw w (by simp)) fun v hv => hw v (by simp [hv])]
def idxT (ws : List Bs) (w : Bs) (i : Nat) : Int := match ws with
 | [] => -1
 | v :: vs => if v = w then (i : Int) else idxT vs w (i + 1)
def withP (x : Ins) (p : UInt8) (n : Int) : Ins :=
 if p = 82 then ⟨x.op, n, x.a, x.b, x.n⟩ else if p = 65 then ⟨x.op, x.r, n, x.b, x.n⟩ else if p = 66 then ⟨x.op, x.r, x.a, n, x.n⟩ else if p = 78 then ⟨x.op, x.r, x.a, x.b, n⟩ else x
def fillI : List UInt8 → List Bs → Ins → Option Ins
 | p :: ps, w :: ws, x => if (atoV (Lib.trimPrefix w [114])).2 = true then fillI ps ws (withP x p (atoV (Lib.trimPrefix w [114])).1) else none
 | _, _, x => some x
def wordsI (l : Bs) : List Bs := splitB 32 l
def opI (l : Bs) : Int := idxT namesT ((wordsI l).getD 0 []) 0
def insRead (l : Bs) : Ins × Bool :=
 if inR (opI l) 1 15 = true ∧ (wordsI l).length = (formL (opI l)).length + 1 then match fillI (formL (opI l)) ((wordsI l).drop 1) ⟨opI l, 0, 0, 0, 0⟩ with
  | some x => if insT x = l then (x, true) else (noIns, false)
  | none => (noIns, false)
 else (noIns, false)
theorem itoa_chars {n : Int} {c : UInt8} (hc : ¬ digit c) (h45 : c ≠ 45) : c ∉ itoa n := by
 unfold itoa Lib.itoa
 split
 ·intro h
  rcases List.mem_cons.1 h with h | h
  ·exact h45 h
  ·exact hc (dec_all _ c h)
 ·exact fun h => hc (dec_all _ c h)
theorem itoa_ne {n : Int} : itoa n ≠ [] := by
 unfold itoa Lib.itoa
 split
 ·simp
 ·exact dec_ne _
theorem trim_part {x : Ins} {p : UInt8} : Lib.trimPrefix (partT x p) [114] = itoa (partI x (p.toNat : Int)) := by
 unfold partT
 split
 ·rw [Lib.trimPrefix, if_neg]
  intro h
  rw [Lib.hasPrefix, List.isPrefixOf_iff_prefix] at h
  obtain ⟨t, ht⟩ := h
  exact itoa_chars (n := partI x (p.toNat : Int)) (c := 114) (by decide) (by decide) (by rw [← ht]; simp)
 ·rw [Lib.trimPrefix, if_pos (by simp [Lib.hasPrefix])]
  rfl
theorem part_rng {x : Ins} (h : insOk x = true) (p : Int) : -128 ≤ partI x p ∧ partI x p ≤ 127 := by
 simp only [insOk, fieldOk, Bool.and_eq_true, inR_iff] at h
 unfold partI
 split
 ·omega
 ·split
  ·omega
  ·split <;> omega
theorem name_find {op : Int} (h : inR op 1 15 = true) : idxT namesT (nameT op) 0 = op ∧ 32 ∉ nameT op ∧ 10 ∉ nameT op ∧ nameT op ≠ [] := by
 rcases op_cases h with rfl | rfl | rfl | rfl | rfl | rfl | rfl | rfl | rfl | rfl | rfl | rfl | rfl | rfl | rfl <;> decide
theorem part_chars {x : Ins} {p c : UInt8} (hc : ¬ digit c) (h45 : c ≠ 45) (h114 : c ≠ 114) : c ∉ partT x p := by
 unfold partT
 split
 ·exact itoa_chars hc h45
 ·intro h
  rcases List.mem_cons.1 h with h | h
  ·exact h114 h
  ·exact itoa_chars hc h45 h
theorem insB_words {x : Ins} (h : insOk x = true) : wordsI (insB x) = nameT x.op :: (formL x.op).map (partT x) := by
 have ho : inR x.op 1 15 = true := by simp only [insOk, Bool.and_eq_true] at h; exact h.1.1.1.1.1
 have := splitB_parts (c := 32) ((formL x.op).map (partT x)) (name_find ho).2.1 (fun w hw => by
  obtain ⟨p, _, rfl⟩ := List.mem_map.1 hw
  exact part_chars (by decide) (by decide) (by decide))
 rw [List.map_map] at this
 exact this
theorem fill_parts {x : Ins} (h : insOk x = true) : ∀ (ps : List UInt8) {y : Ins}, fillI ps (ps.map (partT x)) y = some (ps.foldl (fun y p => withP y p (partI x (p.toNat : Int))) y)
 | [], _ => rfl
 | p :: ps, y => by
  have hr := part_rng h (p.toNat : Int)
  have hv := atoV_itoa (n := partI x (p.toNat : Int)) (by omega)
  rw [List.map_cons, fillI, trim_part, hv, if_pos rfl, fill_parts h ps]
  rfl
theorem fold_parts {x : Ins} (h : insOk x = true) : (formL x.op).foldl (fun y p => withP y p (partI x (p.toNat : Int))) ⟨x.op, 0, 0, 0, 0⟩ = x := by
 have ho : inR x.op 1 15 = true := by simp only [insOk, Bool.and_eq_true] at h; exact h.1.1.1.1.1
 simp only [insOk, fieldOk, Bool.and_eq_true, Bool.or_eq_true, decide_eq_true_eq] at h
 obtain ⟨⟨⟨⟨⟨_, _, hr⟩, _, ha⟩, _, hb⟩, _⟩, hn⟩ := h
 obtain ⟨op, r, a, b, n⟩ := x
 simp only at ho hr ha hb hn ⊢
 rcases op_cases ho with rfl | rfl | rfl | rfl | rfl | rfl | rfl | rfl | rfl | rfl | rfl | rfl | rfl | rfl | rfl <;>
 ·(simp (decide := true) only [formL, List.foldl_cons, List.foldl_nil, withP, partI, if_true, if_false]) <;> first
   | rfl
   | (simp (decide := true) at hr ha hb hn <;> simp [*])
theorem insT_ok {x : Ins} {l : Bs} (h : insT x = l) (hl : l ≠ []) : insOk x = true ∧ insB x = l := by
 unfold insT at h
 split at h
 ·exact ⟨by assumption, h⟩
 ·exact absurd h.symm hl
theorem insB_ne {x : Ins} (h : insOk x = true) : insB x ≠ [] := by
 have ho : inR x.op 1 15 = true := by simp only [insOk, Bool.and_eq_true] at h; exact h.1.1.1.1.1
 intro g
 exact (name_find ho).2.2.2 (List.append_eq_nil_iff.1 g).1
theorem insB_ten {x : Ins} (h : insOk x = true) : 10 ∉ insB x := by
 have ho : inR x.op 1 15 = true := by simp only [insOk, Bool.and_eq_true] at h; exact h.1.1.1.1.1
 intro g
 rcases List.mem_append.1 g with g | g
 ·exact (name_find ho).2.2.1 g
 ·obtain ⟨v, hv, hw⟩ := List.mem_flatten.1 g
  obtain ⟨p, _, rfl⟩ := List.mem_map.1 hv
  rcases List.mem_cons.1 hw with hw | hw
  ·cases hw
  ·exact part_chars (by decide) (by decide) (by decide) hw
theorem insRead_back {x : Ins} (h : insOk x = true) : insRead (insB x) = (x, true) := by
 have ho : inR x.op 1 15 = true := by simp only [insOk, Bool.and_eq_true] at h; exact h.1.1.1.1.1
 have hw := insB_words h
 have hop : opI (insB x) = x.op := by
  unfold opI
  rw [hw]
  exact (name_find ho).1
 unfold insRead
 rw [hop, hw]
 rw [if_pos ⟨ho, by simp⟩]
 show (match fillI (formL x.op) ((formL x.op).map (partT x)) ⟨x.op, 0, 0, 0, 0⟩ with
  | some y => if insT y = insB x then (y, true) else (noIns, false)
  | none => (noIns, false)) = _
 rw [fill_parts h, fold_parts h]
 simp only [insT, h, if_true]
theorem insRead_is {l : Bs} (h : (insRead l).2 = true) : insOk (insRead l).1 = true ∧ insB (insRead l).1 = l := by
 unfold insRead at h ⊢
 split at h
 ·rename_i hc
  rw [if_pos hc]
  split at h
  ·rename_i x hx
   split at h
   ·rename_i e
    rw [if_pos e]
    by_cases hl : l = []
    ·exfalso
     subst hl
     have : opI [] = 0 := by decide
     rw [this] at hc
     exact absurd hc.1 (by decide)
    ·exact insT_ok e hl
   ·cases h
  ·cases h
 ·cases h
def scan0 : Nat → Bs → Nat → Option Nat
 | k + 1, b :: l, x => if digit b then scan0 k l (10 * x + (b.toNat - 48)) else none
 | _, _, x => some x
def numL (s : Bs) : Int := match s with
 | [] => 0
 | b :: r => if b = 45 then (match scan0 3 r 0 with | some x => -(x : Int) | none => 0) else if b = 114 then (match scan0 3 r 0 with | some x => (x : Int) | none => 0) else (match scan0 3 (b :: r) 0 with | some x => (x : Int) | none => 0)
theorem scan0_digits : ∀ (ds : Bs) (k x : Nat), (∀ b, b ∈ ds → digit b) → ds.length ≤ k → scan0 k ds x = some (valD x ds)
 | [], k, x, _, _ => by cases k <;> rfl
 | d :: ds, k, x, hd, hk => by
  cases k with
  | zero => simp at hk
  | succ k =>
   rw [scan0, if_pos (hd d (by simp)), scan0_digits ds k _ (fun b hb => hd b (by simp [hb])) (by simpa using hk)]
   rfl
theorem dec_len3 {u : Nat} (h : u < 1000) : (Lib.decDigits u).length ≤ 3 := by
 rw [Lib.decDigits_length]
 by_cases a : u < 10
 ·rw [Lib.nDigits_small a]; omega
 ·by_cases b : u < 100
  ·rw [Lib.nDigits_unique 1 u (by omega) (by omega)]; omega
  ·rw [Lib.nDigits_unique 2 u (by omega) (by omega)]; omega
theorem numL_part {x : Ins} {p : UInt8} (h : insOk x = true) (hp : p = 82 ∨ p = 65 ∨ p = 66 ∨ p = 78) : numL (partT x p) = partI x (p.toNat : Int) := by
 have hr := part_rng h (p.toNat : Int)
 by_cases e : p = 78
 ·unfold partT
  rw [if_pos e]
  generalize partI x (p.toNat : Int) = n at hr
  unfold itoa Lib.itoa
  split
  ·rename_i hn
   rw [numL, if_pos rfl, scan0_digits _ 3 0 (dec_all _) (dec_len3 (by omega)), valD_dec]
   simp only
   omega
  ·rename_i hn
   have hne := dec_ne n.toNat
   have hall := dec_all n.toNat
   have hs := scan0_digits _ 3 0 hall (dec_len3 (by omega))
   rw [valD_dec] at hs
   generalize Lib.decDigits n.toNat = l at hne hall hs
   cases l with
   | nil => exact absurd rfl hne
   | cons c r =>
    have hc := hall c (by simp)
    rw [numL, if_neg (fun g => by rw [g] at hc; exact absurd hc (by decide)), if_neg (fun g => by rw [g] at hc; exact absurd hc (by decide)), hs]
    simp only
    omega
 ·have h8 : 0 ≤ partI x (p.toNat : Int) := by
   simp only [insOk, fieldOk, Bool.and_eq_true, inR_iff] at h
   rcases hp with rfl | rfl | rfl | rfl
   ·show 0 ≤ x.r; omega
   ·show 0 ≤ x.a; omega
   ·show 0 ≤ x.b; omega
   ·exact absurd rfl e
  unfold partT
  rw [if_neg e, numL, if_neg (by decide), if_pos rfl, itoa_nat h8, scan0_digits _ 3 0 (dec_all _) (dec_len3 (by omega)), valD_dec]
  simp only
  omega
def opN (w : Bs) : Nat → Int
 | 0 => 0
 | k + 1 => if namesT.getD (k + 1) [] = w then ((k + 1 : Nat) : Int) else opN w k
def numsS (h : Int) (ws : List Bs) : Nat → List Int × Nat
 | 0 => ([0, 0, 0, 0], 1)
 | k + 1 => if bitB h k = true ∧ (numsS h ws k).2 < ws.length then ((numsS h ws k).1.set k (numL (ws.getD (numsS h ws k).2 [])), (numsS h ws k).2 + 1) else numsS h ws k
def insS (l : Bs) : Ins :=
 ⟨opN ((wordsI l).getD 0 []) 15, (numsS (has (opN ((wordsI l).getD 0 []) 15)) (wordsI l) 4).1.getD 0 0, (numsS (has (opN ((wordsI l).getD 0 []) 15)) (wordsI l) 4).1.getD 1 0, (numsS (has (opN ((wordsI l).getD 0 []) 15)) (wordsI l) 4).1.getD 2 0, (numsS (has (opN ((wordsI l).getD 0 []) 15)) (wordsI l) 4).1.getD 3 0⟩
theorem name_opN {op : Int} (h : inR op 1 15 = true) : opN (nameT op) 15 = op := by
 rcases op_cases h with rfl | rfl | rfl | rfl | rfl | rfl | rfl | rfl | rfl | rfl | rfl | rfl | rfl | rfl | rfl <;> decide
theorem bit_form {op : Int} (h : inR op 1 15 = true) : bitB (has op) 0 = decide (82 ∈ formL op) ∧ bitB (has op) 1 = decide (65 ∈ formL op) ∧ bitB (has op) 2 = decide (66 ∈ formL op) ∧ bitB (has op) 3 = decide (78 ∈ formL op) := by
 rcases op_cases h with rfl | rfl | rfl | rfl | rfl | rfl | rfl | rfl | rfl | rfl | rfl | rfl | rfl | rfl | rfl <;> decide
theorem nums_of {x : Ins} (h : insOk x = true) : (numsS (has x.op) (nameT x.op :: (formL x.op).map (partT x)) 4).1 = [x.r, x.a, x.b, x.n] := by
 have ho : inR x.op 1 15 = true := by simp only [insOk, Bool.and_eq_true] at h; exact h.1.1.1.1.1
 have p1 : numL (partT x 82) = x.r := numL_part h (p := 82) (by simp)
 have p2 : numL (partT x 65) = x.a := numL_part h (p := 65) (by simp)
 have p3 : numL (partT x 66) = x.b := numL_part h (p := 66) (by simp)
 have p4 : numL (partT x 78) = x.n := numL_part h (p := 78) (by simp)
 have hbf := bit_form ho
 simp only [insOk, fieldOk, Bool.and_eq_true, Bool.or_eq_true, decide_eq_true_eq] at h
 obtain ⟨⟨⟨⟨⟨_, _, hr⟩, _, ha⟩, _, hb⟩, _⟩, hn⟩ := h
 generalize partT x = pt at *
 obtain ⟨op, r, a, b, n⟩ := x
 simp only at ho hr ha hb hn p1 p2 p3 p4 hbf ⊢
 generalize nameT op = nm
 obtain ⟨b0, b1, b2, b3⟩ := hbf
 simp only [numsS, b0, b1, b2, b3]
 clear b0 b1 b2 b3
 rcases op_cases ho with rfl | rfl | rfl | rfl | rfl | rfl | rfl | rfl | rfl | rfl | rfl | rfl | rfl | rfl | rfl <;>
 ·simp (decide := true) at hr ha hb hn
  simp (decide := true) [formL, p1, p2, p3, p4, *]
theorem insS_back {x : Ins} (h : insOk x = true) : insS (insB x) = x := by
 have ho : inR x.op 1 15 = true := by simp only [insOk, Bool.and_eq_true] at h; exact h.1.1.1.1.1
 unfold insS
 rw [insB_words h]
 show (⟨opN (nameT x.op) 15, _, _, _, _⟩ : Ins) = x
 simp only [List.getD_cons_zero]
 rw [name_opN ho, nums_of h]
 rfl
theorem insRead_eq {l : Bs} : insRead l = if l ≠ [] ∧ insT (insS l) = l then (insS l, true) else (noIns, false) := by
 by_cases h : (insRead l).2 = true
 ·obtain ⟨h1, h2⟩ := insRead_is h
  have hb := insS_back h1
  rw [h2] at hb
  have hne : l ≠ [] := by rw [← h2]; exact insB_ne h1
  have ht : insT (insS l) = l := by rw [hb, insT, if_pos h1, h2]
  rw [if_pos ⟨hne, ht⟩, hb]
  exact Prod.ext rfl h
 ·have hf : insRead l = (noIns, false) := by
   unfold insRead at h ⊢
   split
   ·rename_i hc
    rw [if_pos hc] at h
    split
    ·rename_i x hx
     try rw [hx] at h
     try simp only at h
     split at h
     ·exact absurd rfl h
     ·rename_i e
      rw [if_neg e]
    ·rfl
   ·rfl
  by_cases h2 : l ≠ [] ∧ insT (insS l) = l
  ·exfalso
   obtain ⟨hk, hB⟩ := insT_ok h2.2 h2.1
   have := insRead_back hk
   rw [hB] at this
   rw [this] at h
   exact h rfl
  ·rw [if_neg h2]; exact hf
end Go.Proofs.YtgpjgljgplngpaaGreatDoor.AM
namespace Go.Proofs.YtgpjgljgplngpaaGreatDoor.AM
open Go
def codeOk (l : List Ins) : Bool := inR l.length 1 48 && l.all insOk
def codeB (l : List Ins) : Bs := (l.map fun x => insT x ++ [10]).flatten
def codeT (l : List Ins) : Bs := if codeOk l = true then codeB l else []
def allIns (l : List Ins) : Prop := ∀ x, x ∈ l → insOk x = true
theorem codeOk_iff {l : List Ins} : codeOk l = true ↔ (1 ≤ l.length ∧ l.length ≤ 48) ∧ allIns l := by
 simp only [codeOk, Bool.and_eq_true, inR_iff, List.all_eq_true]
 constructor
 ·rintro ⟨a, b⟩; exact ⟨by omega, b⟩
 ·rintro ⟨a, b⟩; exact ⟨by omega, b⟩
theorem codeB_cons {x : Ins} {l : List Ins} (h : insOk x = true) : codeB (x :: l) = insB x ++ 10 :: codeB l := by
 rw [codeB, List.map_cons, List.flatten_cons, insT, if_pos h, List.append_assoc]
 rfl
def codeGo : Nat → Bs → List Ins → Option (List Ins)
 | _, [], out => some out
 | 0, _ :: _, _ => none
 | n + 1, b :: rest, out => if (cutB (b :: rest) 10).2.2 = false ∨ (insRead (cutB (b :: rest) 10).1).2 = false ∨ out.length = 48 then none else codeGo n (cutB (b :: rest) 10).2.1 (out ++ [(insRead (cutB (b :: rest) 10).1).1])
def codeRead (s : Bs) : List Ins × Bool := match codeGo s.length s [] with
 | some out => (out, decide (0 < out.length))
 | none => ([], false)
def codeSG : Bs → Bs → List Ins → Option (List Ins)
 | [], _, out => some out
 | b :: r, cur, out => if b = 10 then (if (insRead cur).2 = true then codeSG r [] (out ++ [(insRead cur).1]) else none) else codeSG r (cur ++ [b]) out
theorem cut_is {l : Bs} {c : UInt8} (h : (cutB l c).2.2 = true) : c ∉ (cutB l c).1 ∧ l = (cutB l c).1 ++ c :: (cutB l c).2.1 := by
 have gen : ∀ l : Bs, ¬ Lib.indexByte l c < 0 → c ∉ l.take (Lib.indexByte l c).toNat ∧ l = l.take (Lib.indexByte l c).toNat ++ c :: l.drop ((Lib.indexByte l c).toNat + 1) := by
  intro l
  induction l with
  | nil => intro h; exact absurd (show (-1 : Int) < 0 by decide) h
  | cons b l ih =>
   intro h
   rw [Lib.indexByte] at h ⊢
   by_cases e : (b == c) = true
   ·rw [if_pos e]
    have : b = c := by simpa using e
    simp [this]
   ·rw [if_neg e] at h ⊢
    by_cases e2 : (Lib.indexByte l c == -1) = true
    ·rw [if_pos e2] at h; exact absurd (by decide) h
    ·rw [if_neg e2] at h ⊢
     have hge := Lib.indexByte_ge l c
     have h1 : ¬ Lib.indexByte l c < 0 := by
      have : Lib.indexByte l c ≠ -1 := by simpa using e2
      omega
     obtain ⟨i1, i2⟩ := ih h1
     have ht : (Lib.indexByte l c + 1).toNat = (Lib.indexByte l c).toNat + 1 := by omega
     rw [ht, List.take_succ_cons, List.drop_succ_cons]
     refine ⟨?_, ?_⟩
     ·intro g
      rcases List.mem_cons.1 g with g | g
      ·exact e (by simp [g])
      ·exact i1 g
     ·conv => lhs; rw [i2]
      rfl
 unfold cutB at h ⊢
 split at h
 ·cases h
 ·rename_i h1
  rw [if_neg h1]
  exact gen l h1
theorem go_back : ∀ (l : List Ins) {n : Nat} {out : List Ins}, allIns l → out.length + l.length ≤ 48 → (codeB l).length ≤ n → codeGo n (codeB l) out = some (out ++ l)
 | [], n, out, _, _, _ => by
  show codeGo n [] out = _
  rw [codeGo.eq_def]
  simp
 | x :: l, n, out, ha, hl, hn => by
  have hx := ha x (by simp)
  have hne := insB_ne hx
  rw [codeB_cons hx] at hn ⊢
  have hc : cutB (insB x ++ 10 :: codeB l) 10 = (insB x, codeB l, true) := cutB_app (insB_ten hx)
  cases hq : insB x ++ 10 :: codeB l with
  | nil => simp at hq
  | cons b rest =>
   rw [hq] at hn hc
   cases n with
   | zero => simp at hn
   | succ n =>
    have hlen : (codeB l).length ≤ n := by
     have := congrArg List.length hq
     simp at this hn
     omega
    rw [codeGo, hc]
    simp only
    rw [insRead_back hx, if_neg (by rintro (g | g | g); cases g; cases g; simp at hl; omega)]
    rw [go_back l (fun y hy => ha y (by simp [hy])) (by simp at hl ⊢; omega) hlen]
    simp
theorem go_is : ∀ (n : Nat) {r : Bs} {out o : List Ins}, codeGo n r out = some o → out.length ≤ 48 → ∃ l, o = out ++ l ∧ allIns l ∧ codeB l = r ∧ out.length + l.length ≤ 48
 | n, [], out, o, h, hl => by
  have : codeGo n [] out = some out := by cases n <;> rfl
  rw [this] at h
  obtain rfl := Option.some.inj h
  exact ⟨[], by simp, fun x hx => (by cases hx), rfl, by simpa using hl⟩
 | 0, b :: r, out, o, h, _ => by cases h
 | n + 1, b :: r, out, o, h, hl => by
  rw [codeGo] at h
  split at h
  ·cases h
  ·rename_i hc
   have h1 : (cutB (b :: r) 10).2.2 = true := by
    cases hq : (cutB (b :: r) 10).2.2 with
    | true => rfl
    | false => exact absurd (Or.inl hq) hc
   have h2 : (insRead (cutB (b :: r) 10).1).2 = true := by
    cases hq : (insRead (cutB (b :: r) 10).1).2 with
    | true => rfl
    | false => exact absurd (Or.inr (Or.inl hq)) hc
   have h3 : out.length ≠ 48 := fun g => hc (Or.inr (Or.inr g))
   obtain ⟨l, g1, g2, g3, g4⟩ := go_is n h (by simp; omega)
   obtain ⟨k1, k2⟩ := insRead_is h2
   obtain ⟨c1, c2⟩ := cut_is h1
   refine ⟨(insRead (cutB (b :: r) 10).1).1 :: l, by rw [g1]; simp, fun x hx => ?_, ?_, by simp at g4 ⊢; omega⟩
   ·rcases List.mem_cons.1 hx with rfl | hx
    ·exact k1
    ·exact g2 x hx
   ·rw [codeB_cons k1, k2, g3, ← c2]
theorem codeRead_back {l : List Ins} (h : codeOk l = true) : codeRead (codeB l) = (l, true) := by
 have hk := codeOk_iff.1 h
 rw [codeRead, go_back l hk.2 (by simp; omega) (Nat.le_refl _)]
 simp
 omega
theorem codeRead_is {s : Bs} (h : (codeRead s).2 = true) : codeOk (codeRead s).1 = true ∧ codeB (codeRead s).1 = s := by
 unfold codeRead at h ⊢
 split at h
 ·rename_i o ho
  obtain ⟨l, g1, g2, g3, g4⟩ := go_is _ ho (by simp)
  simp only [List.nil_append] at g1
  subst g1
  simp only [decide_eq_true_eq] at h
  exact ⟨codeOk_iff.2 ⟨⟨h, by simpa using g4⟩, g2⟩, g3⟩
 ·cases h
theorem sg_line : ∀ (a : Bs) {cur r : Bs} {out : List Ins}, 10 ∉ a → codeSG (a ++ 10 :: r) cur out = if (insRead (cur ++ a)).2 = true then codeSG r [] (out ++ [(insRead (cur ++ a)).1]) else none
 | [], cur, r, out, _ => by rw [List.nil_append, codeSG, if_pos rfl, List.append_nil]
 | b :: a, cur, r, out, h => by
  simp at h
  rw [List.cons_append, codeSG, if_neg (fun e => h.1 e.symm), sg_line a h.2, List.append_assoc]
  rfl
theorem sg_back : ∀ (l : List Ins) {out : List Ins}, allIns l → codeSG (codeB l) [] out = some (out ++ l)
 | [], out, _ => by rw [show codeB [] = [] from rfl, codeSG, List.append_nil]
 | x :: l, out, h => by
  have hx := h x (by simp)
  rw [codeB_cons hx, sg_line _ (insB_ten hx), List.nil_append, insRead_back hx, if_pos rfl, sg_back l fun y hy => h y (by simp [hy])]
  simp
def codeReadS (s : Bs) : List Ins × Bool := match codeSG s [] [] with
 | some out => if s = [] ∨ codeT out ≠ s then ([], false) else (out, true)
 | none => ([], false)
theorem codeRead_fail {s : Bs} (h : (codeRead s).2 = false) : codeRead s = ([], false) := by
 unfold codeRead at h ⊢
 split
 ·rename_i o ho
  rw [ho] at h
  simp only [decide_eq_false_iff_not] at h
  have : o = [] := List.eq_nil_of_length_eq_zero (by omega)
  rw [this]
  rfl
 ·rfl
theorem codeRead_eq {s : Bs} : codeReadS s = codeRead s := by
 cases h : (codeRead s).2 with
 | true =>
  obtain ⟨h1, h2⟩ := codeRead_is h
  have h3 : s ≠ [] := by
   intro e
   rw [e] at h
   cases h
  have hs := sg_back (codeRead s).1 (out := []) (codeOk_iff.1 h1).2
  rw [h2, List.nil_append] at hs
  unfold codeReadS
  rw [hs]
  simp only
  rw [if_neg]
  ·exact Prod.ext rfl h.symm
  ·rintro (g | g)
   ·exact h3 g
   ·exact g (by rw [codeT, if_pos h1, h2])
 | false =>
  rw [codeRead_fail h]
  unfold codeReadS
  split
  ·rename_i o ho
   split
   ·rfl
   ·rename_i hc
    exfalso
    have hne : s ≠ [] := fun g => hc (Or.inl g)
    have ht : codeT o = s := Decidable.not_not.1 fun g => hc (Or.inr g)
    unfold codeT at ht
    split at ht
    ·rename_i hk
     have := codeRead_back hk
     rw [ht] at this
     rw [this] at h
     cases h
    ·exact hne ht.symm
  ·rfl
end Go.Proofs.YtgpjgljgplngpaaGreatDoor.AM
namespace Go.Proofs.YtgpjgljgplngpaaGreatDoor.AM
open Go
theorem idxT_at {xs : List Bs} {w : Bs} {i : Nat} (h : i < xs.length) : idxT (xs.drop i) w i = if xs.getD i [] = w then (i : Int) else idxT (xs.drop (i + 1)) w (i + 1) := by
 rw [List.drop_eq_getElem_cons h, idxT]
 simp [h]
theorem idxT_end {xs : List Bs} {w : Bs} {i : Nat} (h : xs.length ≤ i) : idxT (xs.drop i) w i = -1 := by
 rw [List.drop_of_length_le h]
 rfl
theorem cutB_at {l : Bs} {c : UInt8} {m : Nat} (h : Lib.indexByte l c = (m : Int)) : m < l.length ∧ c ∉ l.take m ∧ l = l.take m ++ c :: l.drop (m + 1) := by
 have hc : cutB l c = (l.take m, l.drop (m + 1), true) := by rw [cutB, if_neg (by omega), h]; rfl
 have := cut_is (l := l) (c := c) (by rw [hc])
 rw [hc] at this
 have hl := index_lt (c := c) (l := l)
 exact ⟨by omega, this.1, this.2⟩
theorem splitB_at {l : Bs} {c : UInt8} {m : Nat} (h : Lib.indexByte l c = (m : Int)) : splitB c l = l.take m :: splitB c (l.drop (m + 1)) := by
 obtain ⟨_, h1, h2⟩ := cutB_at h
 conv => lhs; rw [h2]
 exact splitB_app h1
theorem index_neg {l : Bs} {c : UInt8} (h : Lib.indexByte l c < 0) : c ∉ l := by
 intro hm
 have : ∀ l : Bs, c ∈ l → 0 ≤ Lib.indexByte l c := by
  intro l
  induction l with
  | nil => intro h; cases h
  | cons b l ih =>
   intro h
   rw [Lib.indexByte]
   split
   ·exact Int.le_refl _
   ·rename_i hb
    rcases List.mem_cons.1 h with rfl | h
    ·simp at hb
    ·have := ih h
     split
     ·rename_i e; simp at e; omega
     ·omega
 have := this l hm
 omega
theorem splitB_len {c : UInt8} : ∀ {l : Bs}, (splitB c l).length = l.count c + 1
 | [] => rfl
 | b :: l => by
  have ih := splitB_len (c := c) (l := l)
  rw [splitB, List.count_cons]
  split
  ·rename_i e
   simp [ih, e]
  ·rename_i e
   have hne := splitB_ne (c := c) (l := l)
   split
   ·rename_i h; exact absurd h hne
   ·rename_i w ws h
    rw [h] at ih
    simp [e] at ih ⊢
    omega
theorem split_last {c : UInt8} {l : Bs} (h : (splitB c l).length = 1) : splitB c l = [l] := by
 rw [splitB_len] at h
 exact splitB_one (List.count_eq_zero.1 (by omega))
theorem split_more {c : UInt8} {l : Bs} (h : 1 < (splitB c l).length) : 0 ≤ Lib.indexByte l c := by
 rcases Int.lt_or_le (Lib.indexByte l c) 0 with g | g
 ·rw [splitB_one (index_neg g)] at h
  simp at h
 ·exact g
theorem strsV_rep {n : Nat} : (List.replicate n [AV.str (bt [])]).flatten = strsV (List.replicate n []) := by
 induction n with
 | zero => rfl
 | succ n ih => rw [List.replicate_succ, List.flatten_cons, ih]; rfl
theorem strsV_app {xs ys : List Bs} : strsV (xs ++ ys) = strsV xs ++ strsV ys := List.map_append
theorem put_strs {D : List Bs} {n : Nat} {x : Bs} (h : 0 < n) : putAt (strsV (D ++ List.replicate n [])) D.length [.str (bt x)] = strsV ((D ++ [x]) ++ List.replicate (n - 1) []) := by
 obtain ⟨m, rfl⟩ : ∃ m, n = m + 1 := ⟨n - 1, by omega⟩
 rw [List.replicate_succ, Nat.add_sub_cancel]
 simp only [strsV_app, strsV_cons, strsV_nil, putAt]
 rw [← strsV_len (xs := D), List.take_left' rfl]
 simp
end Go.Proofs.YtgpjgljgplngpaaGreatDoor.AM
namespace Go.Proofs.YtgpjgljgplngpaaGreatDoor.AM
open Go
theorem ins_op {x : Ins} (h : insOk x = true) : inR x.op 1 15 = true := by simp only [insOk, Bool.and_eq_true] at h; exact h.1.1.1.1.1
theorem ins_op_rng {x : Ins} (h : insOk x = true) : 1 ≤ x.op ∧ x.op ≤ 15 := inR_iff.1 (ins_op h)
theorem names_at {op : Int} (h : 1 ≤ op ∧ op ≤ 15) : (List.drop op.toNat (strsV namesT)).head? = some (.str (bt (nameT op))) := strsV_at (xs := namesT) (by show op.toNat < 16; omega)
theorem names_len : (strsV namesT).length = 16 := by rw [strsV_len]; rfl
theorem name_len {op : Int} : (nameT op).length ≤ 5 := by
 unfold nameT
 have all : ∀ w, w ∈ namesT → w.length ≤ 5 := by decide
 rcases Nat.lt_or_ge op.toNat namesT.length with h | h
 ·exact all _ (strs_mem h)
 ·rw [List.getD_eq_getElem?_getD, List.getElem?_eq_none h]; exact Nat.zero_le _
def preT (p : UInt8) : Bs := if p = 78 then [] else [114]
theorem partT_pre {x : Ins} {p : UInt8} : partT x p = preT p ++ itoa (partI x (p.toNat : Int)) := by
 unfold partT preT
 split <;> rfl
theorem parts_step {x : Ins} {L : List UInt8} {i : Nat} (h : i < L.length) : partsT x (L.take i) ++ 32 :: (preT (L.getD i 0) ++ itoa (partI x ((L.getD i 0).toNat : Int))) = partsT x (L.take (i + 1)) := by
 have ht : L.take (i + 1) = L.take i ++ [L.getD i 0] := by rw [List.take_add_one]; simp [h]
 rw [ht, ← partT_pre]
 simp only [partsT, List.map_append, List.flatten_append, List.map_cons, List.map_nil, List.flatten_cons, List.flatten_nil, List.append_nil]
theorem itoa_part {x : Ins} (h : insOk x = true) (p : Int) : (itoa (partI x p)).length ≤ 21 := by
 have := part_rng h p
 exact itoa_len (by omega)
theorem parts_len {x : Ins} (h : insOk x = true) : ∀ (L : List UInt8), (partsT x L).length ≤ 23 * L.length
 | [] => Nat.zero_le _
 | p :: L => by
  have h1 := itoa_part h (p.toNat : Int)
  have h2 := parts_len h L
  have h3 : (partsT x (p :: L)).length = 1 + (partT x p).length + (partsT x L).length := by
   simp only [partsT, List.map_cons, List.flatten_cons, List.cons_append, List.length_cons, List.length_append]; omega
  have h4 : (preT p).length ≤ 1 := by unfold preT; split <;> simp
  rw [h3, partT_pre, List.length_append]
  simp only [List.length_cons]
  omega
theorem take_parts {x : Ins} (h : insOk x = true) {L : List UInt8} (hL : L.length ≤ 4) (i : Nat) : (partsT x (L.take i)).length ≤ 92 := by
 have := parts_len h (L.take i)
 have hl : (L.take i).length ≤ 4 := by rw [List.length_take]; omega
 omega
theorem byteCells_form {op : Int} : byteCells (form op) = bytesV (formL op) := (rfl)
def qT (h : Int) (k : Int) (pre : Bs) (n : Int) : Bs := if bitop .and .i64 h k = 0 then [] else pre ++ itoa n
theorem qT_len {h k n : Int} {pre : Bs} (hp : pre.length ≤ 2) (hn : (itoa n).length ≤ 21) : (qT h k pre n).length ≤ 23 := by
 unfold qT
 split
 ·exact Nat.zero_le _
 ·rw [List.length_append]; omega
theorem qs_all {x : Ins} (h : inR x.op 1 15 = true) : nameT x.op ++ (qT (has x.op) 1 [32, 114] x.r ++ (qT (has x.op) 2 [32, 114] x.a ++ (qT (has x.op) 4 [32, 114] x.b ++ qT (has x.op) 8 [32] x.n))) = insB x := by
 have bits : ∀ op : Int, inR op 1 15 = true → (bitop .and .i64 (has op) 1 = 0 ↔ ¬ 82 ∈ formL op) ∧ (bitop .and .i64 (has op) 2 = 0 ↔ ¬ 65 ∈ formL op) ∧ (bitop .and .i64 (has op) 4 = 0 ↔ ¬ 66 ∈ formL op) ∧ (bitop .and .i64 (has op) 8 = 0 ↔ ¬ 78 ∈ formL op) := by
  intro op ho
  rcases op_cases ho with rfl | rfl | rfl | rfl | rfl | rfl | rfl | rfl | rfl | rfl | rfl | rfl | rfl | rfl | rfl <;> decide
 obtain ⟨b1, b2, b3, b4⟩ := bits x.op h
 rw [insB]
 congr 1
 unfold qT
 simp only [b1, b2, b3, b4]
 clear b1 b2 b3 b4
 obtain ⟨op, r, a, b, n⟩ := x
 simp only at h ⊢
 rcases op_cases h with rfl | rfl | rfl | rfl | rfl | rfl | rfl | rfl | rfl | rfl | rfl | rfl | rfl | rfl | rfl <;>
 simp (decide := true) [formL, partsT, partT, partI]
theorem insT_len {x : Ins} : (insT x).length ≤ 97 := by
 unfold insT
 split
 ·rename_i h
  have h1 := parts_len h (formL x.op)
  have h2 := name_len (op := x.op)
  have h3 := formL_len (op := x.op)
  rw [insB, List.length_append]
  omega
 ·exact Nat.zero_le _
end Go.Proofs.YtgpjgljgplngpaaGreatDoor.AM
namespace Go.Proofs.YtgpjgljgplngpaaGreatDoor.AM
open Go
def startN (l : Bs) : Nat := if l ≠ [] ∧ ((l.getD 0 0).toNat = 45 ∨ (l.getD 0 0).toNat = 114) then 1 else 0
def signN (l : Bs) (x : Nat) : Int := if startN l = 1 ∧ (l.getD 0 0).toNat = 45 then -(x : Int) else x
theorem numL_is {l : Bs} : numL l = match scan0 3 (l.drop (startN l)) 0 with
 | some x => signN l x
 | none => 0 := by
 cases l with
 | nil => rfl
 | cons b r =>
  have e45 : b = 45 ↔ b.toNat = 45 := by rw [← UInt8.toNat_inj]; rfl
  have e114 : b = 114 ↔ b.toNat = 114 := by rw [← UInt8.toNat_inj]; rfl
  unfold numL startN signN
  by_cases h1 : b = 45
  ·have h1' := e45.1 h1
   simp [h1', h1, startN]
   try (cases scan0 3 r 0 <;> rfl)
  ·have h1' : ¬ b.toNat = 45 := fun e => h1 (e45.2 e)
   by_cases h2 : b = 114
   ·have h2' := e114.1 h2
    simp [h2, startN]
    try (cases scan0 3 r 0 <;> rfl)
   ·have h2' : ¬ b.toNat = 114 := fun e => h2 (e114.2 e)
    simp [h1, h2, h1', h2', startN]
    try (cases scan0 3 (b :: r) 0 <;> rfl)
theorem startN_le {l : Bs} : startN l ≤ 1 ∧ startN l ≤ l.length := by
 unfold startN
 split
 ·rename_i h
  have : 0 < l.length := List.length_pos_iff.2 h.1
  omega
 ·omega
theorem startN_pos {l : Bs} (h : startN l = 1) : 0 < l.length := by have := (startN_le (l := l)).2; omega
theorem scan0_end {l : Bs} {p k v : Nat} (h : k = 0 ∨ l.length ≤ p) : scan0 k (l.drop p) v = some v := by
 rcases h with rfl | h
 ·cases l.drop p <;> rfl
 ·rw [List.drop_of_length_le h]
  cases k <;> rfl
theorem scan0_no {l : Bs} {p k v : Nat} (h : p < l.length) (hd : (l.getD p 0).toNat < 48 ∨ 57 < (l.getD p 0).toNat) : scan0 (k + 1) (l.drop p) v = none := by
 rw [drop_at h, scan0, if_neg]
 unfold digit
 omega
theorem scan0_go {l : Bs} {p k v : Nat} (h : p < l.length) (hd : 48 ≤ (l.getD p 0).toNat) (he : (l.getD p 0).toNat ≤ 57) : scan0 (k + 1) (l.drop p) v = scan0 k (l.drop (p + 1)) (10 * v + ((l.getD p 0).toNat - 48)) := by
 rw [drop_at h, scan0, if_pos ⟨hd, he⟩]
theorem cut_word {l : Bs} {a i : Nat} (ha : a ≤ i) (hi : i ≤ l.length) : (l.take i).drop a ++ l.drop i = l.drop a := by
 have h1 : a ≤ (l.take i).length := by rw [List.length_take]; omega
 conv => rhs; rw [← List.take_append_drop i l]
 rw [List.drop_append_of_le_length h1]
theorem splitW_at {c : UInt8} {l : Bs} {a i : Nat} (ha : a ≤ i) (hi : i < l.length) (hn : c ∉ (l.take i).drop a) (hc : l.getD i 0 = c) : splitB c (l.drop a) = (l.take i).drop a :: splitB c (l.drop (i + 1)) := by
 rw [← cut_word ha (Nat.le_of_lt hi), drop_at hi, hc]
 exact splitB_app hn
theorem splitW_end {c : UInt8} {l : Bs} {a : Nat} (ha : a ≤ l.length) (hn : c ∉ (l.take l.length).drop a) : splitB c (l.drop a) = [(l.take l.length).drop a] := by
 rw [List.take_length] at hn ⊢
 exact splitB_one hn
theorem word_on {c : UInt8} {l : Bs} {a i : Nat} (ha : a ≤ i) (hi : i < l.length) (hn : c ∉ (l.take i).drop a) (hc : ¬ l.getD i 0 = c) : c ∉ (l.take (i + 1)).drop a := by
 have h1 : a ≤ (l.take i).length := by rw [List.length_take]; omega
 have ht : l.take (i + 1) = l.take i ++ [l.getD i 0] := by rw [List.take_add_one]; simp [hi]
 rw [ht, List.drop_append_of_le_length h1]
 simp only [List.mem_append, List.mem_singleton, not_or]
 exact ⟨hn, fun e => hc e.symm⟩
theorem numsS_len {h : Int} {ws : List Bs} : ∀ k, (numsS h ws k).1.length = 4 ∧ 1 ≤ (numsS h ws k).2 ∧ (numsS h ws k).2 ≤ k + 1
 | 0 => ⟨rfl, Nat.le_refl _, Nat.le_refl _⟩
 | k + 1 => by
  have := numsS_len (h := h) (ws := ws) k
  rw [numsS]
  split
  ·simp only [List.length_set]; omega
  ·omega
theorem numsS_yes {h : Int} {ws : List Bs} {k : Nat} (hb : ¬ bitop .and .i64 (h.fdiv (2 ^ k)) 1 = 0) (hj : (numsS h ws k).2 < ws.length) : numsS h ws (k + 1) = ((numsS h ws k).1.set k (numL (ws.getD (numsS h ws k).2 [])), (numsS h ws k).2 + 1) := by
 rw [numsS, if_pos ⟨decide_eq_true ((band_one (h.fdiv (2 ^ k))).resolve_left hb), hj⟩]
theorem numsS_no {h : Int} {ws : List Bs} {k : Nat} (hb : bitop .and .i64 (h.fdiv (2 ^ k)) 1 = 0 ∨ ws.length ≤ (numsS h ws k).2) : numsS h ws (k + 1) = numsS h ws k := by
 rw [numsS, if_neg]
 rintro ⟨h1, h2⟩
 rcases hb with hb | hb
 ·have : bitop .and .i64 (h.fdiv (2 ^ k)) 1 = 1 := of_decide_eq_true h1
  omega
 ·omega
theorem opN_yes {w : Bs} {k : Nat} (h : bt (namesT.getD (k + 1) []) = bt w) : opN w (k + 1) = ((k + 1 : Nat) : Int) := by rw [opN, if_pos (bt_inj.1 h)]
theorem opN_no {w : Bs} {k : Nat} (h : ¬ bt (namesT.getD (k + 1) []) = bt w) : opN w (k + 1) = opN w k := by rw [opN, if_neg (fun e => h (by rw [e]))]
theorem four_heads {xs : List Int} (h : xs.length = 4) : (ints xs).head? = some (.int .i64 (xs.getD 0 0)) ∧ (List.drop 1 (ints xs)).head? = some (.int .i64 (xs.getD 1 0)) ∧ (List.drop 2 (ints xs)).head? = some (.int .i64 (xs.getD 2 0)) ∧ (List.drop 3 (ints xs)).head? = some (.int .i64 (xs.getD 3 0)) := by
 match xs, h with
 | [a, b, c, d], _ => exact ⟨rfl, rfl, rfl, rfl⟩
theorem fillI_at {F : List UInt8} {ws : List Bs} {x : Ins} {i : Nat} (hf : i < F.length) (hw : i < ws.length) (hv : (atoV (Lib.trimPrefix (ws.getD i []) [114])).2 = true) : fillI (F.drop i) (ws.drop i) x = fillI (F.drop (i + 1)) (ws.drop (i + 1)) (withP x (F.getD i 0) (atoV (Lib.trimPrefix (ws.getD i []) [114])).1) := by
 rw [List.drop_eq_getElem_cons hf, List.drop_eq_getElem_cons hw, fillI]
 have e1 : F.getD i 0 = F[i] := by simp [hf]
 have e2 : ws.getD i [] = ws[i] := by simp [hw]
 rw [e2] at hv
 rw [if_pos hv, e1, e2]
theorem fillI_no {F : List UInt8} {ws : List Bs} {x : Ins} {i : Nat} (hf : i < F.length) (hw : i < ws.length) (hv : (atoV (Lib.trimPrefix (ws.getD i []) [114])).2 = false) : fillI (F.drop i) (ws.drop i) x = none := by
 rw [List.drop_eq_getElem_cons hf, List.drop_eq_getElem_cons hw, fillI]
 have e2 : ws.getD i [] = ws[i] := by simp [hw]
 rw [e2] at hv
 rw [if_neg (by rw [hv]; exact Bool.noConfusion)]
theorem fillI_end {F : List UInt8} {ws : List Bs} {x : Ins} {i : Nat} (hf : F.length ≤ i) : fillI (F.drop i) (ws.drop i) x = some x := by
 rw [List.drop_of_length_le hf]
 cases ws.drop i <;> rfl
theorem withP_is {x : Ins} {p : UInt8} {v : Int} : withP x p v = if (p.toNat : Int) = 82 then ⟨x.op, v, x.a, x.b, x.n⟩ else if (p.toNat : Int) = 65 then ⟨x.op, x.r, v, x.b, x.n⟩ else if (p.toNat : Int) = 66 then ⟨x.op, x.r, x.a, v, x.n⟩ else if (p.toNat : Int) = 78 then ⟨x.op, x.r, x.a, x.b, v⟩ else x := by
 have e : ∀ q : UInt8, (p = q) = ((p.toNat : Int) = (q.toNat : Int)) := fun q => propext ⟨fun h => by rw [h], fun h => UInt8.toNat_inj.1 (by omega)⟩
 unfold withP
 simp only [e]
 rfl
theorem withP_R {x : Ins} {p : UInt8} {v : Int} (h : (p.toNat : Int) = 82) : withP x p v = ⟨x.op, v, x.a, x.b, x.n⟩ := by rw [withP_is, if_pos h]
theorem withP_A {x : Ins} {p : UInt8} {v : Int} (h : (p.toNat : Int) = 65) : withP x p v = ⟨x.op, x.r, v, x.b, x.n⟩ := by rw [withP_is, if_neg (by omega), if_pos h]
theorem withP_B {x : Ins} {p : UInt8} {v : Int} (h : (p.toNat : Int) = 66) : withP x p v = ⟨x.op, x.r, x.a, v, x.n⟩ := by rw [withP_is, if_neg (by omega), if_neg (by omega), if_pos h]
theorem withP_N {x : Ins} {p : UInt8} {v : Int} (h : (p.toNat : Int) = 78) : withP x p v = ⟨x.op, x.r, x.a, x.b, v⟩ := by rw [withP_is, if_neg (by omega), if_neg (by omega), if_neg (by omega), if_pos h]
theorem withP_0 {x : Ins} {p : UInt8} {v : Int} (h1 : ¬ (p.toNat : Int) = 82) (h2 : ¬ (p.toNat : Int) = 65) (h3 : ¬ (p.toNat : Int) = 66) (h4 : ¬ (p.toNat : Int) = 78) : withP x p v = x := by rw [withP_is, if_neg h1, if_neg h2, if_neg h3, if_neg h4]
theorem strsV_take {D : List Bs} : (strsV D).take D.length = strsV D := by rw [← strsV_len (xs := D), List.take_length]
theorem byte32 {b : UInt8} : b.toNat = 32 ↔ b = 32 := by rw [← UInt8.toNat_inj]; rfl
def wIv (l : Bs) (D : List Bs) (a i : Nat) : Prop := (i ≤ l.length ∧ a ≤ i ∧ splitB 32 l = D ++ splitB 32 (l.drop a) ∧ 32 ∉ (l.take i).drop a) ∨ (i = l.length + 1 ∧ splitB 32 l = D)
theorem wIv_zero {l : Bs} : wIv l [] 0 0 := Or.inl ⟨Nat.zero_le _, Nat.le_refl _, rfl, by simp⟩
theorem wIv_get {l : Bs} {D : List Bs} {a i : Nat} (h : wIv l D a i) (hi : i ≤ l.length) : a ≤ i ∧ splitB 32 l = D ++ splitB 32 (l.drop a) ∧ 32 ∉ (l.take i).drop a := h.elim (fun h => h.2) (fun h => absurd h.1 (by omega))
theorem wIv_end {l : Bs} {D : List Bs} {a i : Nat} (h : wIv l D a i) (hi : ¬ i ≤ l.length) : splitB 32 l = D := h.elim (fun h => absurd h.1 hi) (fun h => h.2)
theorem wIv_cut {l : Bs} {D : List Bs} {a i : Nat} (h : wIv l D a i) (hi : i ≤ l.length) (c : i = l.length ∨ (l.getD i 0).toNat = 32) : wIv l (D ++ [(l.take i).drop a]) (i + 1) (i + 1) := by
 obtain ⟨h2, h3, h4⟩ := wIv_get h hi
 by_cases e : i = l.length
 ·refine Or.inr ⟨by omega, ?_⟩
  subst e
  rw [h3, splitW_end h2 h4]
 ·have hc := byte32.1 (c.resolve_left e)
  refine Or.inl ⟨by omega, Nat.le_refl _, ?_, ?_⟩
  ·rw [h3, splitW_at h2 (by omega) h4 hc, List.append_assoc]
   rfl
  ·rw [List.drop_of_length_le (by rw [List.length_take]; omega)]
   simp
theorem wIv_on {l : Bs} {D : List Bs} {a i : Nat} (h : wIv l D a i) (hi : i < l.length) (c : ¬ (l.getD i 0).toNat = 32) : wIv l D a (i + 1) := by
 obtain ⟨h2, h3, h4⟩ := wIv_get h (Nat.le_of_lt hi)
 exact Or.inl ⟨by omega, by omega, h3, word_on h2 hi h4 (fun e => c (byte32.2 e))⟩
theorem wIv_len {l : Bs} {D : List Bs} {a i : Nat} (h : wIv l D a i) : D.length ≤ l.length + 1 := by
 have h2 : l.count 32 ≤ l.length := List.count_le_length
 have h3 := splitB_len (c := 32) (l := l)
 rcases h with h | h
 ·have h1 := congrArg List.length h.2.2.1
  rw [List.length_append] at h1
  omega
 ·rw [← h.2]; omega
theorem splitB_sub {c : UInt8} : ∀ {l : Bs} {w : Bs}, w ∈ splitB c l → w.length ≤ l.length
 | [], w, h => by
  rw [splitB] at h
  obtain rfl := List.mem_singleton.1 h
  exact Nat.le_refl _
 | b :: l, w, h => by
  rw [splitB] at h
  split at h
  ·rcases List.mem_cons.1 h with rfl | h
   ·exact Nat.zero_le _
   ·exact Nat.le_succ_of_le (splitB_sub h)
  ·split at h
   ·obtain rfl := List.mem_singleton.1 h
    exact Nat.succ_le_succ (Nat.zero_le _)
   ·rename_i v vs e
    rcases List.mem_cons.1 h with rfl | h
    ·have := splitB_sub (c := c) (l := l) (w := v) (by rw [e]; exact List.mem_cons_self)
     simp only [List.length_cons]; omega
    ·exact Nat.le_succ_of_le (splitB_sub (by rw [e]; exact List.mem_cons_of_mem _ h))
theorem word_le {l : Bs} {j : Nat} (h : j < (wordsI l).length) : ((wordsI l).getD j []).length ≤ l.length := splitB_sub (strs_mem h)
theorem words_pos {l : Bs} : 0 < (wordsI l).length := List.length_pos_iff.2 splitB_ne
theorem words_head {l : Bs} : (strsV (wordsI l)).head? = some (.str (bt ((wordsI l).getD 0 []))) := by
 have := strsV_at (xs := wordsI l) words_pos
 rwa [List.drop_zero] at this
theorem ir_no {l : Bs} (h : inR (opI l) 1 15 = false ∨ ¬ (wordsI l).length = (formL (opI l)).length + 1) : insRead l = (noIns, false) := by
 rw [insRead, if_neg]
 rintro ⟨h1, h2⟩
 rcases h with h | h
 ·rw [h1] at h; cases h
 ·exact h h2
theorem ir_none {l : Bs} (h1 : inR (opI l) 1 15 = true) (h2 : (wordsI l).length = (formL (opI l)).length + 1) (h : fillI (formL (opI l)) ((wordsI l).drop 1) ⟨opI l, 0, 0, 0, 0⟩ = none) : insRead l = (noIns, false) := by
 rw [insRead, if_pos ⟨h1, h2⟩, h]
theorem ir_bad {l : Bs} {x : Ins} (h1 : inR (opI l) 1 15 = true) (h2 : (wordsI l).length = (formL (opI l)).length + 1) (h : fillI (formL (opI l)) ((wordsI l).drop 1) ⟨opI l, 0, 0, 0, 0⟩ = some x) (ht : ¬ bt (insT x) = bt l) : insRead l = (noIns, false) := by
 rw [insRead, if_pos ⟨h1, h2⟩, h]
 exact if_neg (fun e => ht (by rw [e]))
theorem ir_good {l : Bs} {x : Ins} (h1 : inR (opI l) 1 15 = true) (h2 : (wordsI l).length = (formL (opI l)).length + 1) (h : fillI (formL (opI l)) ((wordsI l).drop 1) ⟨opI l, 0, 0, 0, 0⟩ = some x) (ht : bt (insT x) = bt l) : insRead l = (x, true) := by
 rw [insRead, if_pos ⟨h1, h2⟩, h]
 exact if_pos (bt_inj.1 ht)
theorem drop_getD {xs : List Bs} {i : Nat} : (xs.drop 1).getD i [] = xs.getD (1 + i) [] := by
 rw [List.getD_eq_getElem?_getD, List.getElem?_drop, List.getD_eq_getElem?_getD]
end Go.Proofs.YtgpjgljgplngpaaGreatDoor.AM
namespace Go.Proofs.YtgpjgljgplngpaaGreatDoor.AM
open Go
theorem codeOk_no {l : List Ins} {i : Nat} (h : i < l.length) (hn : insOk (l.getD i noIns) = false) : codeOk l = false := by
 cases e : codeOk l with
 | false => rfl
 | true =>
  have hm : l.getD i noIns ∈ l := by
   rw [List.getD_eq_getElem?_getD, List.getElem?_eq_getElem h]
   exact List.getElem_mem h
  have := (codeOk_iff.1 e).2 _ hm
  rw [hn] at this
  cases this
theorem codeB_step {l : List Ins} {i : Nat} (h : i < l.length) : codeB (l.take i) ++ (insT (l.getD i noIns) ++ [10]) = codeB (l.take (i + 1)) := by
 have ht : l.take (i + 1) = l.take i ++ [l.getD i noIns] := by rw [List.take_add_one]; simp [h]
 rw [ht]
 simp only [codeB, List.map_append, List.flatten_append, List.map_cons, List.map_nil, List.flatten_cons, List.flatten_nil, List.append_nil]
theorem codeB_len : ∀ (l : List Ins), (codeB l).length ≤ 98 * l.length
 | [] => Nat.zero_le _
 | x :: l => by
  have h1 := insT_len (x := x)
  have h2 := codeB_len l
  have h3 : (codeB (x :: l)).length = (insT x).length + 1 + (codeB l).length := by
   simp only [codeB, List.map_cons, List.flatten_cons, List.length_append, List.length_cons, List.length_nil]
  rw [h3]
  simp only [List.length_cons]
  omega
theorem codeB_take {l : List Ins} {i : Nat} (h : i ≤ 48) : (codeB (l.take i)).length ≤ 4704 := by
 have h1 := codeB_len (l.take i)
 have h2 : (l.take i).length ≤ i := by rw [List.length_take]; omega
 omega
theorem codeT_at {l : List Ins} {i : Nat} (h : i = 0 ∨ codeOk l = true) (c : l.length ≤ i ∨ codeOk l = false) : codeB (l.take i) = codeT l := by
 unfold codeT
 cases e : codeOk l with
 | true =>
  rw [if_pos rfl, List.take_of_length_le (c.resolve_right (by rw [e]; exact Bool.noConfusion))]
 | false =>
  rw [if_neg Bool.noConfusion, h.resolve_right (by rw [e]; exact Bool.noConfusion)]
  rfl
theorem codeOk_len {l : List Ins} (h : codeOk l = true) : l.length ≤ 48 := (codeOk_iff.1 h).1.2
theorem cSG_end {l cur : Bs} {i : Nat} {D : List Ins} (h : l.length ≤ i) : codeSG (l.drop i) cur D = some D := by
 rw [List.drop_of_length_le h]
 rfl
theorem cur_on {l : Bs} {a i : Nat} (ha : a ≤ i) (h : i < l.length) : (l.take (i + 1)).drop a = (l.take i).drop a ++ [l.getD i 0] := by
 have h1 : a ≤ (l.take i).length := by rw [List.length_take]; omega
 have ht : l.take (i + 1) = l.take i ++ [l.getD i 0] := by rw [List.take_add_one]; simp [h]
 rw [ht, List.drop_append_of_le_length h1]
theorem cur_new {l : Bs} {i : Nat} : (l.take i).drop i = [] := List.drop_of_length_le (by rw [List.length_take]; omega)
theorem byte10 {b : UInt8} : b.toNat = 10 ↔ b = 10 := by rw [← UInt8.toNat_inj]; rfl
theorem cSG_on {l : Bs} {a i : Nat} {D : List Ins} (ha : a ≤ i) (h : i < l.length) (hb : ¬ (l.getD i 0).toNat = 10) : codeSG (l.drop i) ((l.take i).drop a) D = codeSG (l.drop (i + 1)) ((l.take (i + 1)).drop a) D := by
 rw [drop_at h, codeSG, if_neg (fun e => hb (byte10.2 e)), cur_on ha h]
theorem cSG_line {l : Bs} {a i : Nat} {D : List Ins} (h : i < l.length) (hb : (l.getD i 0).toNat = 10) (hr : (insRead ((l.take i).drop a)).2 = true) : codeSG (l.drop i) ((l.take i).drop a) D = codeSG (l.drop (i + 1)) ((l.take (i + 1)).drop (i + 1)) (D ++ [(insRead ((l.take i).drop a)).1]) := by
 rw [drop_at h, codeSG, if_pos (byte10.1 hb), if_pos hr, cur_new]
theorem cSG_no {l : Bs} {a i : Nat} {D : List Ins} (h : i < l.length) (hb : (l.getD i 0).toNat = 10) (hr : (insRead ((l.take i).drop a)).2 = false) : codeSG (l.drop i) ((l.take i).drop a) D = none := by
 rw [drop_at h, codeSG, if_pos (byte10.1 hb), if_neg (by rw [hr]; exact Bool.noConfusion)]
theorem crS_none {l : Bs} (h : codeSG l [] [] = none) : codeRead l = ([], false) := by
 rw [← codeRead_eq, codeReadS, h]
theorem crS_bad {l : Bs} {D : List Ins} (h : codeSG l [] [] = some D) (hn : bt l = bt [] ∨ ¬ bt (codeT D) = bt l) : codeRead l = ([], false) := by
 rw [← codeRead_eq, codeReadS, h]
 exact if_pos (hn.imp bt_inj.1 (fun g e => g (by rw [e])))
theorem crS_good {l : Bs} {D : List Ins} (h : codeSG l [] [] = some D) (hn : ¬ bt l = bt []) (ht : bt (codeT D) = bt l) : codeRead l = (D, true) := by
 rw [← codeRead_eq, codeReadS, h]
 exact if_neg (fun g => g.elim (fun e => hn (by rw [e])) (fun e => e (bt_inj.1 ht)))
theorem cGo_end {k : Nat} {r : Bs} {D : List Ins} (h : r = []) : codeGo k r D = some D := by
 subst h
 cases k <;> rfl
theorem cGo_less {r : Bs} {k : Nat} (h : r ≠ []) (hk : r.length ≤ k) : k - 1 < k := by
 have := List.length_pos_iff.2 h
 omega
theorem cGo_no {r : Bs} {k : Nat} {D : List Ins} (h : r ≠ []) (hk : r.length ≤ k) (c : (cutB r 10).2.2 = false ∨ (insRead (cutB r 10).1).2 = false ∨ D.length = 48) : codeGo k r D = none := by
 cases r with
 | nil => exact absurd rfl h
 | cons b rest =>
  cases k with
  | zero => simp at hk
  | succ k => rw [codeGo, if_pos c]
theorem cGo_go {r : Bs} {k : Nat} {D : List Ins} (h : r ≠ []) (hk : r.length ≤ k) (h1 : (cutB r 10).2.2 = true) (h2 : (insRead (cutB r 10).1).2 = true) (h3 : ¬ D.length = 48) : codeGo k r D = codeGo (k - 1) (cutB r 10).2.1 (D ++ [(insRead (cutB r 10).1).1]) ∧ (cutB r 10).2.1.length ≤ k - 1 := by
 have hc := (cut_is h1).2
 have hl := congrArg List.length hc
 simp only [List.length_append, List.length_cons] at hl
 refine ⟨?_, by omega⟩
 cases r with
 | nil => exact absurd rfl h
 | cons b rest =>
  cases k with
  | zero => simp at hk
  | succ k =>
   rw [codeGo, if_neg]
   ·rfl
   ·rw [h1, h2]
    simp [h3]
theorem crI_none {l : Bs} (h : codeGo l.length l [] = none) : codeRead l = ([], false) := by rw [codeRead, h]
theorem crI_some {l : Bs} {D : List Ins} (h : codeGo l.length l [] = some D) : codeRead l = (D, decide ((D.length : Int) > 0)) := by
 rw [codeRead, h]
 simp only [Prod.mk.injEq, true_and]
 exact decide_eq_decide.2 ⟨fun h => by omega, fun h => by omega⟩
end Go.Proofs.YtgpjgljgplngpaaGreatDoor.AM
