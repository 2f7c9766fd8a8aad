/- What the program's functions come to, said plainly: bounds, keys, words, what is made of them, reach. No conditions. -/
import Derived.Test.YtgddflnhibhacaaSp3
set_option linter.unusedVariables false
set_option linter.unusedSimpArgs false
namespace Go.Proofs.Ytgddflnhibhacaa.AM
open Go

def boundsOk (b t : Int) : Bool := inR b 0 4096 && inR t 0 4096 && decide (b ≤ t)
def packB (b : Int) (e : Nat) : Int := b / 2 ^ e
def packL (b t : Int) (e : Nat) : Int := (t - packB b e * 2 ^ e + 2 ^ e - 1) / 2 ^ e
def packFits (b t : Int) (e : Nat) : Bool := decide (packB b e ≤ 63) && decide (packL b t e ≤ 63)
def packFrom (b t : Int) : Nat → Nat → Option Nat
  | 0, _ => none
  | n + 1, e => if packFits b t e = true then some e else packFrom b t n (e + 1)
def packAt (b t : Int) : Option Nat := packFrom b t 7 0
theorem packFrom_go {b t : Int} {i : Nat} (h : i < 7) : packFrom b t (7 - i) i = if packFits b t i = true then some i else packFrom b t (7 - (i + 1)) (i + 1) := by
  rw [show 7 - i = (7 - (i + 1)) + 1 by omega, packFrom]
/-- The packed form: what it is, and whether there is one. -/
def pack (b t : Int) : (Int × Int × Int) × Bool :=
  if boundsOk b t = true then match packAt b t with
    | some e => (((e : Int), packB b e, packL b t e), true)
    | none => ((0, 0, 0), false)
  else ((0, 0, 0), false)
def unpack (p : Int × Int × Int) : Int × Int × Bool :=
  if inR p.1 0 6 = true ∧ inR p.2.1 0 63 = true ∧ inR p.2.2 0 63 = true then (p.2.1 * 2 ^ p.1.toNat, min ((p.2.1 + p.2.2) * 2 ^ p.1.toNat) 4096, true) else (0, 0, false)
def wide (b t : Int) : Int × Int :=
  if (pack b t).2 = true then ((unpack (pack b t).1).1, (unpack (pack b t).1).2.1) else if boundsOk b t = true then (0, 4096) else (0, 0)
def exact (b t : Int) : Bool := boundsOk b t && decide ((wide b t).1 = b) && decide ((wide b t).2 = t)
def keyOk (k : Key) : Bool := exact k.base k.top && inR k.perms 0 63 && inR k.lock 0 7
/-- Bits that two numbers share. -/
def band (a b : Int) : Int := bitop .and .i64 a b
def covers (a b : Key) : Bool := keyOk a && keyOk b && decide (a.base ≤ b.base) && decide (b.top ≤ a.top) && decide (band a.perms b.perms = b.perms)
def wordOk (w : Word) : Bool := inR w.n 0 65535 && (if w.is = true then keyOk w.key else decide (w.key = noKey))
def keyWord (k : Key) (n : Int) : Word := if keyOk k = true then ⟨low n, true, k⟩ else plain n
def bare (w : Word) : Word := plain w.n
def unders (w : Word) (l : List Word) : Bool := !w.is || l.any fun x => x.is && covers x.key w.key
def opened (w : Word) : Bool := wordOk w && w.is && decide (w.key.lock = 0)
def weaken (w : Word) (m : Int) : Word := if opened w = true then ⟨w.n, w.is, ⟨w.key.base, w.key.top, band w.key.perms (band m 63), w.key.lock⟩⟩ else bare w
def wadd (a b : Int) : Int := IntKind.i64.wrap (a + b)
def narrow (w : Word) (n : Int) : Word :=
  if opened w = true ∧ inR n 0 4096 = true ∧ boundsOk w.n (wadd w.n n) = true ∧ w.key.base ≤ (wide w.n (wadd w.n n)).1 ∧ (wide w.n (wadd w.n n)).2 ≤ w.key.top then
    ⟨w.n, w.is, ⟨(wide w.n (wadd w.n n)).1, (wide w.n (wadd w.n n)).2, w.key.perms, w.key.lock⟩⟩
  else bare w
def point (w : Word) (n : Int) : Word := if opened w = true then ⟨low n, w.is, w.key⟩ else plain n
def sealer (by_ : Word) : Bool := opened by_ && decide (band by_.key.perms 32 ≠ 0) && decide (by_.key.base ≤ by_.n) && decide (by_.n < by_.key.top) && inR by_.n 1 7
def sealBy (w by_ : Word) : Word := if opened w = true ∧ sealer by_ = true then ⟨w.n, w.is, ⟨w.key.base, w.key.top, w.key.perms, by_.n⟩⟩ else bare w
def openBy (w by_ : Word) : Word := if wordOk w = true ∧ w.is = true ∧ sealer by_ = true ∧ w.key.lock = by_.n then ⟨w.n, w.is, ⟨w.key.base, w.key.top, w.key.perms, 0⟩⟩ else bare w
def tryW (w : Word) (n p : Int) : Int :=
  if wordOk w = false ∨ w.is = false then 1 else if w.key.lock ≠ 0 then 2 else if band w.key.perms p ≠ p then 3 else if n < w.key.base ∨ w.key.top ≤ n then 4 else 0
def taken (by_ w : Word) : Word := if band by_.key.perms 8 = 0 then bare w else w
def mayPut (by_ w : Word) : Bool := !w.is || decide (band by_.key.perms 16 ≠ 0)
def guess (l : List Int) (pc : Word) : Word :=
  if inR pc.n 0 (l.length - 1) = true ∧ l.getD pc.n.toNat 0 ≠ -1 then point pc (l.getD pc.n.toNat 0) else point pc (wadd pc.n 1)
def guessNew : List Int := List.replicate 48 (-1)
theorem boundsOk_iff {b t : Int} : boundsOk b t = true ↔ 0 ≤ b ∧ b ≤ t ∧ t ≤ 4096 := by
  simp only [boundsOk, inR, Bool.and_eq_true, decide_eq_true_eq]
  omega
theorem pow7 {i : Nat} (h : i < 7) : 1 ≤ (2 : Int) ^ i ∧ (2 : Int) ^ i ≤ 64 :=
  match i, h with
  | 0, _ => by decide
  | 1, _ => by decide
  | 2, _ => by decide
  | 3, _ => by decide
  | 4, _ => by decide
  | 5, _ => by decide
  | 6, _ => by decide
theorem packB_rng {b t : Int} {i : Nat} (hb : boundsOk b t = true) (h : i < 7) : 0 ≤ packB b i ∧ packB b i ≤ 4096 ∧ 0 ≤ packB b i * 2 ^ i ∧ packB b i * 2 ^ i ≤ b := by
  have h1 := boundsOk_iff.1 hb
  have h2 := pow7 h
  have h3 : 0 ≤ b / (2 : Int) ^ i := Int.ediv_nonneg h1.1 (by omega)
  have h4 : b / (2 : Int) ^ i * 2 ^ i ≤ b := Int.ediv_mul_le b (by omega)
  have h5 : b / (2 : Int) ^ i ≤ b := Int.ediv_le_self _ h1.1
  unfold packB
  exact ⟨h3, by omega, Int.mul_nonneg h3 (by omega), h4⟩
theorem bits64 : IntKind.i64.bits = 64 := rfl
theorem fdiv_pow {a : Int} {n : Nat} : a.fdiv (2 ^ n) = a / 2 ^ n := Int.fdiv_eq_ediv_of_nonneg _ (Int.pow_nonneg (by decide))
theorem pack_wraps {b t : Int} {i : Nat} (hb : boundsOk b t = true) (h : i < 7) : IntKind.i64.wrap (b / 2 ^ i * 2 ^ i) = b / 2 ^ i * 2 ^ i ∧ IntKind.i64.wrap (1 * 2 ^ i) = 2 ^ i ∧ IntKind.i64.wrap (t - b / 2 ^ i * 2 ^ i) = t - b / 2 ^ i * 2 ^ i ∧
    IntKind.i64.wrap (t - b / 2 ^ i * 2 ^ i + 2 ^ i) = t - b / 2 ^ i * 2 ^ i + 2 ^ i ∧ IntKind.i64.wrap (t - b / 2 ^ i * 2 ^ i + 2 ^ i - 1) = t - b / 2 ^ i * 2 ^ i + 2 ^ i - 1 := by
  have h1 := boundsOk_iff.1 hb
  have h2 := pow7 h
  have h3 := packB_rng hb h
  unfold packB at h3
  generalize b / 2 ^ i * 2 ^ i = q at *
  generalize (2 : Int) ^ i = p at *
  have e1 : IntKind.i64.wrap q = q := wrap64 (by omega)
  have e2 : IntKind.i64.wrap (1 * p) = p := by rw [Int.one_mul]; exact wrap64 (by omega)
  have e3 : IntKind.i64.wrap (t - q) = t - q := wrap64 (by omega)
  have e4 : IntKind.i64.wrap (t - q + p) = t - q + p := wrap64 (by omega)
  have e5 : IntKind.i64.wrap (t - q + p - 1) = t - q + p - 1 := wrap64 (by omega)
  exact ⟨e1, e2, e3, e4, e5⟩
theorem pack_tdiv {b t : Int} {i : Nat} (hb : boundsOk b t = true) (h : i < 7) : IntKind.i64.wrap (b.tdiv (2 ^ i)) = b / 2 ^ i ∧ IntKind.i64.wrap ((t - b / 2 ^ i * 2 ^ i + 2 ^ i - 1).tdiv (2 ^ i)) = (t - b / 2 ^ i * 2 ^ i + 2 ^ i - 1) / 2 ^ i ∧ ((2 : Int) ^ i = 0) = False := by
  have h1 := boundsOk_iff.1 hb
  have h2 := pow7 h
  have h3 := packB_rng hb h
  unfold packB at h3
  have d1 : b.tdiv (2 ^ i) = b / 2 ^ i := Int.tdiv_eq_ediv_of_nonneg h1.1
  have d2 : (t - b / 2 ^ i * 2 ^ i + 2 ^ i - 1).tdiv (2 ^ i) = (t - b / 2 ^ i * 2 ^ i + 2 ^ i - 1) / 2 ^ i := Int.tdiv_eq_ediv_of_nonneg (by omega)
  have b1 : (t - b / 2 ^ i * 2 ^ i + 2 ^ i - 1) / 2 ^ i ≤ t - b / 2 ^ i * 2 ^ i + 2 ^ i - 1 := Int.ediv_le_self _ (by omega)
  have b2 : 0 ≤ (t - b / 2 ^ i * 2 ^ i + 2 ^ i - 1) / 2 ^ i := Int.ediv_nonneg (by omega) (by omega)
  rw [d1, d2]
  exact ⟨wrap64 (by omega), wrap64 (by omega), by simp; omega⟩
theorem unpack_wraps {e b l : Int} (he : inR e 0 6 = true) (hb : inR b 0 63 = true) (hl : inR l 0 63 = true) : min e.toNat 64 = e.toNat ∧ (e < 0) = False ∧ IntKind.i64.wrap (b * 2 ^ e.toNat) = b * 2 ^ e.toNat ∧ IntKind.i64.wrap (b + l) = b + l ∧
    IntKind.i64.wrap ((b + l) * 2 ^ e.toNat) = (b + l) * 2 ^ e.toNat := by
  rw [inR_iff] at he hb hl
  have h2 := pow7 (i := e.toNat) (by omega)
  have m1 : b * 2 ^ e.toNat ≤ 63 * 64 := Int.mul_le_mul hb.2 h2.2 (by omega) (by omega)
  have m2 : (b + l) * 2 ^ e.toNat ≤ 126 * 64 := Int.mul_le_mul (by omega) h2.2 (by omega) (by omega)
  have n1 : 0 ≤ b * 2 ^ e.toNat := Int.mul_nonneg hb.1 (by omega)
  have n2 : 0 ≤ (b + l) * 2 ^ e.toNat := Int.mul_nonneg (by omega) (by omega)
  exact ⟨by omega, by simp; omega, wrap64 (by omega), wrap64 (by omega), wrap64 (by omega)⟩
theorem opened_is {w : Word} (h : opened w = true) : w.is = true := by
  simp only [opened, Bool.and_eq_true] at h
  exact h.1.2
theorem andNot_zero {a p : Int} (hp : 0 ≤ p ∧ p ≤ 63) : (bitop .andNot .i64 p a = 0) = (band a p = p) := by
  unfold band bitop
  simp only
  have wn : ∀ v : BitVec 64, IntKind.i64.wrap (v.toNat : Int) = v.toInt := by
    intro v
    rw [BitVec.toInt_eq_toNat_bmod]
    simp only [IntKind.wrap, IntKind.bits, IntKind.signed, Int.bmod, Nat.reducePow, Int.reducePow, Nat.reduceSub, Bool.true_and, decide_eq_true_eq, ge_iff_le]
    have := v.isLt
    split <;> split <;> omega
  rw [show IntKind.i64.bits = 64 from rfl] at *
  rw [wn, wn]
  have h0 : (BitVec.ofInt 64 p &&& ~~~ BitVec.ofInt 64 a).toInt = 0 ↔ BitVec.ofInt 64 p &&& ~~~ BitVec.ofInt 64 a = 0#64 := by
    rw [← BitVec.toInt_inj]; simp
  have h1 : (BitVec.ofInt 64 a &&& BitVec.ofInt 64 p).toInt = p ↔ BitVec.ofInt 64 a &&& BitVec.ofInt 64 p = BitVec.ofInt 64 p := by
    rw [← BitVec.toInt_inj]
    have : (BitVec.ofInt 64 p).toInt = p := by
      rw [BitVec.toInt_ofInt]
      exact Int.bmod_eq_of_le (by omega) (by omega)
    rw [this]
  rw [eq_iff_iff, h0, h1]
  generalize BitVec.ofInt 64 p = x
  generalize BitVec.ofInt 64 a = y
  constructor
  · intro h
    ext i hi
    have := congrArg (fun v => v.getLsbD i) h
    simp [hi] at this ⊢
    cases hx : x[i] <;> simp_all
  · intro h
    ext i hi
    have := congrArg (fun v => v.getLsbD i) h
    simp [hi] at this ⊢
    cases hx : x[i] <;> simp_all
end Go.Proofs.Ytgddflnhibhacaa.AM
