/- What is drawn; what steps and picks keep right; What is drawn: rows that begin further on, cores; what a commit comes to; A core on its way: what is for good is what is done in order; Texts: a desk and its lines; Desks: what is one's own of them; what is marked; What settling comes to; out of order; Desks: what stays so whatever is told, and how a line is read step by step; Desks: lines, one behind the other. No conditions but those each theorem bears. -/
import Derived.Test.YtgpjgljgplngpaaGreatDoorM5
import Derived.ProofKit
import Derived.OpenShut
import Derived.WalkKit
import Derived.Test.YtgpjgljgplngpaaGreatDoorX1
import Derived.Lib.AtoiAllCases
set_option linter.unusedVariables false
set_option linter.unusedSimpArgs false
namespace Go.Proofs.YtgpjgljgplngpaaGreatDoor.AM
open Go
theorem band_le {a m : Int} (h : 0 ≤ m ∧ m ≤ 1048576) : 0 ≤ band a m ∧ band a m ≤ m := by
 show 0 ≤ IntKind.i64.wrap (((BitVec.ofInt 64 a &&& BitVec.ofInt 64 m).toNat : Nat) : Int) ∧ IntKind.i64.wrap (((BitVec.ofInt 64 a &&& BitVec.ofInt 64 m).toNat : Nat) : Int) ≤ m
 have hm : (BitVec.ofInt 64 m).toNat = m.toNat := by rw [BitVec.toNat_ofInt]; omega
 have h1 : (BitVec.ofInt 64 a &&& BitVec.ofInt 64 m).toNat ≤ m.toNat := by rw [BitVec.toNat_and, hm]; exact Nat.and_le_right
 rw [wrap64 (by omega)]
 omega
theorem low_rng (n : Int) : 0 ≤ low n ∧ low n ≤ 65535 := band_le (by decide)
theorem plain_ok (n : Int) : wordOk (plain n) = true := by
 have := low_rng n
 simp only [wordOk, plain, Bool.and_eq_true, inR_iff]
 exact ⟨this, by simp⟩
theorem noWord_ok : wordOk noWord = true := by decide
theorem bare_ok {w : Word} : wordOk (bare w) = true := plain_ok _
theorem wordOk_iff {w : Word} : wordOk w = true ↔ (0 ≤ w.n ∧ w.n ≤ 65535) ∧ (if w.is = true then keyOk w.key = true else w.key = noKey) := by
 simp only [wordOk, Bool.and_eq_true, inR_iff]
 cases w.is <;> simp
theorem keyOk_iff {k : Key} : keyOk k = true ↔ exact k.base k.top = true ∧ (0 ≤ k.perms ∧ k.perms ≤ 63) ∧ (0 ≤ k.lock ∧ k.lock ≤ 7) := by
 simp only [keyOk, Bool.and_eq_true, inR_iff, and_assoc]
theorem opened_parts {w : Word} (h : opened w = true) : (0 ≤ w.n ∧ w.n ≤ 65535) ∧ w.is = true ∧ keyOk w.key = true ∧ w.key.lock = 0 := by
 simp only [opened, Bool.and_eq_true, decide_eq_true_eq] at h
 have h1 := wordOk_iff.1 h.1.1
 rw [if_pos h.1.2] at h1
 exact ⟨h1.1, h.1.2, h1.2, h.2⟩
theorem weaken_ok {w : Word} {m : Int} : wordOk (weaken w m) = true := by
 unfold weaken
 split
 ·rename_i h
  obtain ⟨h1, h2, h3, h4⟩ := opened_parts h
  rw [wordOk_iff]
  simp only [h2, if_true]
  refine ⟨h1, ?_⟩
  rw [keyOk_iff] at h3 ⊢
  have e1 : 0 ≤ band m 63 ∧ band m 63 ≤ 63 := band_le (by decide)
  have e2 : 0 ≤ band w.key.perms (band m 63) ∧ band w.key.perms (band m 63) ≤ band m 63 := band_le (by omega)
  exact ⟨h3.1, by simp only; omega, h3.2.2⟩
 ·exact bare_ok
theorem point_ok {w : Word} {n : Int} : wordOk (point w n) = true := by
 unfold point
 split
 ·rename_i h
  obtain ⟨h1, h2, h3, h4⟩ := opened_parts h
  rw [wordOk_iff]
  simp only [h2, if_true]
  exact ⟨low_rng n, h3⟩
 ·exact plain_ok _
theorem sealer_rng {w : Word} (h : sealer w = true) : 1 ≤ w.n ∧ w.n ≤ 7 := by
 simp only [sealer, Bool.and_eq_true, inR_iff] at h
 exact h.2
theorem seal_ok {w b : Word} : wordOk (sealBy w b) = true := by
 unfold sealBy
 split
 ·rename_i h
  obtain ⟨h1, h2, h3, h4⟩ := opened_parts h.1
  have h5 := sealer_rng h.2
  rw [wordOk_iff]
  simp only [h2, if_true]
  rw [keyOk_iff] at h3 ⊢
  exact ⟨h1, h3.1, h3.2.1, by simp only; omega⟩
 ·exact bare_ok
theorem open_ok {w b : Word} : wordOk (openBy w b) = true := by
 unfold openBy
 split
 ·rename_i h
  have h1 := wordOk_iff.1 h.1
  rw [if_pos h.2.1] at h1
  rw [wordOk_iff]
  simp only [h.2.1, if_true]
  have h3 := keyOk_iff.1 h1.2
  exact ⟨h1.1, keyOk_iff.2 ⟨h3.1, h3.2.1, Int.le_refl 0, by show (0 : Int) ≤ 7; decide⟩⟩
 ·exact bare_ok
theorem packFrom_some {b t : Int} : ∀ (n e : Nat) {r : Nat}, packFrom b t n e = some r → e ≤ r ∧ r < e + n ∧ packFits b t r = true
 | 0, _, _, h => by cases h
 | n + 1, e, r, h => by
  rw [packFrom] at h
  split at h
  ·rename_i hf
   obtain rfl := Option.some.inj h
   exact ⟨Nat.le_refl _, by omega, hf⟩
  ·have := packFrom_some n (e + 1) h
   exact ⟨by omega, by omega, this.2.2⟩
theorem packFrom_le {b t : Int} : ∀ (n e : Nat) {r : Nat}, e ≤ r → r < e + n → packFits b t r = true → ∃ q, packFrom b t n e = some q ∧ q ≤ r
 | 0, _, _, h1, h2, _ => by omega
 | n + 1, e, r, h1, h2, h3 => by
  rw [packFrom]
  split
  ·exact ⟨e, rfl, h1⟩
  ·rename_i hf
   have : e ≠ r := fun h => hf (h ▸ h3)
   exact packFrom_le n (e + 1) (by omega) (by omega) h3
theorem wide_of {b t : Int} {e : Nat} (hb : boundsOk b t = true) (h : packAt b t = some e) : wide b t = (packB b e * 2 ^ e, min ((packB b e + packL b t e) * 2 ^ e) 4096) := by
 have hs := packFrom_some 7 0 h
 have hp : pack b t = (((e : Int), packB b e, packL b t e), true) := by rw [pack, if_pos hb, h]
 have h7 := pow7 (i := e) (by omega)
 have hf := hs.2.2
 simp only [packFits, Bool.and_eq_true, decide_eq_true_eq] at hf
 have hB := packB_rng (i := e) hb (by omega)
 have hL : 0 ≤ packL b t e := by
  have := boundsOk_iff.1 hb
  unfold packL
  exact Int.ediv_nonneg (by omega) (by omega)
 unfold wide
 rw [hp]
 simp only [if_true]
 have hu : unpack (((e : Int), packB b e, packL b t e)) = (packB b e * 2 ^ e, min ((packB b e + packL b t e) * 2 ^ e) 4096, true) := by
  rw [unpack, if_pos]
  ·simp only [Int.toNat_natCast]
  ·simp only [inR_iff]; omega
 rw [hu]
theorem pow_split {e q : Nat} (h : q ≤ e) : (2 : Int) ^ e = 2 ^ (e - q) * 2 ^ q := by rw [← Int.pow_add]; congr 1; omega
theorem ceil_mul {x p : Int} (hp : 0 < p) (hx : 0 ≤ x) : (x * p + p - 1) / p = x := by
 rw [Int.ediv_eq_iff_of_pos hp]
 constructor <;> omega
theorem exact_of {b t : Int} {e : Nat} {B T : Int} (h7 : e < 7) (hb : boundsOk b t = true) (hB : b = B * 2 ^ e) (hT : t = T * 2 ^ e) (hBT : 0 ≤ B ∧ B ≤ T) (hf : packFits b t e = true) : exact b t = true := by
 obtain ⟨q, hq, hle⟩ := packFrom_le (b := b) (t := t) 7 0 (Nat.zero_le _) (by omega) hf
 have hw := wide_of hb hq
 have hp := pow7 (i := q) (by omega)
 have hs := pow_split hle
 have h1 : packB b q = B * 2 ^ (e - q) := by
  unfold packB
  rw [hB, hs, ← Int.mul_assoc, Int.mul_ediv_cancel _ (by omega)]
 have h2 : packL b t q = T * 2 ^ (e - q) - B * 2 ^ (e - q) := by
  unfold packL
  rw [h1, hT, hs, ← Int.mul_assoc, ← Int.sub_mul]
  refine ceil_mul (by omega) ?_
  rw [← Int.sub_mul]
  exact Int.mul_nonneg (by omega) (Int.pow_nonneg (by decide))
 have h3 : (packB b q + packL b t q) * 2 ^ q = t := by
  rw [h1, h2, hT, hs, ← Int.mul_assoc]
  congr 1
  omega
 have h4 : packB b q * 2 ^ q = b := by rw [h1, hB, hs, ← Int.mul_assoc]
 have hbt := boundsOk_iff.1 hb
 rw [exact, hb, hw]
 simp only [Bool.true_and, Bool.and_eq_true, decide_eq_true_eq]
 exact ⟨h4, by rw [h3]; omega⟩
theorem exact_wide {b t : Int} (hb : boundsOk b t = true) : exact (wide b t).1 (wide b t).2 = true := by
 cases hp : packAt b t with
 | none =>
  have : wide b t = (0, 4096) := by
   have hk : (pack b t).2 = false := by rw [pack, if_pos hb, hp]
   rw [wide, if_neg (by rw [hk]; exact Bool.noConfusion), if_pos hb]
  rw [this]
  decide
 | some e =>
  have hs := packFrom_some 7 0 hp
  have hw := wide_of hb hp
  have h2 := pow7 (i := e) (by omega)
  have hf := hs.2.2
  simp only [packFits, Bool.and_eq_true, decide_eq_true_eq] at hf
  have hB := packB_rng (i := e) hb (by omega)
  have hbt := boundsOk_iff.1 hb
  have hL : 0 ≤ packL b t e := by
   unfold packL
   exact Int.ediv_nonneg (by omega) (by omega)
  have hnn : 0 ≤ packL b t e * 2 ^ e := Int.mul_nonneg hL (by omega)
  have h46 : (4096 : Int) = 2 ^ (12 - e) * 2 ^ e := by rw [← Int.pow_add, show 12 - e + e = 12 by omega]; rfl
  have hmul : (packB b e + packL b t e) * 2 ^ e = packB b e * 2 ^ e + packL b t e * 2 ^ e := Int.add_mul _ _ _
  rw [hw]
  simp only
  by_cases hc : (packB b e + packL b t e) * 2 ^ e ≤ 4096
  ·rw [show min ((packB b e + packL b t e) * 2 ^ e) 4096 = (packB b e + packL b t e) * 2 ^ e by omega]
   refine exact_of (e := e) (by omega) (boundsOk_iff.2 ⟨by omega, by omega, by omega⟩) rfl rfl ⟨hB.1, by omega⟩ ?_
   have e1 : packB (packB b e * 2 ^ e) e = packB b e := by
    show packB b e * 2 ^ e / 2 ^ e = _
    exact Int.mul_ediv_cancel _ (by omega)
   have e2 : packL (packB b e * 2 ^ e) ((packB b e + packL b t e) * 2 ^ e) e = packL b t e := by
    show ((packB b e + packL b t e) * 2 ^ e - packB (packB b e * 2 ^ e) e * 2 ^ e + 2 ^ e - 1) / 2 ^ e = _
    rw [e1, ← Int.sub_mul, show packB b e + packL b t e - packB b e = packL b t e by omega]
    exact ceil_mul (by omega) hL
   rw [packFits, e1, e2]
   simp only [hf.1, hf.2, decide_true, Bool.and_self]
  ·rw [show min ((packB b e + packL b t e) * 2 ^ e) 4096 = 4096 by omega]
   have hle : packB b e ≤ 2 ^ (12 - e) := by
    refine Int.le_of_mul_le_mul_right ?_ (show (0 : Int) < 2 ^ e by omega)
    rw [← h46]; omega
   refine exact_of (e := e) (by omega) (boundsOk_iff.2 ⟨by omega, by omega, by omega⟩) rfl h46 ⟨hB.1, hle⟩ ?_
   have e1 : packB (packB b e * 2 ^ e) e = packB b e := by
    show packB b e * 2 ^ e / 2 ^ e = _
    exact Int.mul_ediv_cancel _ (by omega)
   have e2 : packL (packB b e * 2 ^ e) 4096 e = 2 ^ (12 - e) - packB b e := by
    show (4096 - packB (packB b e * 2 ^ e) e * 2 ^ e + 2 ^ e - 1) / 2 ^ e = _
    rw [e1, h46, ← Int.sub_mul]
    exact ceil_mul (by omega) (by omega)
   have e3 : 2 ^ (12 - e) - packB b e ≤ packL b t e := by
    have : (2 ^ (12 - e) - packB b e) * 2 ^ e ≤ packL b t e * 2 ^ e := by rw [Int.sub_mul, ← h46]; omega
    exact Int.le_of_mul_le_mul_right this (show (0 : Int) < 2 ^ e by omega)
   rw [packFits, e1, e2]
   simp only [Bool.and_eq_true, decide_eq_true_eq]
   exact ⟨hf.1, by omega⟩
theorem narrow_ok {w : Word} {n : Int} : wordOk (narrow w n) = true := by
 unfold narrow
 split
 ·rename_i h
  obtain ⟨h1, h2, h3, h4⟩ := opened_parts h.1
  rw [wordOk_iff]
  simp only [h2, if_true]
  rw [keyOk_iff] at h3 ⊢
  exact ⟨h1, exact_wide h.2.2.1, h3.2⟩
 ·exact bare_ok
section
variable {m : Mem} {s : Stt} {l : List Ins} {x : Ins} {pc a b g by_ w : Word} {n : Int}
theorem memOk_iff : memOk m = true ↔ m.words.length = 24 ∧ m.gone.length = 24 ∧ ∀ w, w ∈ m.words → wordOk w = true := by
 simp only [memOk, Bool.and_eq_true, decide_eq_true_eq, List.all_eq_true, and_assoc]
theorem sttOk_iff : sttOk s = true ↔ (∀ w, w ∈ s.regs → wordOk w = true) ∧ s.regs.length = 8 ∧ wordOk s.pc = true ∧ memOk s.mem = true ∧ (0 ≤ s.trap ∧ s.trap ≤ 5) := by
 simp only [sttOk, Bool.and_eq_true, decide_eq_true_eq, List.all_eq_true, inR_iff, and_assoc]
theorem filt_ok (h : wordOk w = true) : wordOk (filt m w) = true := by
 unfold filt
 split
 ·exact bare_ok
 ·exact h
theorem taken_ok (h : wordOk w = true) : wordOk (taken by_ w) = true := by
 unfold taken
 split
 ·exact bare_ok
 ·exact h
theorem getW_ok {ws : List Word} {i : Nat} (h : ∀ w, w ∈ ws → wordOk w = true) : wordOk (ws.getD i noWord) = true := by
 rw [List.getD_eq_getElem?_getD]
 cases hq : ws[i]? with
 | none => exact noWord_ok
 | some w => exact h w (List.mem_of_getElem? hq)
theorem readW_ok (h : memOk m = true) : wordOk (read m by_ n).1 = true := by
 unfold read
 split
 ·exact filt_ok (taken_ok (getW_ok (memOk_iff.1 h).2.2))
 ·exact noWord_ok
theorem reg_ok {r : Int} (h : sttOk s = true) : wordOk (reg s r) = true := getW_ok (sttOk_iff.1 h).1
theorem memOf_ok (h : memOk m = true) : wordOk (memOf m x a b).1 = true := by
 unfold memOf
 split
 ·exact readW_ok h
 ·split <;> exact noWord_ok
theorem tryW_rng {p : Int} : 0 ≤ tryW w n p ∧ tryW w n p ≤ 4 := by
 unfold tryW
 repeat (split; · decide)
 decide
theorem rng0 : (0 : Int) ≤ 0 ∧ (0 : Int) ≤ 5 := by decide
def fxOk (e : Fx) : Prop := wordOk e.val = true ∧ wordOk e.next = true ∧ wordOk e.put = true ∧ (0 ≤ e.trap ∧ e.trap ≤ 5)
theorem fxTrap_ok {t : Int} (ht : 0 ≤ t ∧ t ≤ 5) (hp : wordOk pc = true) : fxOk (fxTrap t pc) := ⟨noWord_ok, hp, noWord_ok, ht⟩
theorem isW_ok : wordOk (isW a) = true := by
 unfold isW
 split <;> exact plain_ok _
theorem valueOf_ok (ha : wordOk a = true) (hg : wordOk g = true) : wordOk (valueOf x a b g) = true := by
 unfold valueOf
 repeat' split
 ·exact plain_ok _
 ·exact plain_ok _
 ·exact ha
 ·exact weaken_ok
 ·exact narrow_ok
 ·exact point_ok
 ·exact seal_ok
 ·exact open_ok
 ·exact hg
 ·exact isW_ok
theorem work_ok (hp : wordOk pc = true) (ha : wordOk a = true) (hb : wordOk b = true) (hg : wordOk g = true) : fxOk (work x pc a b g) := by
 have hn : wordOk (nextPc pc) = true := point_ok
 have h4 := tryW_rng (w := a) (n := a.n) (p := 4)
 have h32 := tryW_rng (w := a) (n := a.n) (p := 32)
 unfold work
 split
 ·exact ⟨noWord_ok, hn, hb, rng0⟩
 ·split
  ·split
   ·exact fxTrap_ok (by omega) hp
   ·exact ⟨hn, ha, noWord_ok, rng0⟩
  ·split
   ·refine ⟨noWord_ok, ?_, noWord_ok, rng0⟩
    show wordOk (if a.n = 0 then point pc (wadd pc.n x.n) else nextPc pc) = true
    split
    ·exact point_ok
    ·exact hn
   ·split
    ·split
     ·exact fxTrap_ok (by omega) hp
     ·exact ⟨noWord_ok, hn, noWord_ok, rng0⟩
    ·split
     ·exact fxTrap_ok (by decide) hp
     ·refine ⟨?_, hn, noWord_ok, rng0⟩
      show wordOk (if 0 ≤ sets x then valueOf x a b g else noWord) = true
      split
      ·exact valueOf_ok ha hg
      ·exact noWord_ok
theorem fetch_rng : 0 ≤ (fetch l pc).2 ∧ (fetch l pc).2 ≤ 5 := by
 have := tryW_rng (w := pc) (n := pc.n) (p := 4)
 unfold fetch
 split
 ·simp only; omega
 ·split
  ·exact rng0
  ·decide
theorem writeT_rng : 0 ≤ writeT m by_ n w ∧ writeT m by_ n w ≤ 5 := by
 have := tryW_rng (w := by_) (n := n) (p := 2)
 unfold writeT
 repeat' split
 all_goals omega
theorem readT_rng : 0 ≤ readT m by_ n ∧ readT m by_ n ≤ 5 := by
 have := tryW_rng (w := by_) (n := n) (p := 1)
 unfold readT
 repeat' split
 all_goals omega
theorem memOf_rng : 0 ≤ (memOf m x a b).2 ∧ (memOf m x a b).2 ≤ 5 := by
 unfold memOf
 split
 ·unfold read
  split
  ·exact rng0
  ·exact readT_rng
 ·split
  ·exact writeT_rng
  ·decide
theorem fxOf_ok (h : sttOk s = true) : fxOk (fxOf l s) := by
 have hk := sttOk_iff.1 h
 unfold fxOf
 split
 ·exact fxTrap_ok fetch_rng hk.2.2.1
 ·split
  ·exact fxTrap_ok memOf_rng hk.2.2.1
  ·exact work_ok hk.2.2.1 (reg_ok h) (reg_ok h) (memOf_ok hk.2.2.2.1)
theorem set_okW {ws : List Word} {i : Nat} (h : ∀ w, w ∈ ws → wordOk w = true) (hw : wordOk w = true) : ∀ v, v ∈ ws.set i w → wordOk v = true := fun v hv => by
 rcases List.mem_or_eq_of_mem_set hv with hv | rfl
 ·exact h v hv
 ·exact hw
theorem apply_ok {e : Fx} (h : sttOk s = true) (he : fxOk e) : sttOk (applyFx s e) = true := by
 have hk := sttOk_iff.1 h
 have hm := memOk_iff.1 hk.2.2.2.1
 refine sttOk_iff.2 ⟨?_, ?_, he.2.1, memOk_iff.2 ⟨?_, ?_, ?_⟩, hk.2.2.2.2⟩
 ·show ∀ w, w ∈ (if inR e.r 0 7 = true then s.regs.set e.r.toNat e.val else s.regs) → wordOk w = true
  split
  ·exact set_okW hk.1 he.1
  ·exact hk.1
 ·show (if inR e.r 0 7 = true then s.regs.set e.r.toNat e.val else s.regs).length = 8
  split <;> simpa using hk.2.1
 ·show (if inR e.adr 0 23 = true then s.mem.words.set e.adr.toNat e.put else s.mem.words).length = 24
  split <;> simpa using hm.1
 ·show (if inR e.drop 0 23 = true then s.mem.gone.set e.drop.toNat true else s.mem.gone).length = 24
  split <;> simpa using hm.2.1
 ·show ∀ w, w ∈ (if inR e.adr 0 23 = true then s.mem.words.set e.adr.toNat e.put else s.mem.words) → wordOk w = true
  split
  ·exact set_okW hm.2.2 he.2.2.1
  ·exact hm.2.2
theorem step_ok (h : sttOk s = true) : sttOk (step l s) = true := by
 have hk := sttOk_iff.1 h
 have hf := fxOf_ok (l := l) h
 unfold step
 rw [if_neg (by rw [h]; exact Bool.noConfusion)]
 split
 ·exact h
 ·split
  ·exact sttOk_iff.2 ⟨hk.1, hk.2.1, hk.2.2.1, hk.2.2.2.1, hf.2.2.2⟩
  ·exact apply_ok h hf
theorem sweep_ok (h : memOk m = true) : memOk (sweep m n) = true := by
 have hm := memOk_iff.1 h
 unfold sweep
 rw [if_pos h]
 split
 ·exact memOk_iff.2 ⟨by simpa using hm.1, hm.2.1, set_okW hm.2.2 (filt_ok (getW_ok hm.2.2))⟩
 ·exact h
theorem runOne_ok (h : sttOk s = true) : sttOk (runOne l s n) = true := by
 unfold runOne
 split
 ·exact step_ok h
 ·have hk := sttOk_iff.1 h
  exact sttOk_iff.2 ⟨hk.1, hk.2.1, hk.2.2.1, sweep_ok hk.2.2.2.1, hk.2.2.2.2⟩
theorem alike_refl : alike s s = true := by simp [alike]
end
structure Cu where
 b : List UInt8
 i : Int
 h : Int
 ok : 0 ≤ i ∧ b.length ≤ 1048576
def Cu.cells (c : Cu) : List AV := [.sl c.b.length c.b.length (bytesV c.b), .int .i64 c.i, .int .i64 c.h]
theorem cu_cells {c : Cu} : c.cells = [.sl c.b.length c.b.length (bytesV c.b), .int .i64 c.i, .int .i64 c.h] := (rfl)
theorem sh_bytesV {mm : Nat → Nat} {l : List UInt8} : shL mm (bytesV l) = bytesV l := by
 induction l with
 | nil => rfl
 | cons x l ih => simp only [bytesV, List.map_cons] at ih ⊢; rw [shL, ih]; rfl
attribute [go_sem] cu_cells sh_bytesV
theorem rem_rng {x n : Int} (hx : 0 ≤ x) (hn : ¬ n ≤ 0) : 0 ≤ x.tmod n ∧ (0 < n → x.tmod n < n) ∧ (n ≤ 0 → x.tmod n = 0) :=
 ⟨Int.tmod_nonneg _ hx, fun h => Int.tmod_lt_of_pos _ h, fun h => absurd h hn⟩
theorem getD_mem {xs : List Int} {i : Nat} (h : i < xs.length) : xs.getD i 0 ∈ xs := by
 rw [List.getD_eq_getElem?_getD, List.getElem?_eq_getElem h]
 exact List.getElem_mem h
theorem keyWord_ok {k : Key} {n : Int} : wordOk (keyWord k n) = true := by
 unfold keyWord
 split
 ·rename_i h
  rw [wordOk_iff]
  simp only [if_true]
  exact ⟨low_rng n, h⟩
 ·exact plain_ok _
theorem band_low {a : Int} (h : 0 ≤ a ∧ a ≤ 65535) : band a 65535 = a := by
 show IntKind.i64.wrap (((BitVec.ofInt 64 a &&& BitVec.ofInt 64 65535).toNat : Nat) : Int) = a
 have hm : (BitVec.ofInt 64 a).toNat = a.toNat := by rw [BitVec.toNat_ofInt]; omega
 have h1 : (BitVec.ofInt 64 a &&& BitVec.ofInt 64 65535).toNat = a.toNat := by
  rw [BitVec.toNat_and, hm, show (BitVec.ofInt 64 65535).toNat = 2 ^ 16 - 1 from rfl, Nat.and_two_pow_sub_one_eq_mod]
  omega
 rw [h1, wrap64 (by omega)]
 omega
theorem low_low (n : Int) : low (low n) = low n := band_low (low_rng n)
theorem guessOk_new : guessOk guessNew = true := by decide
def dif {α : Type} [DecidableEq α] (d : α) (xs ys : List α) : Nat → Nat
 | 0 => 0
 | n + 1 => dif d xs ys n + (if xs.getD n d = ys.getD n d then 0 else 1)
def difS (s t : Stt) : Nat := dif noWord t.regs s.regs 8 + dif noWord t.mem.words s.mem.words 24 + dif false t.mem.gone s.mem.gone 24
def chs (e : Fx) : Nat := (if inR e.r 0 7 = true then 1 else 0) + (if inR e.adr 0 23 = true then 1 else 0) + (if inR e.drop 0 23 = true then 1 else 0)
def fromW (ws : List Word) (w : Word) : Prop := w.is = true → ∃ x, x ∈ ws ∧ x.is = true ∧ covers x.key w.key = true
section
variable {s : Stt} {l : List Ins} {ws : List Word}
def fromS (ws : List Word) (s : Stt) : Prop := (∀ w, w ∈ s.regs → fromW ws w) ∧ fromW ws s.pc ∧ ∀ w, w ∈ s.mem.words → fromW ws w
def fromE (ws : List Word) (e : Fx) : Prop := fromW ws e.val ∧ fromW ws e.next ∧ fromW ws e.put
end
section
variable {l : List Ins} {c : Cor} {i : Int} {s : Stt} {p : Pik} {x : Ins} {pc a b g by_ w : Word} {n : Int}
theorem corOk_iff : corOk c = true ↔ (∀ x, x ∈ c.rob → entOk x = true) ∧ sttOk c.s = true ∧ c.rob.length ≤ 6 ∧ wordOk c.next = true ∧ guessOk c.guesses = true := by
 simp only [corOk, Bool.and_eq_true, decide_eq_true_eq, List.all_eq_true, and_assoc]
def fxIn (e : Fx) : Prop := fxOk e ∧ (-1 ≤ e.r ∧ e.r ≤ 7) ∧ e.drop ≤ 4096
theorem fxIn_trap {t : Int} (ht : 0 ≤ t ∧ t ≤ 5) (hp : wordOk pc = true) : fxIn (fxTrap t pc) := ⟨fxTrap_ok ht hp, (by decide : (-1 : Int) ≤ -1 ∧ (-1 : Int) ≤ 7), (by decide : (-1 : Int) ≤ 4096)⟩
theorem entOk_mk {pc g : Word} {x : Ins} {d : Bool} {e : Fx} (h1 : wordOk pc = true) (h2 : wordOk g = true) (hx : (insOk x || decide (x = noIns)) = true) (he : fxIn e) : entOk ⟨pc, x, d, e, g⟩ = true := by
 obtain ⟨⟨a, b, c, d⟩, e, f⟩ := he
 simp only [entOk, h1, h2, a, b, c, hx, Bool.and_true, Bool.true_and, Bool.and_eq_true, inR_iff, decide_eq_true_eq]
 exact ⟨⟨d, e⟩, f⟩
theorem fxIn_no : fxIn noFx := ⟨⟨noWord_ok, noWord_ok, noWord_ok, by decide⟩, by decide, by decide⟩
theorem sets_rng (h : (insOk x || decide (x = noIns)) = true) : -1 ≤ sets x ∧ sets x ≤ 7 := by
 have := inR_iff.1 (ins_reg h).1
 unfold sets
 split <;> omega
theorem base_le {k : Key} (h : keyOk k = true) : k.base ≤ 4096 := by
 have h1 := (keyOk_iff.1 h).1
 simp only [exact, Bool.and_eq_true] at h1
 have := boundsOk_iff.1 h1.1.1
 omega
theorem tryW_ok {m q : Int} (h : tryW w m q = 0) : wordOk w = true ∧ w.is = true := by
 unfold tryW at h
 split at h
 ·cases h
 ·rename_i h1
  have h2 := not_or.1 h1
  exact ⟨by simpa using h2.1, by simpa using h2.2⟩
theorem fxIn_work (hp : wordOk pc = true) (ha : wordOk a = true) (hb : wordOk b = true) (hg : wordOk g = true) (hx : (insOk x || decide (x = noIns)) = true) : fxIn (work x pc a b g) := by
 refine ⟨work_ok hp ha hb hg, ?_⟩
 have hs := sets_rng hx
 have hr := inR_iff.1 (ins_reg hx).1
 unfold work
 split
 ·exact ⟨by show (-1 : Int) ≤ -1 ∧ (-1 : Int) ≤ 7; decide, by show (-1 : Int) ≤ 4096; decide⟩
 ·split
  ·split
   ·exact ⟨by show (-1 : Int) ≤ -1 ∧ (-1 : Int) ≤ 7; decide, by show (-1 : Int) ≤ 4096; decide⟩
   ·exact ⟨by show (-1 : Int) ≤ x.r ∧ x.r ≤ 7; omega, by show (-1 : Int) ≤ 4096; decide⟩
  ·split
   ·exact ⟨by show (-1 : Int) ≤ -1 ∧ (-1 : Int) ≤ 7; decide, by show (-1 : Int) ≤ 4096; decide⟩
   ·split
    ·split
     ·exact ⟨by show (-1 : Int) ≤ -1 ∧ (-1 : Int) ≤ 7; decide, by show (-1 : Int) ≤ 4096; decide⟩
     ·rename_i ht
      have h1 := tryW_ok (Decidable.not_not.1 ht)
      have h2 := wordOk_iff.1 h1.1
      rw [if_pos h1.2] at h2
      exact ⟨by show (-1 : Int) ≤ -1 ∧ (-1 : Int) ≤ 7; decide, base_le h2.2⟩
    ·split
     ·exact ⟨by show (-1 : Int) ≤ -1 ∧ (-1 : Int) ≤ 7; decide, by show (-1 : Int) ≤ 4096; decide⟩
     ·exact ⟨hs, by show (-1 : Int) ≤ 4096; decide⟩
theorem guess_ok {gs : List Int} : wordOk (guess gs pc) = true := by
 unfold guess
 split <;> exact point_ok
theorem fetch_ins (h : (fetch l pc).2 = 0) : (insOk (fetch l pc).1 || decide ((fetch l pc).1 = noIns)) = true := by rw [fetch_ok h]; rfl
theorem guessOk_iff {gs : List Int} : guessOk gs = true ↔ gs.length = 48 ∧ ∀ x, x ∈ gs → -1 ≤ x ∧ x ≤ 65535 := by
 simp only [guessOk, Bool.and_eq_true, decide_eq_true_eq, List.all_eq_true, inR_iff]
theorem learn_ok {gs : List Int} {v : Word} (h : guessOk gs = true) : guessOk (learn gs w v) = true := by
 have hk := guessOk_iff.1 h
 unfold learn
 split
 ·refine guessOk_iff.2 ⟨by simpa using hk.1, fun x hx => ?_⟩
  rcases List.mem_or_eq_of_mem_set hx with hx | rfl
  ·exact hk.2 x hx
  ·have := low_rng v.n
   omega
 ·exact h
theorem corNew_ok (h : sttOk s = true) : corOk (corNew s) = true := by
 rw [corNew_go h]
 exact corOk_iff.2 ⟨fun x hx => (by cases hx), h, by simp, (sttOk_iff.1 h).2.2.1, guessOk_new⟩
theorem pull_ok (h : corOk c = true) : corOk (pull l c).1 = true := by
 have hk := corOk_iff.1 h
 by_cases h1 : c.stop = true ∨ c.rob.length = 6 ∨ c.s.trap ≠ 0
 ·rw [pull_idle h h1]; exact h
 ·have h6 : c.rob.length ≠ 6 := fun g => h1 (Or.inr (Or.inl g))
  by_cases h2 : (fetch l c.next).2 = 0
  ·rw [pull_go h h1 h2]
   refine corOk_iff.2 ⟨fun x hx => ?_, hk.2.1, by simp [withRob]; omega, guess_ok, hk.2.2.2.2⟩
   rcases List.mem_append.1 hx with hx | hx
   ·exact hk.1 x hx
   ·obtain rfl := List.mem_singleton.1 hx
    exact entOk_mk hk.2.2.2.1 guess_ok (fetch_ins h2) fxIn_no
  ·rw [pull_trap h h1 h2]
   refine corOk_iff.2 ⟨fun x hx => ?_, hk.2.1, by simp [withRob]; omega, hk.2.2.2.1, hk.2.2.2.2⟩
   rcases List.mem_append.1 hx with hx | hx
   ·exact hk.1 x hx
   ·obtain rfl := List.mem_singleton.1 hx
    exact entOk_mk hk.2.2.2.1 hk.2.2.2.1 rfl (fxIn_trap fetch_rng hk.2.2.2.1)
theorem valueRaw_ok {r : Int} (h : corOk c = true) : wordOk (valueRaw c i r).1 = true := by
 have hk := corOk_iff.1 h
 unfold valueRaw
 split
 ·exact reg_ok hk.2.1
 ·split
  ·exact noWord_ok
  ·rename_i h1 h2
   have := source_lt c.rob i r
   exact (entOk_parts (ent_ok h (by omega))).2.2.1
theorem found_ok (h : corOk c = true) : wordOk (found c i by_ n).1 = true := by
 have hk := corOk_iff.1 h
 have hm := (sttOk_iff.1 hk.2.1).2.2.2.1
 unfold found
 split
 ·exact noWord_ok
 ·split
  ·exact readW_ok hm
  ·rename_i h1 h2
   refine filt_ok (taken_ok ?_)
   have := lastAt_lt (p := puts n) (d := noEnt) (xs := c.rob) (upTo i c.rob.length)
   have hu := upTo_le i c.rob.length
   exact (entOk_parts (ent_ok h (by omega))).2.2.2.2.1
theorem read_rng {m : Mem} : 0 ≤ (read m by_ n).2 ∧ (read m by_ n).2 ≤ 5 := by
 unfold read
 split
 ·exact rng0
 ·exact readT_rng
theorem found_rng : 0 ≤ (found c i by_ n).2 ∧ (found c i by_ n).2 ≤ 5 := by
 unfold found
 split
 ·exact read_rng
 ·split
  ·exact read_rng
  ·exact rng0
theorem doneBy_ok {y : Ent} (h : corOk c = true) (hy : entOk y = true) : fxIn (doneBy c i y) := by
 have hp := entOk_parts hy
 unfold doneBy fxAt
 split
 ·refine fxIn_trap ?_ hp.1
  unfold memAt
  split
  ·exact found_rng
  ·split
   ·exact writeT_rng
   ·exact rng0
 ·refine fxIn_work hp.1 (valueRaw_ok h) (valueRaw_ok h) ?_ hp.2.2.2.2.2.1
  unfold memAt
  split
  ·exact found_ok h
  ·split <;> exact noWord_ok
theorem do_ok (h : corOk c = true) : corOk (do_ c i).1 = true := by
 by_cases hr : ready c i = true
 ·rw [do_on h hr]
  have hk := corOk_iff.1 h
  have hp := ready_parts hr
  have hi := inR_iff.1 hp.2.1
  have hy := ent_ok h (show i.toNat < c.rob.length by omega)
  have hyp := entOk_parts hy
  have he := doneBy_ok (i := i) h hy
  have hall : ∀ x, x ∈ c.rob.set i.toNat ⟨(c.rob.getD i.toNat noEnt).pc, (c.rob.getD i.toNat noEnt).x, true, doneBy c i (c.rob.getD i.toNat noEnt), (c.rob.getD i.toNat noEnt).guess⟩ → entOk x = true := fun x hx => by
   rcases List.mem_or_eq_of_mem_set hx with hx | rfl
   ·exact hk.1 x hx
   ·exact entOk_mk hyp.1 hyp.2.1 hyp.2.2.2.2.2.1 he
  show corOk (doE c i.toNat (c.rob.getD i.toNat noEnt) (doneBy c i (c.rob.getD i.toNat noEnt))) = true
  unfold doE
  split
  ·exact corOk_iff.2 ⟨fun x hx => hall x (List.mem_of_mem_take hx), hk.2.1, by simp [withRob]; omega, hk.2.2.2⟩
  ·split
   ·exact corOk_iff.2 ⟨fun x hx => hall x (List.mem_of_mem_take hx), hk.2.1, by simp [withRob]; omega, he.1.2.1, hk.2.2.2.2⟩
   ·exact corOk_iff.2 ⟨hall, hk.2.1, by simp [withRob]; exact hk.2.2.1, hk.2.2.2⟩
 ·rw [do_idle h (by simpa using hr)]; exact h
theorem commit_ok (h : corOk c = true) : corOk (commit c).1 = true := by
 have hk := corOk_iff.1 h
 by_cases h1 : c.rob = [] ∨ (c.rob.getD 0 noEnt).done = false ∨ c.s.trap ≠ 0
 ·rw [commit_idle h h1]; exact h
 ·rw [commit_on h h1]
  have h0 : 0 < c.rob.length := Nat.pos_of_ne_zero fun g => h1 (Or.inl (List.eq_nil_of_length_eq_zero g))
  have hy := entOk_parts (ent_ok h h0)
  have hs := sttOk_iff.1 hk.2.1
  have hf : fxOk (c.rob.getD 0 noEnt).e := ⟨hy.2.2.1, hy.2.2.2.1, hy.2.2.2.2.1, inR_iff.1 hy.2.2.2.2.2.2.1⟩
  show corOk (commitE c (c.rob.getD 0 noEnt)) = true
  unfold commitE
  split
  ·exact corOk_iff.2 ⟨fun x hx => (by cases hx), sttOk_iff.2 ⟨hs.1, hs.2.1, hy.1, hs.2.2.2.1, hf.2.2.2⟩, by simp, hk.2.2.2⟩
  ·split
   ·exact corOk_iff.2 ⟨fun x hx => (by cases hx), apply_ok hk.2.1 hf, by simp, hf.2.1, learn_ok hk.2.2.2.2⟩
   ·exact corOk_iff.2 ⟨fun x hx => hk.1 x (List.mem_of_mem_drop hx), apply_ok hk.2.1 hf, by simp; omega, hk.2.2.2.1, learn_ok hk.2.2.2.2⟩
end
theorem retNE {P : Program} {H : Heap} {ρ : Env} {k : Nat} {Qv : AV → Heap → Prop} {rs : List ResultVar} {vs : List AV} {v w w' : AV} {h' H' : Heap} (szs keep m : List Nat) (hm : List.range k ++ keep = m) (h1 : aRes P H ρ rs = some vs) (ha : aResult vs = v) (hr : Ref H.length (H.length + szs.length) v w)
 (hH : H ++ szs.map (fun s => (⟨s, [], true, false⟩ : Blk)) = H') (h2 : m.Nodup) (h3 : Nat.ble k H'.length = true) (h4 : (keep.all fun id => match H'[id]? with | some b => b.live | none => false) = true)
 (hv : bor [] (idx m) fuel w = w') (hh : gcH m H' = h') (hq : Qv w' h') : retQ P rs k Qv .ret ρ H := by
 subst hm ha hv hh
 refine ret_norm szs keep vs w h1 hr hH h2 (Nat.le_of_ble_eq_true h3) (fun id hid => ?_) hq
 have := List.all_eq_true.1 h4 id hid
 split at this
 ·rename_i b hb
  exact ⟨b, hb, this⟩
 ·cases this
theorem inss_snoc {l : List Ins} {o r a b n : Int} : rows l ++ [.int .i64 o, .int .i64 r, .int .i64 a, .int .i64 b, .int .i64 n] = rows (l ++ [(⟨o, r, a, b, n⟩ : Ins)]) := by
 rw [rows_append, rows_one]; rfl
theorem words_put0 {xs : List Word} {w : Word} (h : 0 < xs.length) : putAt (rows xs) 0 [.int .i64 w.n, .bool w.is, .int .i64 w.key.base, .int .i64 w.key.top, .int .i64 w.key.perms, .int .i64 w.key.lock] = rows (xs.set 0 w) := by
 have := words_put (x := w) h
 rwa [Nat.zero_mul] at this
def sttNew : Stt := ⟨(List.replicate 8 noWord).set 0 (keyWord ⟨0, 24, 59, 0⟩ 0), keyWord ⟨0, 48, 4, 0⟩ 0, memNew, 0⟩
theorem memNew_ok : memOk memNew = true := memOk_iff.2 ⟨rfl, rfl, fun w hw => by rw [(List.mem_replicate.1 hw).2]; exact noWord_ok⟩
theorem sttNew_ok : sttOk sttNew = true :=
 sttOk_iff.2 ⟨set_okW (fun w hw => by rw [(List.mem_replicate.1 hw).2]; exact noWord_ok) keyWord_ok, rfl, keyWord_ok, memNew_ok, by decide⟩
end Go.Proofs.YtgpjgljgplngpaaGreatDoor.AM
namespace Go.Proofs.YtgpjgljgplngpaaGreatDoor.AM
open Go
def cutW (ws : List Word) (o : Nat) (xs : List Word) : Prop := ((rows ws).drop o).take (xs.length * 6) = rows xs ∧ o + xs.length * 6 ≤ (rows ws).length
def smallS (s : Stt) : Prop := s.regs.length ≤ 8 ∧ s.mem.words.length ≤ 24 ∧ s.mem.gone.length ≤ 24
def Stt.ownC (a b c p o : Nat) (s : Stt) : List AV := .slice a p s.regs.length 0 :: (s.pc.cells ++ [.slice b o s.mem.words.length 0, .slice c 0 s.mem.gone.length 0, .int .i64 s.trap])
theorem ownC_eq {a b c p o : Nat} {s : Stt} : s.ownC a b c p o = .slice a p s.regs.length 0 :: (s.pc.cells ++ [.slice b o s.mem.words.length 0, .slice c 0 s.mem.gone.length 0, .int .i64 s.trap]) := (rfl)
attribute [go_sem] ownC_eq
theorem opens_bytes {P : Program} {t e : TypeId} (ht : P.underlying t = some (.slice e)) (he : P.underlying e = some (.int .u8)) (hc : P.cellsOf e = 1) : Opens P t (fun bs : List UInt8 => [AV.sl bs.length bs.length (bytesV bs)]) (fun bs => bs.length ≤ 9223372036854775807) := by
 constructor
 intro H encH w held fuel cs x hx
 obtain ⟨xs, ⟨h1, hl⟩, h2, h3⟩ := (opens_slice (s := 1) (enc := fun n : Int => [AV.int .u8 n]) ht hc (by decide) (fun _ => rfl) (opens_int he)).run hx
 have e1 : bytesV (xs.map fun n => UInt8.ofNat n.toNat) = (xs.map fun n : Int => [AV.int .u8 n]).flatten := by
  clear h2 hl
  induction xs with
  | nil => rfl
  | cons n xs ih =>
   have hn := h1 n (List.mem_cons_self ..)
   simp only [Lit.wf, Bool.and_eq_true, decide_eq_true_eq] at hn
   have h0 : (0 : Int) ≤ n := hn.1
   have h255 : n ≤ 255 := hn.2
   have e2 : ((UInt8.ofNat n.toNat).toNat : Int) = n := by rw [UInt8.toNat_ofNat']; omega
   have := ih fun a ha => h1 a (List.mem_cons_of_mem _ ha)
   simp only [bytesV, List.map_cons, List.flatten_cons] at this ⊢
   rw [this, e2]
   rfl
 refine ⟨xs.map fun n => UInt8.ofNat n.toNat, ?_, ?_, h3⟩
 ·rw [List.length_map]; exact Nat.le_trans hl (by decide)
 ·show VRL _ _ _ [AV.sl (xs.map fun n => UInt8.ofNat n.toNat).length (xs.map fun n => UInt8.ofNat n.toNat).length (bytesV (xs.map fun n => UInt8.ofNat n.toNat))] _
  rw [List.length_map, e1]
  exact h2
def cutI (gs : List Int) (g : Nat) (xs : List Int) : Prop := ((ints gs).drop g).take xs.length = ints xs ∧ g + xs.length ≤ gs.length
def smallC (c : Cor) : Prop := smallS c.s ∧ c.rob.length ≤ 12 ∧ c.guesses.length ≤ 48
def Cor.ownC (a b c d e p o g : Nat) (x : Cor) : List AV := x.s.ownC a b c p o ++ .slice d 0 x.rob.length 0 :: (x.next.cells ++ [.bool x.stop, .slice e g x.guesses.length 0])
theorem ownCC_eq {a b c d e p o g : Nat} {x : Cor} : x.ownC a b c d e p o g = x.s.ownC a b c p o ++ .slice d 0 x.rob.length 0 :: (x.next.cells ++ [.bool x.stop, .slice e g x.guesses.length 0]) := (rfl)
attribute [go_sem] ownCC_eq
section
variable {xs : List Ent}
def ent0 (xs : List Ent) : Ent := xs.getD 0 noEnt
def withDone (x : Ent) (d : Bool) : Ent := ⟨x.pc, x.x, d, x.e, x.guess⟩
def withR (x : Ent) (n : Int) : Ent := ⟨x.pc, x.x, x.done, ⟨x.e.trap, n, x.e.val, x.e.next, x.e.adr, x.e.put, x.e.drop⟩, x.guess⟩
def withVal (x : Ent) (w : Word) : Ent := ⟨x.pc, x.x, x.done, ⟨x.e.trap, x.e.r, w, x.e.next, x.e.adr, x.e.put, x.e.drop⟩, x.guess⟩
end
section
variable {c : Cor} {l : List Ins} {xs : List Ent}
theorem commit_same (h : corOk c = true) (h2 : (commit c).2 = false) : commit c = (c, false) := by
 by_cases h1 : c.rob = [] ∨ (c.rob.getD 0 noEnt).done = false ∨ c.s.trap ≠ 0
 ·exact commit_idle h h1
 ·rw [commit_on h h1] at h2; cases h2
theorem commit_yes (h : corOk c = true) (h2 : (commit c).2 = true) : 0 < c.rob.length ∧ (c.rob.getD 0 noEnt).done = true ∧ (commit c).1 = commitE c (c.rob.getD 0 noEnt) := by
 by_cases h1 : c.rob = [] ∨ (c.rob.getD 0 noEnt).done = false ∨ c.s.trap ≠ 0
 ·rw [commit_idle h h1] at h2; cases h2
 ·rw [commit_on h h1]
  refine ⟨Nat.pos_of_ne_zero fun g => h1 (Or.inl (List.eq_nil_of_length_eq_zero g)), ?_, rfl⟩
  cases hd : (c.rob.getD 0 noEnt).done with
  | true => rfl
  | false => exact absurd (Or.inr (Or.inl hd)) h1
theorem pull_same (h : corOk c = true) (h2 : (pull l c).2 = false) : pull l c = (c, false) := by
 by_cases h1 : c.stop = true ∨ c.rob.length = 6 ∨ c.s.trap ≠ 0
 ·exact pull_idle h h1
 ·by_cases h3 : (fetch l c.next).2 = 0
  ·rw [pull_go h h1 h3] at h2; cases h2
  ·rw [pull_trap h h1 h3] at h2; cases h2
end
end Go.Proofs.YtgpjgljgplngpaaGreatDoor.AM
namespace Go.Proofs.YtgpjgljgplngpaaGreatDoor.AM
open Go
section
variable {α : Type} {p q : α → Bool} {d x : α} {xs ys : List α} {k n : Nat}
theorem lastAt_congr : ∀ k : Nat, (∀ j, j < k → p (xs.getD j d) = q (ys.getD j d)) → lastAt p d xs k = lastAt q d ys k
 | 0, _ => rfl
 | k + 1, h => by rw [lastAt, lastAt, h k (Nat.lt_succ_self k), lastAt_congr k fun j hj => h j (by omega)]
theorem lastAt_is : ∀ k : Nat, 0 ≤ lastAt p d xs k → p (xs.getD (lastAt p d xs k).toNat d) = true
 | 0, h => by rw [lastAt] at h; omega
 | k + 1, h => by
  rw [lastAt] at h ⊢
  by_cases hp : p (xs.getD k d) = true
  ·rw [if_pos hp, Int.toNat_natCast]; exact hp
  ·rw [if_neg hp] at h ⊢; exact lastAt_is k h
theorem lastAt_shift : ∀ k : Nat, lastAt p d (x :: xs) (k + 1) = if lastAt p d xs k < 0 then (if p x = true then 0 else -1) else lastAt p d xs k + 1
 | 0 => by
  show (if p ((x :: xs).getD 0 d) = true then ((0 : Nat) : Int) else -1) = if (-1 : Int) < 0 then (if p x = true then 0 else -1) else -1 + 1
  rw [if_pos (show (-1 : Int) < 0 by decide)]
  rfl
 | k + 1 => by
  have e1 : lastAt p d (x :: xs) (k + 1 + 1) = if p ((x :: xs).getD (k + 1) d) = true then ((k + 1 : Nat) : Int) else lastAt p d (x :: xs) (k + 1) := rfl
  have e2 : lastAt p d xs (k + 1) = if p (xs.getD k d) = true then (k : Int) else lastAt p d xs k := rfl
  have e3 : (x :: xs).getD (k + 1) d = xs.getD k d := by simp
  rw [e1, e2, e3]
  by_cases hp : p (xs.getD k d) = true
  ·rw [if_pos hp, if_pos hp, if_neg (by omega)]; rfl
  ·rw [if_neg hp, if_neg hp]; exact lastAt_shift k
theorem any_take_iff (hk : k ≤ xs.length) : (xs.take k).any p = false ↔ ∀ j, j < k → p (xs.getD j d) = false := by
 constructor
 ·intro h j hj
  cases hp : p (xs.getD j d) with
  | false => rfl
  | true => rw [any_at hj (by omega) hp] at h; cases h
 ·intro h
  rw [List.any_eq_false]
  intro y hy
  obtain ⟨j, hj, rfl⟩ := List.mem_take_iff_getElem.1 hy
  have hj2 : j < k := by omega
  have hj3 : j < xs.length := by omega
  have := h j hj2
  rw [List.getD_eq_getElem?_getD, List.getElem?_eq_getElem hj3] at this
  simpa using this
theorem upTo_nat (h : k ≤ n) : upTo (k : Int) n = k := by unfold upTo; omega
end
section
variable {l : List Ins} {c c' : Cor} {s : Stt} {x y z : Ent} {i i' : Ins} {pc a b g by_ w : Word} {n r : Int} {k : Nat}
def Turn (x y : Ent) : Prop := y = x ∨ (x.done = false ∧ y.x = x.x ∧ setBy y = setBy x)
theorem turn_set (h : Turn x y) : setBy y = setBy x := by
 rcases h with rfl | h
 ·rfl
 ·exact h.2.2
def Turns (c c' : Cor) (k : Nat) : Prop := k ≤ c.rob.length ∧ k ≤ c'.rob.length ∧ ∀ j, j < k → Turn (c.rob.getD j noEnt) (c'.rob.getD j noEnt)
theorem src_turn (h : Turns c c' k) : source c'.rob k r = source c.rob k r := by
 unfold source
 split
 ·rfl
 ·rw [upTo_nat h.1, upTo_nat h.2.1]
  exact lastAt_congr k fun j hj => by simp only [turn_set (h.2.2 j hj)]
theorem src_lt (rob : List Ent) (k : Nat) (r : Int) : source rob k r < k := by
 unfold source
 split
 ·omega
 ·have := lastAt_lt (p := fun x => decide (setBy x = r)) (d := noEnt) (xs := rob) (upTo k rob.length)
  unfold upTo at this ⊢
  omega
theorem val_turn (h : Turns c c' k) (hs : c'.s.regs = c.s.regs) (hv : (valueRaw c k r).2 = true) : valueRaw c' k r = valueRaw c k r := by
 have he := src_turn (r := r) h
 by_cases h1 : source c.rob k r < 0
 ·rw [raw_reg h1, raw_reg (by rw [he]; exact h1)]
  unfold reg
  rw [hs]
 ·obtain ⟨m, hm, hml⟩ := source_nat h1
  have hlt := src_lt c.rob k r
  cases hd : (c.rob.getD m noEnt).done with
  | false => rw [raw_wait hm hd] at hv; cases hv
  | true =>
   have h2 : c'.rob.getD m noEnt = c.rob.getD m noEnt := by
    rcases h.2.2 m (by omega) with e | e
    ·exact e
    ·rw [hd] at e; cases e.1
   rw [raw_done hm hd, raw_done (he.trans hm) (by rw [h2]; exact hd), h2]
def Known (c : Cor) (k : Nat) (x : Ins) : Prop := (hasA x.op = true → (valueRaw c k x.a).2 = true) ∧ (hasB x.op = true → (valueRaw c k x.b).2 = true) ∧ (x.op = 10 → (c.rob.take k).any waits = false)
def likeMem (m m' : Mem) : Prop := m'.words.length = m.words.length ∧ m'.gone = m.gone ∧ ∀ by_ n, read m' by_ n = read m by_ n
theorem likeMem_refl {m : Mem} : likeMem m m := ⟨rfl, rfl, fun _ _ => rfl⟩
theorem like_filt {m m' : Mem} (h : m'.gone = m.gone) : filt m' w = filt m w := by unfold filt; rw [h]
theorem like_write {m m' : Mem} (h : m'.words.length = m.words.length) : writeT m' by_ n w = writeT m by_ n w := by unfold writeT; rw [h]
theorem waits_turn (h : Turn x y) (hw : waits x = false) : waits y = false := by
 rcases h with rfl | ⟨hd, hx, _⟩
 ·exact hw
 ·simp only [waits, hd, Bool.not_false, Bool.and_true, Bool.or_eq_false_iff, decide_eq_false_iff_not] at hw
  simp only [waits, hx, Bool.or_eq_false_iff, Bool.and_eq_false_iff, decide_eq_false_iff_not]
  exact ⟨Or.inl hw.1, hw.2⟩
theorem puts_turn (h : Turn x y) (hw : waits x = false) : puts n y = puts n x ∧ (puts n x = true → y = x) := by
 rcases h with rfl | ⟨hd, hx, _⟩
 ·exact ⟨rfl, fun _ => rfl⟩
 ·simp only [waits, hd, Bool.not_false, Bool.and_true, Bool.or_eq_false_iff, decide_eq_false_iff_not] at hw
  have p1 : puts n y = false := by simp [puts, hx, hw.1]
  have p2 : puts n x = false := by simp [puts, hw.1]
  exact ⟨by rw [p1, p2], fun g => by rw [p2] at g; cases g⟩
theorem found_turn (h : Turns c c' k) (hm : likeMem c.s.mem c'.s.mem) (hw : (c.rob.take k).any waits = false) : found c' k by_ n = found c k by_ n := by
 have hw2 := (any_take_iff (d := noEnt) h.1).1 hw
 have hp : lastAt (puts n) noEnt c'.rob (upTo k c'.rob.length) = lastAt (puts n) noEnt c.rob (upTo k c.rob.length) := by
  rw [upTo_nat h.1, upTo_nat h.2.1]
  exact lastAt_congr k fun j hj => (puts_turn (h.2.2 j hj) (hw2 j hj)).1
 unfold found
 rw [hm.2.2, hp]
 split
 ·rfl
 ·split
  ·rfl
  ·rename_i h1 h2
   have h3 := lastAt_is (p := puts n) (d := noEnt) (xs := c.rob) (upTo k c.rob.length) (by omega)
   have h4 := lastAt_lt (p := puts n) (d := noEnt) (xs := c.rob) (upTo k c.rob.length)
   rw [upTo_nat h.1] at h2 h3 h4 ⊢
   have hj : (lastAt (puts n) noEnt c.rob k).toNat < k := by omega
   rw [(puts_turn (h.2.2 _ hj) (hw2 _ hj)).2 h3, like_filt hm.2.1]
theorem fx_parts {a a' b b' : Word} {j j' : Int} (ha : hasA i.op = true → a' = a) (hb : hasB i.op = true → b' = b) (hf : i.op = 10 → ∀ by_ n, found c' j' by_ n = found c j by_ n) (hw : ∀ by_ n w, writeT c'.s.mem by_ n w = writeT c.s.mem by_ n w) :
 fxAt c' j' i pc a' b' = fxAt c j i pc a b := by
 by_cases h : inR i.op 1 15 = true
 ·rcases op_cases h with e | e | e | e | e | e | e | e | e | e | e | e | e | e | e
  ·simp [fxAt, memAt, work, valueOf, e]
  ·obtain rfl := ha (by rw [e]; decide)
   obtain rfl := hb (by rw [e]; decide)
   simp [fxAt, memAt, work, valueOf, e]
  ·obtain rfl := ha (by rw [e]; decide)
   simp [fxAt, memAt, work, valueOf, e]
  ·obtain rfl := ha (by rw [e]; decide)
   obtain rfl := hb (by rw [e]; decide)
   simp [fxAt, memAt, work, valueOf, e]
  ·obtain rfl := ha (by rw [e]; decide)
   obtain rfl := hb (by rw [e]; decide)
   simp [fxAt, memAt, work, valueOf, e]
  ·obtain rfl := ha (by rw [e]; decide)
   obtain rfl := hb (by rw [e]; decide)
   simp [fxAt, memAt, work, valueOf, e]
  ·obtain rfl := ha (by rw [e]; decide)
   obtain rfl := hb (by rw [e]; decide)
   simp [fxAt, memAt, work, valueOf, e]
  ·obtain rfl := ha (by rw [e]; decide)
   obtain rfl := hb (by rw [e]; decide)
   simp [fxAt, memAt, work, valueOf, e]
  ·obtain rfl := ha (by rw [e]; decide)
   simp [fxAt, memAt, work, valueOf, e]
  ·obtain rfl := ha (by rw [e]; decide)
   simp [fxAt, memAt, work, valueOf, e, hf e]
  ·obtain rfl := ha (by rw [e]; decide)
   obtain rfl := hb (by rw [e]; decide)
   simp [fxAt, memAt, work, valueOf, e, hw]
  ·obtain rfl := ha (by rw [e]; decide)
   simp [fxAt, memAt, work, valueOf, e]
  ·obtain rfl := ha (by rw [e]; decide)
   simp [fxAt, memAt, work, valueOf, e]
  ·obtain rfl := ha (by rw [e]; decide)
   simp [fxAt, memAt, work, valueOf, e]
  ·simp [fxAt, memAt, work, valueOf, e]
 ·have h0 : has i.op = 0 := by rw [has, if_neg h]
  have hs : sets i = -1 := by
   unfold sets hasR
   rw [h0]
   rfl
  rw [inR_iff] at h
  have e10 : ¬ i.op = 10 := by omega
  have e11 : ¬ i.op = 11 := by omega
  have e12 : ¬ i.op = 12 := by omega
  have e13 : ¬ i.op = 13 := by omega
  have e14 : ¬ i.op = 14 := by omega
  have e15 : ¬ i.op = 15 := by omega
  simp [fxAt, memAt, work, e10, e11, e12, e13, e14, e15, hs]
theorem eff_turn (h : Turns c c' k) (hs : c'.s.regs = c.s.regs) (hm : likeMem c.s.mem c'.s.mem) (hk : Known c k y.x) : Known c' k y.x ∧ doneBy c' k y = doneBy c k y := by
 refine ⟨⟨fun g => ?_, fun g => ?_, fun g => ?_⟩, ?_⟩
 ·rw [val_turn h hs (hk.1 g)]; exact hk.1 g
 ·rw [val_turn h hs (hk.2.1 g)]; exact hk.2.1 g
 ·have := (any_take_iff (d := noEnt) h.1).1 (hk.2.2 g)
  exact (any_take_iff (d := noEnt) h.2.1).2 fun j hj => waits_turn (h.2.2 j hj) (this j hj)
 ·exact fx_parts (fun g => by rw [val_turn h hs (hk.1 g)]) (fun g => by rw [val_turn h hs (hk.2.1 g)]) (fun g _ _ => found_turn h hm (hk.2.2 g)) (fun _ _ _ => like_write hm.1)
structure Shift (c c' : Cor) (x : Ent) : Prop where
 rob : c.rob = x :: c'.rob
 dn : x.done = true
 tr : x.e.trap = 0
 dr : ¬ 0 ≤ x.e.drop
 ad : x.x.op = 11 ∨ x.e.adr = -1
 s : c'.s = applyFx c.s x.e
 ok : sttOk c.s = true
theorem sh_gone (h : Shift c c' x) : c'.s.mem.gone = c.s.mem.gone := by
 rw [h.s]
 show (if inR x.e.drop 0 23 = true then c.s.mem.gone.set x.e.drop.toNat true else c.s.mem.gone) = _
 rw [if_neg (fun g => h.dr (inR_iff.1 g).1)]
theorem sh_words (h : Shift c c' x) : c'.s.mem.words = if inR x.e.adr 0 23 = true then c.s.mem.words.set x.e.adr.toNat x.e.put else c.s.mem.words := by rw [h.s]; rfl
theorem sh_regs (h : Shift c c' x) : c'.s.regs = if inR x.e.r 0 7 = true then c.s.regs.set x.e.r.toNat x.e.val else c.s.regs := by rw [h.s]; rfl
theorem sh_wlen (h : Shift c c' x) : c'.s.mem.words.length = c.s.mem.words.length := by rw [sh_words h]; split <;> simp
theorem sh_get (h : Shift c c' x) {m : Nat} : c.rob.getD (m + 1) noEnt = c'.rob.getD m noEnt := by rw [h.rob]; simp
theorem sh_len (h : Shift c c' x) : c.rob.length = c'.rob.length + 1 := by rw [h.rob]; simp
theorem sh_src (h : Shift c c' x) (hk : k ≤ c'.rob.length) (hr : 0 ≤ r) : source c.rob ((k + 1 : Nat) : Int) r = if source c'.rob k r < 0 then (if x.e.r = r then 0 else -1) else source c'.rob k r + 1 := by
 unfold source
 have hr0 : ¬ r < 0 := by omega
 simp only [if_neg hr0]
 rw [upTo_nat (by rw [sh_len h]; omega), upTo_nat hk, h.rob, lastAt_shift]
 have : setBy x = x.e.r := by rw [setBy, if_pos h.dn]
 simp only [this, decide_eq_true_eq]
theorem val_shift (h : Shift c c' x) (hk : k ≤ c'.rob.length) (hr : inR r 0 7 = true) : valueRaw c' k r = valueRaw c ((k + 1 : Nat) : Int) r := by
 have hr2 := inR_iff.1 hr
 have hs := sh_src h hk hr2.1
 have h8 := (sttOk_iff.1 h.ok).2.1
 by_cases h1 : source c'.rob k r < 0
 ·rw [if_pos h1] at hs
  rw [raw_reg h1]
  by_cases h2 : x.e.r = r
  ·rw [if_pos h2] at hs
   have h0 : c.rob.getD 0 noEnt = x := by rw [h.rob]; rfl
   rw [raw_done (m := 0) (by rw [hs]; rfl) (by rw [h0]; exact h.dn), h0]
   unfold reg
   rw [sh_regs h, h2, if_pos hr]
   congr 1
   have : r.toNat < c.s.regs.length := by omega
   simp [this]
  ·rw [if_neg h2] at hs
   rw [raw_reg (c := c) (by omega)]
   unfold reg
   rw [sh_regs h]
   split
   ·rename_i g
    have := inR_iff.1 g
    rw [List.getD_eq_getElem?_getD, List.getElem?_set_ne (by omega), ← List.getD_eq_getElem?_getD]
   ·rfl
 ·rw [if_neg h1] at hs
  obtain ⟨m, hm, hml⟩ := source_nat h1
  have hs2 : source c.rob ((k + 1 : Nat) : Int) r = ((m + 1 : Nat) : Int) := by rw [hs, hm]; rfl
  have hg := sh_get h (m := m)
  cases hd : (c'.rob.getD m noEnt).done with
  | false => rw [raw_wait hm hd, raw_wait hs2 (by rw [hg]; exact hd)]
  | true => rw [raw_done hm hd, raw_done hs2 (by rw [hg]; exact hd), hg]
theorem sh_readT (h : Shift c c' x) : readT c'.s.mem by_ n = readT c.s.mem by_ n := by unfold readT; rw [sh_wlen h]
theorem read_code {m : Mem} : (read m by_ n).2 = readT m by_ n := by
 unfold read
 split
 ·rename_i h; exact h.symm
 ·rfl
theorem found_shift (h : Shift c c' x) (hk : k ≤ c'.rob.length) : found c' k by_ n = found c ((k + 1 : Nat) : Int) by_ n := by
 have hl : lastAt (puts n) noEnt c.rob (upTo ((k + 1 : Nat) : Int) c.rob.length) = if lastAt (puts n) noEnt c'.rob k < 0 then (if puts n x = true then 0 else -1) else lastAt (puts n) noEnt c'.rob k + 1 := by
  rw [upTo_nat (by rw [sh_len h]; omega), h.rob, lastAt_shift]
 have hf : ∀ w, filt c'.s.mem w = filt c.s.mem w := fun w => like_filt (sh_gone h)
 have h24 := (memOk_iff.1 (sttOk_iff.1 h.ok).2.2.2.1).1
 by_cases h0 : readT c.s.mem by_ n = 0
 ·have h0' : readT c'.s.mem by_ n = 0 := by rw [sh_readT h]; exact h0
  have hn := inR_iff.1 (read_in (m := c.s.mem) h0)
  have c1 : ¬ (read c'.s.mem by_ n).2 ≠ 0 := by rw [read_code]; simpa using h0'
  have c2 : ¬ (read c.s.mem by_ n).2 ≠ 0 := by rw [read_code]; simpa using h0
  by_cases h1 : lastAt (puts n) noEnt c'.rob k < 0
  ·rw [if_pos h1] at hl
   have hge := (lastAt_lt (p := puts n) (d := noEnt) (xs := c'.rob) k).1
   rw [found_miss c1 (by rw [upTo_nat hk]; omega), read_ok h0', hf]
   by_cases h2 : puts n x = true
   ·rw [if_pos h2] at hl
    have h3 : c.rob.getD 0 noEnt = x := by rw [h.rob]; rfl
    rw [found_hit (q := 0) c2 (by rw [hl]; rfl), h3]
    simp only [puts, Bool.and_eq_true, decide_eq_true_eq] at h2
    have hw : c'.s.mem.words.getD n.toNat noWord = x.e.put := by
     rw [sh_words h, h2.2, if_pos (inR_iff.2 (by omega))]
     have : n.toNat < c.s.mem.words.length := by omega
     simp [this]
    rw [hw]
   ·rw [if_neg h2] at hl
    rw [found_miss c2 hl, read_ok h0]
    have hw : c'.s.mem.words.getD n.toNat noWord = c.s.mem.words.getD n.toNat noWord := by
     rw [sh_words h]
     split
     ·rename_i g
      have g2 := inR_iff.1 g
      have hne : ¬ x.e.adr = n := by
       intro e
       apply h2
       have h11 : x.x.op = 11 := by
        rcases h.ad with h5 | h5
        ·exact h5
        ·omega
       simp [puts, h11, h.dn, h.tr, e]
      rw [List.getD_eq_getElem?_getD, List.getElem?_set_ne (by omega), ← List.getD_eq_getElem?_getD]
     ·rfl
    rw [hw]
  ·rw [if_neg h1] at hl
   obtain ⟨m, hm⟩ := Int.eq_ofNat_of_zero_le (Int.not_lt.1 h1)
   rw [found_hit (q := m) c1 (by rw [upTo_nat hk]; exact hm), found_hit (q := m + 1) c2 (by rw [hl, hm]; rfl), sh_get h, hf]
 ·have h0' : ¬ readT c'.s.mem by_ n = 0 := by rw [sh_readT h]; exact h0
  rw [found_no (by rw [read_code]; exact h0'), found_no (by rw [read_code]; exact h0), read_code, read_code, sh_readT h]
theorem eff_shift (h : Shift c c' x) (hk : k ≤ c'.rob.length) (hy : inR y.x.a 0 7 = true ∧ inR y.x.b 0 7 = true) (hkn : Known c (k + 1) y.x) : Known c' k y.x ∧ doneBy c' k y = doneBy c ((k + 1 : Nat) : Int) y := by
 have ha := val_shift h hk hy.1
 have hb := val_shift h hk hy.2
 refine ⟨⟨fun g => ?_, fun g => ?_, fun g => ?_⟩, ?_⟩
 ·rw [ha]; exact hkn.1 g
 ·rw [hb]; exact hkn.2.1 g
 ·have := (any_take_iff (d := noEnt) (by rw [sh_len h]; omega)).1 (hkn.2.2 g)
  exact (any_take_iff (d := noEnt) hk).2 fun j hj => by rw [← sh_get h]; exact this (j + 1) (by omega)
 ·exact fx_parts (fun _ => by rw [ha]) (fun _ => by rw [hb]) (fun _ _ _ => found_shift h hk) (fun _ _ _ => like_write (sh_wlen h))
theorem filt_bare {m : Mem} : filt m (bare w) = bare w := by rw [filt, if_neg]; rintro ⟨h, _⟩; cases h
theorem bare_bare : bare (bare w) = bare w := by
 show plain (low w.n) = plain w.n
 unfold plain
 rw [low_low]
theorem filt_taken {m : Mem} : filt m (taken by_ (filt m w)) = filt m (taken by_ w) := by
 by_cases h : w.is = true ∧ inR w.key.base 0 (m.gone.length - 1) = true ∧ m.gone.getD w.key.base.toNat false = true
 ·have h1 : filt m w = bare w := by rw [filt, if_pos h]
  rw [h1]
  unfold taken
  split
  ·rw [bare_bare]
  ·rw [filt_bare, h1]
 ·have h1 : filt m w = w := by rw [filt, if_neg h]
  rw [h1]
theorem sweep_like {m : Mem} {q : Int} (h : memOk m = true) : likeMem m (sweep m q) := by
 cases hq : inR q 0 23 with
 | false => rw [sweep_out h hq]; exact likeMem_refl
 | true =>
  rw [sweep_in h hq]
  have hq2 := inR_iff.1 hq
  have h24 := (memOk_iff.1 h).1
  have hl : (m.words.set q.toNat (filt m (m.words.getD q.toNat noWord))).length = m.words.length := by simp
  have ht : ∀ by_ n, readT ⟨m.words.set q.toNat (filt m (m.words.getD q.toNat noWord)), m.gone⟩ by_ n = readT m by_ n := by
   intro by_ n
   unfold readT
   rw [hl]
  have hf : ∀ w, filt ⟨m.words.set q.toNat (filt m (m.words.getD q.toNat noWord)), m.gone⟩ w = filt m w := fun w => like_filt rfl
  refine ⟨hl, rfl, fun by_ n => ?_⟩
  by_cases h0 : readT m by_ n = 0
  ·rw [read_ok h0, read_ok ((ht by_ n).trans h0), hf]
   congr 1
   by_cases e : n.toNat = q.toNat
   ·have : q.toNat < m.words.length := by omega
    have hg : (m.words.set q.toNat (filt m (m.words.getD q.toNat noWord))).getD n.toNat noWord = filt m (m.words.getD n.toNat noWord) := by rw [e]; simp [this]
    rw [hg]
    exact filt_taken
   ·have hg : (m.words.set q.toNat (filt m (m.words.getD q.toNat noWord))).getD n.toNat noWord = m.words.getD n.toNat noWord := by
     rw [List.getD_eq_getElem?_getD, List.getElem?_set_ne (fun g => e g.symm), ← List.getD_eq_getElem?_getD]
    rw [hg]
  ·rw [read_no h0, read_no (by rw [ht]; exact h0), ht]
end
section
variable {l : List Ins} {c c' d : Cor} {s : Stt} {x y z : Ent} {p : Pik} {pc a b g by_ w nx : Word} {n r i : Int} {k m t : Nat} {e : Fx} {st : Bool} {i' : Ins}
def nxt (x : Ent) : Word := if x.done = true then x.e.next else x.guess
def pcAt (c : Cor) (k : Nat) : Word := if k = 0 then c.s.pc else nxt (c.rob.getD (k - 1) noEnt)
def trapD (x : Ent) : Prop := x.done = true ∧ ¬ x.e.trap = 0
def fetOk (l : List Ins) (x : Ent) : Prop := ((fetch l x.pc).2 = 0 ∧ x.x = (fetch l x.pc).1) ∨ (¬ (fetch l x.pc).2 = 0 ∧ x.done = true ∧ x.x = noIns ∧ x.e = fxTrap (fetch l x.pc).2 x.pc)
def effOk (l : List Ins) (c : Cor) (k : Nat) (x : Ent) : Prop := x.done = true → (fetch l x.pc).2 = 0 → Known c k x.x ∧ x.e = doneBy c k x
structure CInv (l : List Ins) (c : Cor) : Prop where
 ok : corOk c = true
 fet : ∀ k, k < c.rob.length → fetOk l (c.rob.getD k noEnt)
 eff : ∀ k, k < c.rob.length → effOk l c k (c.rob.getD k noEnt)
 pcs : c.s.trap = 0 → ∀ k, k < c.rob.length → (c.rob.getD k noEnt).pc = pcAt c k
 nex : c.s.trap = 0 → c.stop = false → c.next = pcAt c c.rob.length
 mid : ∀ k, k < c.rob.length → trapD (c.rob.getD k noEnt) → k + 1 = c.rob.length ∧ c.stop = true
 stp : c.s.trap = 0 → c.stop = true → 0 < c.rob.length ∧ trapD (c.rob.getD (c.rob.length - 1) noEnt)
 trp : ¬ c.s.trap = 0 → c.rob = []
theorem inv_new (h : sttOk s = true) : CInv l (corNew s) := by
 have hk := corNew_ok h
 rw [corNew_go h] at hk ⊢
 exact ⟨hk, fun k hk => absurd hk (Nat.not_lt_zero _), fun k hk => absurd hk (Nat.not_lt_zero _), fun _ k hk => absurd hk (Nat.not_lt_zero _), fun _ _ => rfl, fun k hk => absurd hk (Nat.not_lt_zero _), fun _ g => (by cases g), fun _ => rfl⟩
theorem getD_snoc {xs : List Ent} (h : k < xs.length) : (xs ++ [z]).getD k noEnt = xs.getD k noEnt := by
 rw [List.getD_eq_getElem?_getD, List.getElem?_append_left h, ← List.getD_eq_getElem?_getD]
theorem getD_last {xs : List Ent} : (xs ++ [z]).getD xs.length noEnt = z := by simp
theorem work_trap0 (h : (work i' pc a b g).trap = 0) : (work i' pc a b g).r = sets i' ∧ (i'.op = 11 ∨ (work i' pc a b g).adr = -1) := by
 unfold work at h ⊢
 split
 ·rename_i e
  exact ⟨by unfold sets; rw [show hasR i'.op = false by rw [e]; decide]; rfl, Or.inl e⟩
 ·rename_i e11
  rw [if_neg e11] at h
  split
  ·rename_i e
   rw [if_pos e] at h
   split
   ·rename_i g1
    rw [if_pos g1] at h
    exact absurd h g1
   ·exact ⟨by unfold sets; rw [show hasR i'.op = true by rw [e]; decide]; rfl, Or.inr rfl⟩
  ·rename_i e12
   rw [if_neg e12] at h
   split
   ·rename_i e
    exact ⟨by unfold sets; rw [show hasR i'.op = false by rw [e]; decide]; rfl, Or.inr rfl⟩
   ·rename_i e13
    rw [if_neg e13] at h
    split
    ·rename_i e
     rw [if_pos e] at h
     split
     ·rename_i g1
      rw [if_pos g1] at h
      exact absurd h g1
     ·exact ⟨by unfold sets; rw [show hasR i'.op = false by rw [e]; decide]; rfl, Or.inr rfl⟩
    ·rename_i e14
     rw [if_neg e14] at h
     split
     ·rename_i e
      rw [if_pos e] at h
      cases h
     ·exact ⟨rfl, Or.inr rfl⟩
theorem fxAt_trap0 (h : (fxAt c i i' pc a b).trap = 0) : (fxAt c i i' pc a b).r = sets i' ∧ (i'.op = 11 ∨ (fxAt c i i' pc a b).adr = -1) := by
 by_cases h0 : (memAt c i i' a b).2 = 0
 ·rw [fxAt_go h0] at h ⊢
  exact work_trap0 h
 ·rw [fxAt_trap h0] at h
  exact absurd h h0
theorem ready_known (h : ready c m = true) : Known c m (c.rob.getD m noEnt).x := by
 obtain ⟨h1, h2, h3⟩ := ready_parts h
 have := ready_eq ⟨h1, h2, h3⟩
 rw [h] at this
 rw [Int.toNat_natCast] at this
 have h4 := this.symm
 simp only [Bool.and_eq_true, Bool.or_eq_true, Bool.not_eq_true', decide_eq_false_iff_not] at h4
 refine ⟨fun g => ?_, fun g => ?_, fun g => ?_⟩
 ·rcases h4.1.1 with h5 | h5
  ·rw [g] at h5; cases h5
  ·exact h5
 ·rcases h4.1.2 with h5 | h5
  ·rw [g] at h5; cases h5
  ·exact h5
 ·rcases h4.2 with h5 | h5
  ·exact absurd g h5
  ·exact h5
theorem pick_idx (h : inR i 0 (c.rob.length - 1) = true) : ∃ m : Nat, i = m ∧ m < c.rob.length := by
 have := inR_iff.1 h
 exact ⟨i.toNat, by omega, by omega⟩
theorem do_aux (h : CInv l c) (hm : m < c.rob.length) (hy : c.rob.getD m noEnt = y) (hd : y.done = false) (hk : Known c m y.x) (he : e = doneBy c m y) (ht : m < t ∧ t ≤ c.rob.length)
 (hc : (¬ e.trap = 0 ∧ t = m + 1 ∧ st = true) ∨ (e.trap = 0 ∧ t = m + 1 ∧ nx = e.next ∧ st = false) ∨ (e.trap = 0 ∧ t = c.rob.length ∧ e.next = y.guess ∧ nx = c.next ∧ st = c.stop))
 (hd' : d = withRob c ((c.rob.set m ⟨y.pc, y.x, true, e, y.guess⟩).take t) nx st) (hok : corOk d = true) : CInv l d := by
 have hr : d.rob = (c.rob.set m ⟨y.pc, y.x, true, e, y.guess⟩).take t := by rw [hd']; rfl
 have hs : d.s = c.s := by rw [hd']; rfl
 have hn : d.next = nx := by rw [hd']; rfl
 have hst : d.stop = st := by rw [hd']; rfl
 have hl : d.rob.length = t := by rw [hr, List.length_take, List.length_set]; omega
 have hg1 : d.rob.getD m noEnt = ⟨y.pc, y.x, true, e, y.guess⟩ := by
  rw [hr, List.getD_eq_getElem?_getD, List.getElem?_take_of_lt ht.1, List.getElem?_set_self hm]; rfl
 have hg2 : ∀ j, j < t → ¬ j = m → d.rob.getD j noEnt = c.rob.getD j noEnt := fun j hj hne => by
  rw [hr, List.getD_eq_getElem?_getD, List.getElem?_take_of_lt hj, List.getElem?_set_ne (fun g => hne g.symm), ← List.getD_eq_getElem?_getD]
 have hfy : (fetch l y.pc).2 = 0 ∧ y.x = (fetch l y.pc).1 := by
  rcases hy ▸ h.fet m hm with g | g
  ·exact g
  ·rw [hd] at g; cases g.2.1
 have htr : c.s.trap = 0 := by
  by_cases g : c.s.trap = 0
  ·exact g
  ·have := h.trp g; rw [this] at hm; cases hm
 have hlow : ∀ k, k ≤ m → Turns c d k := fun k hk => ⟨by omega, by omega, fun j hj => Or.inl (hg2 j (by omega) (by omega))⟩
 have hset : e.trap = 0 → Turn y ⟨y.pc, y.x, true, e, y.guess⟩ := fun g => Or.inr ⟨hd, rfl, by
  rw [setBy, setBy, if_pos rfl, hd, if_neg (by decide)]
  subst he
  exact (fxAt_trap0 g).1⟩
 have hall : ∀ k, k ≤ t → (k ≤ m ∨ e.trap = 0) → Turns c d k := fun k hk hk2 => ⟨by omega, by omega, fun j hj => by
  by_cases g : j = m
  ·subst g
   rw [hg1, hy]
   rcases hk2 with g | g
   ·omega
   ·exact hset g
  ·exact Or.inl (hg2 j (by omega) g)⟩
 have hmem : likeMem c.s.mem d.s.mem := by rw [hs]; exact likeMem_refl
 have hregs : d.s.regs = c.s.regs := by rw [hs]
 have hpc : ∀ k, k < t → pcAt d k = pcAt c k := fun k hk => by
  unfold pcAt
  rw [hs]
  split
  ·rfl
  ·by_cases g : k - 1 = m
   ·have hgo : e.next = y.guess := by
     rcases hc with g1 | g1 | g1
     ·omega
     ·omega
     ·exact g1.2.2.1
    rw [g, hg1, hy]
    unfold nxt
    rw [if_pos rfl, hd, if_neg (by decide)]
    exact hgo
   ·rw [hg2 (k - 1) (by omega) g]
 have hnm : nxt (d.rob.getD m noEnt) = e.next := by rw [hg1]; rfl
 have hmt : trapD (d.rob.getD m noEnt) ↔ ¬ e.trap = 0 := by rw [hg1]; exact ⟨fun g => g.2, fun g => ⟨rfl, g⟩⟩
 refine ⟨hok, ?_, ?_, ?_, ?_, ?_, ?_, ?_⟩
 ·intro k hk
  rw [hl] at hk
  by_cases g : k = m
  ·rw [g, hg1]; exact Or.inl hfy
  ·rw [hg2 k hk g]; exact h.fet k (by omega)
 ·intro k hk
  rw [hl] at hk
  by_cases g : k = m
  ·subst g
   rw [hg1]
   intro _ _
   have := eff_turn (y := y) (hlow k (Nat.le_refl _)) hregs hmem hk
   exact ⟨this.1, by rw [he]; exact this.2.symm⟩
  ·rw [hg2 k hk g]
   intro hdk hfk
   have h1 := h.eff k (by omega) hdk hfk
   have := eff_turn (y := c.rob.getD k noEnt) (hall k (by omega) (by
    by_cases g2 : k ≤ m
    ·exact Or.inl g2
    ·rcases hc with g1 | g1 | g1
     ·omega
     ·exact Or.inr g1.1
     ·exact Or.inr g1.1)) hregs hmem h1.1
   exact ⟨this.1, h1.2.trans this.2.symm⟩
 ·intro _ k hk
  rw [hl] at hk
  rw [hpc k hk]
  by_cases g : k = m
  ·rw [g, hg1]
   have := h.pcs htr m hm
   rw [hy] at this
   exact this
  ·rw [hg2 k hk g]; exact h.pcs htr k (by omega)
 ·intro _ hs0
  rw [hn, hl]
  rcases hc with g1 | g1 | g1
  ·rw [hst, g1.2.2] at hs0; cases hs0
  ·rw [g1.2.2.1, g1.2.1]
   unfold pcAt
   rw [if_neg (by omega), Nat.add_sub_cancel, hnm]
  ·have := h.nex htr (by rw [← hs0, hst, g1.2.2.2.2])
   rw [g1.2.2.2.1, this, g1.2.1]
   unfold pcAt
   rw [if_neg (by omega), if_neg (by omega)]
   by_cases g : c.rob.length - 1 = m
   ·rw [g, hg1, hy]
    unfold nxt
    rw [if_pos rfl, hd, if_neg (by decide), g1.2.2.1]
   ·rw [hg2 _ (by omega) g]
 ·intro k hk htd
  rw [hl] at hk ⊢
  by_cases g : k = m
  ·subst g
   have := hmt.1 htd
   rcases hc with g1 | g1 | g1
   ·rw [hst, g1.2.2]; exact ⟨g1.2.1.symm, rfl⟩
   ·exact absurd g1.1 this
   ·exact absurd g1.1 this
  ·rw [hg2 k hk g] at htd
   have h1 := h.mid k (by omega) htd
   rcases hc with g1 | g1 | g1
   ·omega
   ·omega
   ·rw [hst, g1.2.2.2.2]; exact ⟨by omega, h1.2⟩
 ·intro _ hs1
  rw [hl]
  rw [hst] at hs1
  rcases hc with g1 | g1 | g1
  ·rw [g1.2.1, Nat.add_sub_cancel]
   exact ⟨by omega, hmt.2 g1.1⟩
  ·rw [g1.2.2.2] at hs1; cases hs1
  ·have h1 := h.stp htr (by rw [← g1.2.2.2.2]; exact hs1)
   rw [g1.2.1]
   refine ⟨h1.1, ?_⟩
   by_cases g : c.rob.length - 1 = m
   ·have h2 := h1.2.1
    rw [g, hy, hd] at h2; cases h2
   ·rw [hg2 _ (by omega) g]; exact h1.2
 ·intro g
  rw [hs] at g
  exact absurd htr g
theorem do_s (h : corOk c = true) : (do_ c i).1.s = c.s := by
 by_cases hr : ready c i = true
 ·rw [do_on h hr]
  unfold doE
  split
  ·rfl
  ·split <;> rfl
 ·rw [do_idle h (by simpa using hr)]
theorem do_inv (h : CInv l c) : CInv l (do_ c i).1 := by
 by_cases hr : ready c i = true
 ·obtain ⟨h1, h2, h3⟩ := ready_parts hr
  obtain ⟨m, rfl, hm⟩ := pick_idx h2
  have hok := do_ok (i := (m : Int)) h.ok
  rw [do_on h.ok hr, Int.toNat_natCast] at hok ⊢
  rw [Int.toNat_natCast] at h3
  have hkn := ready_known hr
  by_cases e1 : (doneBy c m (c.rob.getD m noEnt)).trap = 0
  ·by_cases e2 : (doneBy c m (c.rob.getD m noEnt)).next = (c.rob.getD m noEnt).guess
   ·refine do_aux (nx := c.next) (st := c.stop) (t := c.rob.length) h hm rfl h3 hkn rfl ⟨hm, Nat.le_refl _⟩ (Or.inr (Or.inr ⟨e1, rfl, e2, rfl, rfl⟩)) ?_ hok
    rw [doE_go e1 e2, List.take_of_length_le (by simp)]
   ·exact do_aux (nx := (doneBy c m (c.rob.getD m noEnt)).next) (st := false) (t := m + 1) h hm rfl h3 hkn rfl ⟨Nat.lt_succ_self _, hm⟩ (Or.inr (Or.inl ⟨e1, rfl, rfl, rfl⟩)) (doE_turn e1 e2) hok
  ·exact do_aux (nx := c.next) (st := true) (t := m + 1) h hm rfl h3 hkn rfl ⟨Nat.lt_succ_self _, hm⟩ (Or.inl ⟨e1, rfl, rfl⟩) (doE_trap e1) hok
 ·rw [do_idle h.ok (by simpa using hr)]; exact h
theorem pull_s (h : corOk c = true) : (pull l c).1.s = c.s := by
 by_cases h1 : c.stop = true ∨ c.rob.length = 6 ∨ c.s.trap ≠ 0
 ·rw [pull_idle h h1]
 ·by_cases h2 : (fetch l c.next).2 = 0
  ·rw [pull_go h h1 h2]; rfl
  ·rw [pull_trap h h1 h2]; rfl
theorem pull_inv (h : CInv l c) : CInv l (pull l c).1 := by
 by_cases h1 : c.stop = true ∨ c.rob.length = 6 ∨ c.s.trap ≠ 0
 ·rw [pull_idle h.ok h1]; exact h
 ·have hst : c.stop = false := by cases hc : c.stop; rfl; exact absurd (Or.inl hc) h1
  have htr : c.s.trap = 0 := Decidable.not_not.1 fun g => h1 (Or.inr (Or.inr g))
  have hok := pull_ok (l := l) h.ok
  obtain ⟨z, nx, st, hp, hpc, hz⟩ : ∃ z nx st, (pull l c).1 = withRob c (c.rob ++ [z]) nx st ∧ z.pc = c.next ∧ ((z.done = false ∧ (fetch l z.pc).2 = 0 ∧ z.x = (fetch l z.pc).1 ∧ nx = z.guess ∧ st = false) ∨ (¬ (fetch l z.pc).2 = 0 ∧ z.done = true ∧ z.x = noIns ∧ z.e = fxTrap (fetch l z.pc).2 z.pc ∧ st = true)) := by
   by_cases h2 : (fetch l c.next).2 = 0
   ·rw [pull_go h.ok h1 h2]
    exact ⟨_, _, _, rfl, rfl, Or.inl ⟨rfl, h2, rfl, rfl, hst⟩⟩
   ·rw [pull_trap h.ok h1 h2]
    exact ⟨_, _, _, rfl, rfl, Or.inr ⟨h2, rfl, rfl, rfl, rfl⟩⟩
  rw [hp] at hok ⊢
  have hg : ∀ k, k < c.rob.length → (withRob c (c.rob ++ [z]) nx st).rob.getD k noEnt = c.rob.getD k noEnt := fun k hk => getD_snoc hk
  have hgz : (withRob c (c.rob ++ [z]) nx st).rob.getD c.rob.length noEnt = z := getD_last
  have hl : (withRob c (c.rob ++ [z]) nx st).rob.length = c.rob.length + 1 := by simp [withRob]
  have htn : ∀ k, k ≤ c.rob.length → Turns c (withRob c (c.rob ++ [z]) nx st) k := fun k hk => ⟨hk, by omega, fun j hj => Or.inl (hg j (by omega))⟩
  have hpa : ∀ k, k ≤ c.rob.length → pcAt (withRob c (c.rob ++ [z]) nx st) k = pcAt c k := fun k hk => by
   unfold pcAt
   split
   ·rfl
   ·rw [hg (k - 1) (by omega)]
  refine ⟨hok, ?_, ?_, ?_, ?_, ?_, ?_, ?_⟩
  ·intro k hk
   rw [hl] at hk
   by_cases g : k = c.rob.length
   ·rw [g, hgz]
    rcases hz with g1 | g1
    ·exact Or.inl ⟨g1.2.1, g1.2.2.1⟩
    ·exact Or.inr ⟨g1.1, g1.2.1, g1.2.2.1, g1.2.2.2.1⟩
   ·rw [hg k (by omega)]; exact h.fet k (by omega)
  ·intro k hk
   rw [hl] at hk
   by_cases g : k = c.rob.length
   ·rw [g, hgz]
    intro g2 g3
    rcases hz with g1 | g1
    ·rw [g1.1] at g2; cases g2
    ·exact absurd g3 g1.1
   ·rw [hg k (by omega)]
    intro g2 g3
    have h2 := h.eff k (by omega) g2 g3
    have := eff_turn (y := c.rob.getD k noEnt) (htn k (by omega)) (c' := withRob c (c.rob ++ [z]) nx st) rfl likeMem_refl h2.1
    exact ⟨this.1, h2.2.trans this.2.symm⟩
  ·intro _ k hk
   rw [hl] at hk
   rw [hpa k (by omega)]
   by_cases g : k = c.rob.length
   ·rw [g, hgz, hpc]; exact h.nex htr hst
   ·rw [hg k (by omega)]; exact h.pcs htr k (by omega)
  ·intro _ hs
   rcases hz with g1 | g1
   ·show nx = _
    rw [hl]
    unfold pcAt
    rw [if_neg (by omega), Nat.add_sub_cancel, hgz]
    unfold nxt
    rw [g1.1, if_neg (by decide)]
    exact g1.2.2.2.1
   ·have : st = false := hs
    rw [g1.2.2.2.2] at this; cases this
  ·intro k hk htd
   rw [hl] at hk ⊢
   by_cases g : k = c.rob.length
   ·rw [g, hgz] at htd
    rcases hz with g1 | g1
    ·have := htd.1; rw [g1.1] at this; cases this
    ·exact ⟨by omega, g1.2.2.2.2⟩
   ·rw [hg k (by omega)] at htd
    have := h.mid k (by omega) htd
    rw [hst] at this; cases this.2
  ·intro _ hs
   rw [hl, Nat.add_sub_cancel, hgz]
   rcases hz with g1 | g1
   ·have : st = true := hs
    rw [g1.2.2.2.2] at this; cases this
   ·refine ⟨by omega, g1.2.1, ?_⟩
    rw [g1.2.2.2.1]
    exact g1.1
  ·intro g
   exact absurd htr g
theorem inv_first (h : CInv l c) (h0 : 0 < c.rob.length) (hd : (c.rob.getD 0 noEnt).done = true) : c.s.trap = 0 ∧ (c.rob.getD 0 noEnt).pc = c.s.pc ∧ (c.rob.getD 0 noEnt).e = fxOf l c.s ∧ (¬ (c.rob.getD 0 noEnt).e.trap = 0 ∨ ((c.rob.getD 0 noEnt).x.op = 11 ∨ (c.rob.getD 0 noEnt).e.adr = -1)) := by
 have htr : c.s.trap = 0 := by
  by_cases g : c.s.trap = 0
  ·exact g
  ·rw [h.trp g] at h0; cases h0
 have hpc : (c.rob.getD 0 noEnt).pc = c.s.pc := h.pcs htr 0 h0
 refine ⟨htr, hpc, ?_⟩
 have hv : ∀ r, valueRaw c 0 r = (reg c.s r, true) := fun r => by
  refine raw_reg ?_
  have := src_lt c.rob 0 r
  simpa using this
 have hfd : ∀ by_ n, found c 0 by_ n = read c.s.mem by_ n := fun by_ n => by
  by_cases g : (read c.s.mem by_ n).2 = 0
  ·rw [found_miss (by simpa using g) rfl]
   exact Prod.ext rfl g.symm
  ·rw [found_no g]
   exact Prod.ext (read_fst g).symm rfl
 rcases h.fet 0 h0 with g | g
 ·have h1 := (h.eff 0 h0 hd g.1).2
  have hx : ∀ i', fxAt c 0 i' c.s.pc (reg c.s i'.a) (reg c.s i'.b) = if (memOf c.s.mem i' (reg c.s i'.a) (reg c.s i'.b)).2 ≠ 0 then fxTrap (memOf c.s.mem i' (reg c.s i'.a) (reg c.s i'.b)).2 c.s.pc else work i' c.s.pc (reg c.s i'.a) (reg c.s i'.b) (memOf c.s.mem i' (reg c.s i'.a) (reg c.s i'.b)).1 := fun i' => by
   unfold fxAt memAt memOf
   rw [hfd]
  have h2 : doneBy c ((0 : Nat) : Int) (c.rob.getD 0 noEnt) = fxOf l c.s := by
   show fxAt c 0 (c.rob.getD 0 noEnt).x (c.rob.getD 0 noEnt).pc (valueRaw c 0 (c.rob.getD 0 noEnt).x.a).1 (valueRaw c 0 (c.rob.getD 0 noEnt).x.b).1 = _
   rw [hv, hv, hpc, hx, fxOf]
   rw [hpc] at g
   rw [g.2, if_neg (show ¬ (fetch l c.s.pc).2 ≠ 0 from fun q => q g.1)]
  refine ⟨h1.trans h2, ?_⟩
  by_cases g0 : (c.rob.getD 0 noEnt).e.trap = 0
  ·rw [h1] at g0 ⊢
   exact Or.inr (fxAt_trap0 g0).2
  ·exact Or.inl g0
 ·refine ⟨?_, Or.inl ?_⟩
  ·rw [g.2.2.2, hpc, fxOf, if_pos (by rw [← hpc]; exact g.1)]
  ·rw [g.2.2.2]; exact g.1
theorem commit_step (h : CInv l c) (hc : (commit c).2 = true) : c.s.trap = 0 ∧ (commit c).1.s = step l c.s := by
 obtain ⟨h0, hd, hcm⟩ := commit_yes h.ok hc
 obtain ⟨htr, hpc, he, _⟩ := inv_first h h0 hd
 refine ⟨htr, ?_⟩
 rw [hcm, step, if_neg (by rw [(corOk_iff.1 h.ok).2.1]; exact Bool.noConfusion), if_neg (fun g => g htr), ← he]
 by_cases e1 : (c.rob.getD 0 noEnt).e.trap = 0
 ·rw [if_neg (fun g => g e1)]
  by_cases e2 : 0 ≤ (c.rob.getD 0 noEnt).e.drop
  ·rw [commitE_drop e1 e2]
  ·rw [commitE_go e1 e2]
 ·rw [if_pos e1, commitE_trap e1, hpc]
  rfl
theorem commit_inv (h : CInv l c) : CInv l (commit c).1 := by
 cases hc : (commit c).2 with
 | false => rw [commit_same h.ok hc]; exact h
 | true =>
  obtain ⟨h0, hd, hcm⟩ := commit_yes h.ok hc
  obtain ⟨htr, hpc, he, had⟩ := inv_first h h0 hd
  have hok := commit_ok h.ok
  rw [hcm] at hok ⊢
  obtain ⟨x, rest, hr⟩ : ∃ x rest, c.rob = x :: rest := by
   cases hq : c.rob with
   | nil => rw [hq] at h0; cases h0
   | cons x rest => exact ⟨x, rest, rfl⟩
  have hx0 : c.rob.getD 0 noEnt = x := by rw [hr]; rfl
  rw [hx0] at hok he had hd hpc ⊢
  by_cases e1 : x.e.trap = 0
  ·by_cases e2 : 0 ≤ x.e.drop
   ·rw [commitE_drop e1 e2] at hok ⊢
    exact ⟨hok, fun k hk => absurd hk (Nat.not_lt_zero _), fun k hk => absurd hk (Nat.not_lt_zero _), fun _ k hk => absurd hk (Nat.not_lt_zero _), fun _ _ => rfl, fun k hk => absurd hk (Nat.not_lt_zero _), fun _ g => (by cases g), fun _ => rfl⟩
   ·rw [commitE_go e1 e2] at hok ⊢
    generalize hD : (⟨applyFx c.s x.e, c.rob.drop 1, c.next, c.stop, learn c.guesses x.pc x.e.next⟩ : Cor) = D at hok ⊢
    have hDr : D.rob = rest := by rw [← hD, hr]; rfl
    have hDs : D.s = applyFx c.s x.e := by rw [← hD]
    have hDn : D.next = c.next := by rw [← hD]
    have hDt : D.stop = c.stop := by rw [← hD]
    have hDtr : D.s.trap = 0 := by rw [hDs]; exact htr
    have hsh : Shift c D x := ⟨by rw [hDr, hr], hd, e1, e2, by rcases had with g | g; exact absurd e1 g; exact g, hDs, (corOk_iff.1 h.ok).2.1⟩
    have hlen := sh_len hsh
    have hpa : ∀ k, pcAt D k = pcAt c (k + 1) := fun k => by
     unfold pcAt
     rw [if_neg (show ¬ k + 1 = 0 by omega), Nat.add_sub_cancel]
     by_cases g : k = 0
     ·rw [if_pos g, g, hx0, hDs]
      unfold nxt
      rw [if_pos hd]
      rfl
     ·rw [if_neg g, ← sh_get hsh, Nat.sub_add_cancel (by omega)]
    refine ⟨hok, ?_, ?_, ?_, ?_, ?_, ?_, ?_⟩
    ·intro k hk
     rw [← sh_get hsh]
     exact h.fet (k + 1) (by omega)
    ·intro k hk
     rw [← sh_get hsh]
     intro g1 g2
     have h1 := h.eff (k + 1) (by omega) g1 g2
     have hreg := ins_reg (entOk_parts (ent_ok h.ok (show k + 1 < c.rob.length by omega))).2.2.2.2.2.1
     have := eff_shift (y := c.rob.getD (k + 1) noEnt) hsh (Nat.le_of_lt hk) hreg.2 h1.1
     exact ⟨this.1, h1.2.trans this.2.symm⟩
    ·intro _ k hk
     rw [← sh_get hsh, hpa]
     exact h.pcs htr (k + 1) (by omega)
    ·intro _ g
     rw [hDn, hpa, ← hlen]
     exact h.nex htr (by rw [← hDt]; exact g)
    ·intro k hk g
     rw [← sh_get hsh] at g
     have := h.mid (k + 1) (by omega) g
     rw [hDt]
     exact ⟨by omega, this.2⟩
    ·intro _ g
     have h1 := h.stp htr (by rw [← hDt]; exact g)
     have hne : ¬ c.rob.length - 1 = 0 := fun q => by
      rw [q, hx0] at h1
      exact h1.2.2 e1
     refine ⟨by omega, ?_⟩
     rw [← sh_get hsh, show D.rob.length - 1 + 1 = c.rob.length - 1 by omega]
     exact h1.2
    ·intro g
     exact absurd hDtr g
  ·rw [commitE_trap e1] at hok ⊢
   exact ⟨hok, fun k hk => absurd hk (Nat.not_lt_zero _), fun k hk => absurd hk (Nat.not_lt_zero _), fun _ k hk => absurd hk (Nat.not_lt_zero _), fun g => absurd g e1, fun k hk => absurd hk (Nat.not_lt_zero _), fun g => absurd g e1, fun _ => rfl⟩
theorem sweep_inv {q : Int} (h : CInv l c) : CInv l (withS c (withMem c.s (sweep c.s.mem q))) := by
 have hk := corOk_iff.1 h.ok
 have hs := sttOk_iff.1 hk.2.1
 have hok : corOk (withS c (withMem c.s (sweep c.s.mem q))) = true := corOk_iff.2 ⟨hk.1, sttOk_iff.2 ⟨hs.1, hs.2.1, hs.2.2.1, sweep_ok hs.2.2.2.1, hs.2.2.2.2⟩, hk.2.2⟩
 have htn : ∀ k, k ≤ c.rob.length → Turns c (withS c (withMem c.s (sweep c.s.mem q))) k := fun k hk => ⟨hk, hk, fun j hj => Or.inl rfl⟩
 refine ⟨hok, h.fet, ?_, h.pcs, h.nex, h.mid, h.stp, h.trp⟩
 intro k hk g1 g2
 have h1 := h.eff k hk g1 g2
 have := eff_turn (c' := withS c (withMem c.s (sweep c.s.mem q))) (y := c.rob.getD k noEnt) (htn k (Nat.le_of_lt hk)) rfl (sweep_like hs.2.2.2.1) h1.1
 exact ⟨this.1, h1.2.trans this.2.symm⟩
theorem pick_inv (h : CInv l c) : CInv l (corPick l c p).1 := by
 by_cases h1 : p.kind = 1
 ·rw [pick_1 h.ok h1]; exact pull_inv h
 ·by_cases h2 : p.kind = 2
  ·rw [pick_2 h.ok h2]; exact do_inv h
  ·by_cases h3 : p.kind = 3
   ·rw [pick_3 h.ok h3]; exact commit_inv h
   ·by_cases h4 : p.kind = 4
    ·rw [pick_4 h.ok h4]; exact sweep_inv h
    ·rw [pick_5 h.ok h1 h2 h3 h4]; exact h
def pickS (l : List Ins) (c : Cor) (p : Pik) : Stt :=
 if (corPick l c p).2 = true ∧ p.kind = 3 then step l c.s else if (corPick l c p).2 = true ∧ p.kind = 4 then withMem c.s (sweep c.s.mem p.n) else c.s
theorem pick_s (h : CInv l c) : (corPick l c p).1.s = pickS l c p := by
 unfold pickS
 by_cases h1 : p.kind = 1
 ·rw [if_neg (by omega), if_neg (by omega), pick_1 h.ok h1]; exact pull_s h.ok
 ·by_cases h2 : p.kind = 2
  ·rw [if_neg (by omega), if_neg (by omega), pick_2 h.ok h2]; exact do_s h.ok
  ·by_cases h3 : p.kind = 3
   ·rw [pick_3 h.ok h3]
    cases hc : (commit c).2 with
    | false => rw [if_neg (fun g => by cases g.1), if_neg (fun g => by cases g.1), commit_same h.ok hc]
    | true => rw [if_pos ⟨rfl, h3⟩]; exact (commit_step h hc).2
   ·rw [if_neg (fun g => h3 g.2)]
    by_cases h4 : p.kind = 4
    ·cases hn : inR p.n 0 23 with
     | false => rw [pick_out h.ok h4 hn, if_neg (fun g => by cases g.1)]
     | true => rw [pick_in h.ok h4 hn, if_pos ⟨rfl, h4⟩]; rfl
    ·rw [pick_5 h.ok h1 h2 h3 h4, if_neg (fun g => h4 g.2)]
end
section
variable {l : List Ins} {c d : Cor} {s : Stt} {x y z : Ent} {p : Pik} {ps : List Pik} {n r i : Int} {k m t j : Nat} {w N : Int}
def stepN (l : List Ins) : Nat → Stt → Stt
 | 0, s => s
 | n + 1, s => stepN l n (step l s)
theorem fold_rep : ∀ (n : Nat) {s : Stt}, (List.replicate n (-1 : Int)).foldl (runOne l) s = stepN l n s
 | 0, _ => rfl
 | n + 1, s => by
  rw [List.replicate_succ, List.foldl_cons, fold_rep n]
  rfl
def clear (l : List Ins) (s : Stt) (j : Nat) : Prop := ∀ i, i < j → (stepN l i s).trap = 0
theorem clear_zero : clear l s 0 := fun i hi => absurd hi (Nat.not_lt_zero _)
theorem clear_succ (h : s.trap = 0) (h2 : clear l (step l s) j) : clear l s (j + 1) := fun i hi => by
 cases i with
 | zero => exact h
 | succ i => exact h2 i (by omega)
def Kept (l : List Ins) (s : Stt) (x : Cor × List Int) : Prop := CInv l x.1 ∧ x.1.s = x.2.foldl (runOne l) s
theorem kept_step {x : Cor × List Int} (h : Kept l s x) : Kept l s (corStep l x p) := by
 refine ⟨pick_inv h.1, ?_⟩
 have h1 := pick_s (p := p) h.1
 show (corPick l x.1 p).1.s = (x.2 ++ if (corPick l x.1 p).2 = true then noted p else []).foldl (runOne l) s
 rw [h1, List.foldl_append, ← h.2]
 unfold pickS
 by_cases hb : (corPick l x.1 p).2 = true
 ·rw [if_pos hb]
  by_cases h3 : p.kind = 3
  ·rw [if_pos ⟨hb, h3⟩, noted, if_pos h3]
   rfl
  ·rw [if_neg (fun g => h3 g.2)]
   by_cases h4 : p.kind = 4
   ·rw [if_pos ⟨hb, h4⟩, noted, if_neg h3, if_pos h4]
    have hn : inR p.n 0 23 = true := by
     cases hn : inR p.n 0 23 with
     | true => rfl
     | false => rw [pick_out h.1.ok h4 hn] at hb; cases hb
    have := inR_iff.1 hn
    show _ = runOne l x.1.s p.n
    rw [runOne_sweep (by omega)]
   ·rw [if_neg (fun g => h4 g.2), noted, if_neg h3, if_neg h4]
    rfl
 ·rw [if_neg hb, if_neg (fun g => hb g.1), if_neg (fun g => hb g.1)]
  rfl
theorem alike_of {s t : Stt} (h : s = t) : alike s t = true := by rw [h]; exact alike_refl
def fromEnt (ws : List Word) (x : Ent) : Prop := fromW ws x.pc ∧ fromW ws x.guess ∧ fromE ws x.e
def fromC (ws : List Word) (c : Cor) : Prop := fromS ws c.s ∧ (∀ x, x ∈ c.rob → fromEnt ws x) ∧ fromW ws c.next
section
variable {ws : List Word} {a b by_ g : Word} {e : Fx} {q : Int}
end
end
end Go.Proofs.YtgpjgljgplngpaaGreatDoor.AM
namespace Go.Proofs.YtgpjgljgplngpaaGreatDoor.AM
open Go
structure Dsk where
 list : List Ins
 c : Cor
 order : List Int
 deriving DecidableEq
def tOk : Bs := [111, 107]
def tNo : Bs := [110, 111]
def tYes : Bs := [121, 101, 115]
def tWhat : Bs := [119, 104, 97, 116]
def tBad : Bs := [98, 97, 100]
def tNone : Bs := [110, 111, 110, 101]
def wPull : Bs := [112, 117, 108, 108]
def wCommit : Bs := [99, 111, 109, 109, 105, 116]
def wSettle : Bs := [115, 101, 116, 116, 108, 101]
def wTrap : Bs := [116, 114, 97, 112]
def wSame : Bs := [115, 97, 109, 101]
def wDo : Bs := [100, 111]
def wSweep : Bs := [115, 119, 101, 101, 112]
def wReg : Bs := [114, 101, 103]
def trapB (a : Int) : Bs := (trapText a).data.toList
def yesNo (b : Bool) (x y : Bs) : Bs := if b = true then x else y
def dskPick (d : Dsk) (p : Pik) : Dsk × Bs := (⟨d.list, (corPick d.list d.c p).1, d.order ++ if (corPick d.list d.c p).2 = true then noted p else []⟩, yesNo (corPick d.list d.c p).2 tOk tNo)
def dskState (d : Dsk) : Stt := d.order.foldl (fun s n => run d.list s [n]) sttNew
def dskSame (d : Dsk) : Bool := alike d.c.s (dskState d)
def dskNum (s : Bs) : Int × Bool := if (atoV s).2 = false ∨ 2 < s.length ∨ (atoV s).1 < 0 ∨ itoa (atoV s).1 ≠ s then (0, false) else ((atoV s).1, true)
def dskNumbered (d : Dsk) (w : Bs) (n : Int) : Dsk × Bs :=
 if w = wDo then dskPick d ⟨2, n⟩ else if w = wSweep then dskPick d ⟨4, n⟩ else if w = wReg then (d, if 8 ≤ n then tNone else wordT (reg d.c.s n)) else (d, tWhat)
def dskSettle (d : Dsk) : Dsk × Bs := (⟨d.list, (settle d.c).1, d.order ++ List.replicate (settle d.c).2.toNat (-1)⟩, itoa (settle d.c).2)
def dskDo (d : Dsk) (s : Bs) : Dsk × Bs :=
 if s = wPull then dskPick d ⟨1, 0⟩ else if s = wCommit then dskPick d ⟨3, 0⟩ else if s = wSettle then dskSettle d
 else if s = wTrap then (d, trapB d.c.s.trap) else if s = wSame then (d, yesNo (dskSame d) tYes tNo)
 else if (dskNum (cutB s 32).2.1).2 = false then (d, tWhat) else dskNumbered d (cutB s 32).1 (dskNum (cutB s 32).2.1).1
def dskLine (d : Dsk) (s : Bs) : Dsk × Bs := if corOk d.c = false then (d, tBad) else if s = [] ∨ s.head? = some 59 then (d, []) else dskDo d s
theorem num_back {n : Int} (h : 0 ≤ n ∧ n ≤ 99) : dskNum (itoa n) = (n, true) := by
 have hv := atoV_itoa (n := n) (by omega)
 have hl : (itoa n).length ≤ 2 := by
  rw [itoa_nat h.1, Lib.decDigits_length]
  by_cases a : n.toNat < 10
  ·rw [Lib.nDigits_small a]; omega
  ·rw [Lib.nDigits_unique 1 n.toNat (by omega) (by omega)]; omega
 rw [dskNum, hv, if_neg]
 rintro (g | g | g | g)
 ·cases g
 ·omega
 ·simp only at g; omega
 ·exact g rfl
theorem len_two {n : Int} (h : 0 ≤ n) (hl : (itoa n).length ≤ 2) : n ≤ 99 := by
 rw [itoa_nat h, Lib.decDigits_length] at hl
 have h1 := Lib.lt_pow_nDigits n.toNat
 have h2 : 10 ^ Lib.nDigits n.toNat ≤ 10 ^ 2 := Nat.pow_le_pow_right (by decide) hl
 omega
theorem num_is {s : Bs} (h : (dskNum s).2 = true) : (0 ≤ (dskNum s).1 ∧ (dskNum s).1 ≤ 99) ∧ itoa (dskNum s).1 = s := by
 unfold dskNum at h ⊢
 split at h
 ·cases h
 ·rename_i hc
  rw [if_neg hc]
  have h1 : 0 ≤ (atoV s).1 := Int.not_lt.1 fun g => hc (Or.inr (Or.inr (Or.inl g)))
  have h2 : itoa (atoV s).1 = s := Decidable.not_not.1 fun g => hc (Or.inr (Or.inr (Or.inr g)))
  have h3 : s.length ≤ 2 := Nat.not_lt.1 fun g => hc (Or.inr (Or.inl g))
  exact ⟨⟨h1, len_two h1 (by rw [h2]; exact h3)⟩, h2⟩
def scanW : Bs → Nat → Option Nat
 | [], x => some x
 | b :: l, x => if digit b then scanW l (10 * x + (b.toNat - 48)) else none
def numW (s w : Bs) : Int :=
 if s.length < w.length + 2 ∨ w.length + 3 < s.length ∨ s.take w.length ≠ w ∨ s.getD w.length 0 ≠ 32 then -1 else match scanW (s.drop (w.length + 1)) 0 with
  | some x => if itoa (x : Int) = s.drop (w.length + 1) then (x : Int) else -1
  | none => -1
theorem scanW_digits : ∀ (ds : Bs) (x : Nat), (∀ b, b ∈ ds → digit b) → scanW ds x = some (valD x ds)
 | [], x, _ => rfl
 | d :: ds, x, hd => by
  rw [scanW, if_pos (hd d (by simp)), scanW_digits ds _ fun b hb => hd b (by simp [hb])]
  rfl
theorem numW_back {w : Bs} {n : Int} (h : 0 ≤ n ∧ n ≤ 99) : numW (w ++ 32 :: itoa n) w = n := by
 have hl : 1 ≤ (itoa n).length ∧ (itoa n).length ≤ 2 := by
  rw [itoa_nat h.1, Lib.decDigits_length]
  refine ⟨Lib.nDigits_pos _, ?_⟩
  by_cases a : n.toNat < 10
  ·rw [Lib.nDigits_small a]; omega
  ·rw [Lib.nDigits_unique 1 n.toNat (by omega) (by omega)]; omega
 have hd : (w ++ 32 :: itoa n).drop (w.length + 1) = itoa n := by rw [← List.drop_drop, List.drop_left' rfl]; rfl
 have hs : scanW (itoa n) 0 = some n.toNat := by rw [itoa_nat h.1, scanW_digits _ 0 (dec_all _), valD_dec]
 rw [numW, if_neg, hd, hs]
 ·simp only
  rw [if_pos (by rw [show ((n.toNat : Nat) : Int) = n by omega])]
  omega
 ·rintro (g | g | g | g)
  ·simp at g; omega
  ·simp at g; omega
  ·exact g (by rw [List.take_left' rfl])
  ·exact g (by simp)
theorem numW_is {s w : Bs} (h : 0 ≤ numW s w) : (0 ≤ numW s w ∧ numW s w ≤ 99) ∧ s = w ++ 32 :: itoa (numW s w) := by
 unfold numW at h ⊢
 split at h
 ·omega
 ·rename_i hc
  rw [if_neg hc]
  split at h
  ·rename_i x hx
   split at h
   ·rename_i e
    rw [if_pos e]
    have h1 : ¬ s.length < w.length + 2 := fun g => hc (Or.inl g)
    have h2 : ¬ w.length + 3 < s.length := fun g => hc (Or.inr (Or.inl g))
    have h3 : s.take w.length = w := Decidable.not_not.1 fun g => hc (Or.inr (Or.inr (Or.inl g)))
    have h4 : s.getD w.length 0 = 32 := Decidable.not_not.1 fun g => hc (Or.inr (Or.inr (Or.inr g)))
    have hl : (itoa (x : Int)).length ≤ 2 := by rw [e, List.length_drop]; omega
    refine ⟨⟨h, len_two h hl⟩, ?_⟩
    rw [e]
    conv => lhs; rw [← List.take_append_drop w.length s]
    rw [h3]
    congr 1
    have hw : w.length < s.length := by omega
    rw [List.drop_eq_getElem_cons hw]
    congr 1
    simpa [hw] using h4
   ·omega
  ·omega
def askedS (d : Dsk) (s : Bs) : Bs :=
 if s = wTrap then trapB d.c.s.trap else if s = wSame then yesNo (dskSame d) tYes tNo
 else if numW s wReg < 0 then [] else if 7 < numW s wReg then tNone else wordT (reg d.c.s (numW s wReg))
def pickS2 (s : Bs) : Pik × Bool :=
 if s = wPull then (⟨1, 0⟩, true) else if s = wCommit then (⟨3, 0⟩, true) else if 0 ≤ numW s wDo then (⟨2, numW s wDo⟩, true) else (⟨4, numW s wSweep⟩, decide (0 ≤ numW s wSweep))
def dskLineS (d : Dsk) (s : Bs) : Dsk × Bs :=
 if corOk d.c = false then (d, tBad) else if s = [] ∨ s.head? = some 59 then (d, [])
 else if askedS d s ≠ [] then (d, askedS d s) else if s = wSettle then dskSettle d
 else if (pickS2 s).2 = false then (d, tWhat) else dskPick d (pickS2 s).1
theorem numW_of {s w : Bs} (h : ∀ n, 0 ≤ n ∧ n ≤ 99 → s ≠ w ++ 32 :: itoa n) : numW s w < 0 := by
 refine Int.not_le.1 fun g => ?_
 have := numW_is g
 exact h _ this.1 this.2
theorem split_eq {a b : Bs} {n m : Int} (ha : 32 ∉ a) (hb : 32 ∉ b) (h : a ++ 32 :: itoa n = b ++ 32 :: itoa m) : a = b ∧ itoa n = itoa m := by
 have h1 := cutB_app (r := itoa n) ha
 rw [h, cutB_app (r := itoa m) hb] at h1
 simp only [Prod.mk.injEq] at h1
 exact ⟨h1.1.symm, h1.2.1.symm⟩
theorem no_blank {w s : Bs} {n : Int} (hw : 32 ∉ s) : s ≠ w ++ 32 :: itoa n := fun e => hw (by rw [e]; simp)
theorem word_ne {w : Word} (h : wordOk w = true) : wordT w ≠ [] := by
 rw [wordT, if_pos h]
 split
 ·simp
 ·exact itoa_ne
theorem trapB_ne {a : Int} (h : 0 ≤ a ∧ a ≤ 5) : trapB a ≠ [] := by
 have : ∀ n : Fin 6, trapB (n.val : Int) ≠ [] := by decide
 have := this ⟨a.toNat, by omega⟩
 simp only at this
 rwa [show ((a.toNat : Nat) : Int) = a by omega] at this
theorem yn_ne {b : Bool} : yesNo b tYes tNo ≠ [] := by cases b <;> decide
theorem line_eq {d : Dsk} {s : Bs} : dskLineS d s = dskLine d s := by
 unfold dskLineS dskLine
 by_cases hk : corOk d.c = false
 ·rw [if_pos hk, if_pos hk]
 ·rw [if_neg hk, if_neg hk]
  have hko : corOk d.c = true := by simpa using hk
  have hst := sttOk_iff.1 (corOk_iff.1 hko).2.1
  by_cases he : s = [] ∨ s.head? = some 59
  ·rw [if_pos he, if_pos he]
  ·rw [if_neg he, if_neg he]
   have nb : ∀ w : Bs, 32 ∉ s → numW s w < 0 := fun w h => numW_of fun n _ => no_blank h
   unfold dskDo
   by_cases h1 : s = wPull
   ·have hb : 32 ∉ s := by rw [h1]; decide
    have ha : askedS d s = [] := by rw [askedS, if_neg (by rw [h1]; decide), if_neg (by rw [h1]; decide), if_pos (nb _ hb)]
    have hp : pickS2 s = (⟨1, 0⟩, true) := by rw [pickS2, if_pos h1]
    rw [ha, if_neg (fun g => g rfl), if_neg (show ¬ s = wSettle by rw [h1]; decide), hp, if_pos h1, if_neg (show ¬ (true = false) from fun g => Bool.noConfusion g)]
   ·by_cases h2 : s = wCommit
    ·have hb : 32 ∉ s := by rw [h2]; decide
     have ha : askedS d s = [] := by rw [askedS, if_neg (by rw [h2]; decide), if_neg (by rw [h2]; decide), if_pos (nb _ hb)]
     have hp : pickS2 s = (⟨3, 0⟩, true) := by rw [pickS2, if_neg h1, if_pos h2]
     rw [ha, if_neg (fun g => g rfl), if_neg (show ¬ s = wSettle by rw [h2]; decide), hp, if_neg h1, if_pos h2, if_neg (show ¬ (true = false) from fun g => Bool.noConfusion g)]
    ·by_cases h3 : s = wSettle
     ·have hb : 32 ∉ s := by rw [h3]; decide
      have ha : askedS d s = [] := by rw [askedS, if_neg (by rw [h3]; decide), if_neg (by rw [h3]; decide), if_pos (nb _ hb)]
      rw [ha, if_neg (fun g => g rfl), if_pos h3, if_neg h1, if_neg h2, if_pos h3]
     ·by_cases h4 : s = wTrap
      ·have ha : askedS d s = trapB d.c.s.trap := by rw [askedS, if_pos h4]
       rw [ha, if_pos (trapB_ne hst.2.2.2.2), if_neg h1, if_neg h2, if_neg h3, if_pos h4]
      ·by_cases h5 : s = wSame
       ·have ha : askedS d s = yesNo (dskSame d) tYes tNo := by rw [askedS, if_neg h4, if_pos h5]
        rw [ha, if_pos yn_ne, if_neg h1, if_neg h2, if_neg h3, if_neg h4, if_pos h5]
       ·rw [if_neg h1, if_neg h2, if_neg h3, if_neg h4, if_neg h5]
        cases hn : (dskNum (cutB s 32).2.1).2 with
        | false =>
         rw [if_pos (show (false : Bool) = false from rfl)]
         have hno : ∀ w : Bs, 32 ∉ w → numW s w < 0 := fun w hw => numW_of fun n hn2 e => by
          rw [e, cutB_app hw, num_back hn2] at hn
          cases hn
         have ha : askedS d s = [] := by rw [askedS, if_neg h4, if_neg h5, if_pos (hno _ (by decide))]
         have hd := hno wDo (by decide)
         have hsw := hno wSweep (by decide)
         have hp : pickS2 s = (⟨4, numW s wSweep⟩, false) := by rw [pickS2, if_neg h1, if_neg h2, if_neg (Int.not_le.2 hd), decide_eq_false (Int.not_le.2 hsw)]
         rw [ha, if_neg (fun g => g rfl), if_neg h3, hp, if_pos (show (false : Bool) = false from rfl)]
        | true =>
         rw [if_neg (show ¬ (true = false) from fun g => Bool.noConfusion g)]
         obtain ⟨hr, hi⟩ := num_is hn
         generalize hN : (dskNum (cutB s 32).2.1).1 = N at hr hi ⊢
         have hf : (cutB s 32).2.2 = true := by
          cases hq : (cutB s 32).2.2 with
          | true => rfl
          | false =>
           exfalso
           unfold cutB at hq hi
           split at hq
           ·rename_i e
            rw [if_pos e] at hi
            exact itoa_ne hi
           ·cases hq
         obtain ⟨c1, c2⟩ := cut_is hf
         rw [← hi] at c2
         generalize hA : (cutB s 32).1 = A at c1 c2 ⊢
         have hw : ∀ w : Bs, 32 ∉ w → (A = w → numW s w = N) ∧ (A ≠ w → numW s w < 0) := fun w hw2 => by
          refine ⟨fun e => ?_, fun e => ?_⟩
          ·rw [c2, e]; exact numW_back hr
          ·refine numW_of fun n _ e2 => ?_
           rw [c2] at e2
           exact e (split_eq c1 hw2 e2).1
         have hreg := hw wReg (by decide)
         have hdo := hw wDo (by decide)
         have hsw := hw wSweep (by decide)
         unfold dskNumbered
         by_cases e1 : A = wDo
         ·have r1 := hreg.2 (by rw [e1]; decide)
          have r2 := hdo.1 e1
          have ha : askedS d s = [] := by rw [askedS, if_neg h4, if_neg h5, if_pos r1]
          have hp : pickS2 s = (⟨2, numW s wDo⟩, true) := by rw [pickS2, if_neg h1, if_neg h2, if_pos (by omega)]
          rw [ha, if_neg (fun g => g rfl), if_neg h3, hp, if_neg (show ¬ (true = false) from fun g => Bool.noConfusion g), if_pos e1, r2]
         ·rw [if_neg e1]
          have r2 := hdo.2 e1
          by_cases e2 : A = wSweep
          ·have r1 := hreg.2 (by rw [e2]; decide)
           have r3 := hsw.1 e2
           have ha : askedS d s = [] := by rw [askedS, if_neg h4, if_neg h5, if_pos r1]
           have hdec : decide (0 ≤ numW s wSweep) = true := decide_eq_true (by omega)
           have hp : pickS2 s = (⟨4, numW s wSweep⟩, true) := by rw [pickS2, if_neg h1, if_neg h2, if_neg (Int.not_le.2 r2), hdec]
           rw [ha, if_neg (fun g => g rfl), if_neg h3, hp, if_neg (show ¬ (true = false) from fun g => Bool.noConfusion g), if_pos e2, r3]
          ·rw [if_neg e2]
           have r3 := hsw.2 e2
           by_cases e3 : A = wReg
           ·have r1 := hreg.1 e3
            rw [if_pos e3]
            have ha : askedS d s = if 8 ≤ N then tNone else wordT (reg d.c.s N) := by
             rw [askedS, if_neg h4, if_neg h5, r1, if_neg (by omega)]
             by_cases h8 : 8 ≤ N
             ·rw [if_pos (by omega), if_pos h8]
             ·rw [if_neg (by omega), if_neg h8]
            have hne : (if 8 ≤ N then tNone else wordT (reg d.c.s N)) ≠ [] := by
             split
             ·decide
             ·exact word_ne (reg_ok (corOk_iff.1 hko).2.1)
            rw [ha, if_pos hne]
            split <;> rfl
           ·rw [if_neg e3]
            have r1 := hreg.2 e3
            have ha : askedS d s = [] := by rw [askedS, if_neg h4, if_neg h5, if_pos r1]
            have hp : pickS2 s = (⟨4, numW s wSweep⟩, false) := by rw [pickS2, if_neg h1, if_neg h2, if_neg (Int.not_le.2 r2), decide_eq_false (Int.not_le.2 r3)]
            rw [ha, if_neg (fun g => g rfl), if_neg h3, hp, if_pos (show (false : Bool) = false from rfl)]
def rowsI (s : Bs) : List Bs := if (splitB 10 s).getLast? = some [] then (splitB 10 s).dropLast else splitB 10 s
def rowsS : Bs → Bs → List Bs
 | [], cur => if cur = [] then [] else [cur]
 | b :: r, cur => if b = 10 then cur :: rowsS r [] else rowsS r (cur ++ [b])
def dskNew (s : Bs) : Dsk × Bool := if (codeRead s).2 = true then (⟨(codeRead s).1, corNew sttNew, []⟩, true) else (⟨[], noCor, []⟩, false)
def tellGo : List Bs → Dsk → Bs → Dsk × Bs
 | [], d, out => (d, out)
 | l :: ls, d, out => tellGo ls (dskLine d l).1 (out ++ if (dskLine d l).2 ≠ [] then (dskLine d l).2 ++ [10] else [])
def session (t s : Bs) : Bs × Int :=
 if (dskNew t).2 = false then ([], -1) else if 80 < (rowsI s).length then ([], -2) else ((tellGo (rowsI s) (dskNew t).1 []).2, ((rowsI s).length : Nat))
end Go.Proofs.YtgpjgljgplngpaaGreatDoor.AM
namespace Go.Proofs.YtgpjgljgplngpaaGreatDoor.AM
open Go
def Dsk.cells (d : Dsk) : List AV := .sl d.list.length d.list.length (rows d.list) :: (d.c.cells ++ [.sl d.order.length d.order.length (ints d.order)])
def Dsk.own (a b c e f g h : Nat) (d : Dsk) : List AV := .slice a 0 d.list.length 0 :: (d.c.own b c e f g ++ [.slice h 0 d.order.length 0])
def Dsk.blks (d : Dsk) : Heap := ⟨5, rows d.list, true, false⟩ :: (d.c.blks ++ [⟨1, ints d.order, true, false⟩])
theorem dskCells_eq {d : Dsk} : d.cells = .sl d.list.length d.list.length (rows d.list) :: (d.c.cells ++ [.sl d.order.length d.order.length (ints d.order)]) := (rfl)
theorem dskOwn_eq {a b c e f g h : Nat} {d : Dsk} : d.own a b c e f g h = .slice a 0 d.list.length 0 :: (d.c.own b c e f g ++ [.slice h 0 d.order.length 0]) := (rfl)
theorem dskBlks_eq {d : Dsk} : d.blks = ⟨5, rows d.list, true, false⟩ :: (d.c.blks ++ [⟨1, ints d.order, true, false⟩]) := (rfl)
attribute [go_sem] dskCells_eq dskOwn_eq dskBlks_eq
theorem dskNew_yes {l : Bs} (h : (codeRead l).2 = true) : dskNew l = (⟨(codeRead l).1, corNew sttNew, []⟩, true) := by rw [dskNew, if_pos h]
theorem dskNew_no {l : Bs} (h : (codeRead l).2 = false) : dskNew l = (⟨[], noCor, []⟩, false) := by rw [dskNew, if_neg (by rw [h]; exact Bool.noConfusion)]
def Dsk.marked (d : Dsk) (t : Int) : Dsk := ⟨mrow markI 5 t d.list.length, d.c.markedQ (t + (5 * d.list.length : Nat)), marks (t + (5 * d.list.length : Nat) + (d.c.cost : Nat)) d.order.length⟩
def Dsk.cost (d : Dsk) : Nat := 5 * d.list.length + d.c.cost + d.order.length
def Dsk.fit (d : Dsk) : Prop := d.list.length ≤ 1048576 ∧ d.c.fit ∧ d.order.length ≤ 1048576
theorem sttNew_fit : sttNew.fit := by simp [Stt.fit, Mem.fit, sttNew, memNew]
theorem dskNew_fit {l : Bs} : (dskNew l).1.fit := by
 cases h : (codeRead l).2 with
 | true =>
  rw [dskNew_yes h]
  have h1 := codeOk_len (codeRead_is h).1
  exact ⟨by show (codeRead l).1.length ≤ 1048576; omega, corNew_fit sttNew_fit, Nat.zero_le _⟩
 | false =>
  rw [dskNew_no h]
  exact ⟨Nat.zero_le _, by simp [Cor.fit, Stt.fit, Mem.fit, noCor, noStt, noMem], Nat.zero_le _⟩
end Go.Proofs.YtgpjgljgplngpaaGreatDoor.AM
namespace Go.Proofs.YtgpjgljgplngpaaGreatDoor.AM
open Go
section
variable {l : List Ins} {c d : Cor} {s : Stt} {x y z : Ent} {p : Pik} {ps : List Pik} {n r i : Int} {k m t j : Nat} {w N : Int}
def First (c : Cor) : Prop := 0 < c.rob.length ∧ (c.rob.getD 0 noEnt).done = true
theorem do_first (h : corOk c = true) (h0 : 0 < c.rob.length) : First (do_ c ((0 : Nat) : Int)).1 := by
 cases hd : (c.rob.getD 0 noEnt).done with
 | true =>
  have : ready c ((0 : Nat) : Int) = false := ready_no (fun g => by have g2 : (c.rob.getD 0 noEnt).done = false := g.2.2; rw [hd] at g2; cases g2)
  rw [do_idle h this]
  exact ⟨h0, hd⟩
 | false =>
  have hv : ∀ r, (valueRaw c ((0 : Nat) : Int) r).2 = true := fun r => by
   rw [raw_reg]
   have := src_lt c.rob 0 r
   simpa using this
  have hr : ready c ((0 : Nat) : Int) = true := by
   rw [ready_eq (i := ((0 : Nat) : Int)) ⟨h, inR_iff.2 (by omega), hd⟩, hv, hv]
   simp
  rw [do_on h hr]
  show First (doE c 0 _ _)
  unfold doE
  have hg : ∀ v : Ent, (c.rob.set 0 v).getD 0 noEnt = v := fun v => by simp [h0]
  have hg1 : ∀ v : Ent, ((c.rob.set 0 v).take 1).getD 0 noEnt = v := fun v => by
   rw [List.getD_eq_getElem?_getD, List.getElem?_take_of_lt (by omega), ← List.getD_eq_getElem?_getD, hg]
  split
  ·exact ⟨by simp [withRob]; omega, by simp only [withRob, hg1]⟩
  ·split
   ·exact ⟨by simp [withRob]; omega, by simp only [withRob, hg1]⟩
   ·exact ⟨by simpa [withRob] using h0, by simp only [withRob, hg]⟩
theorem do_keep (h : corOk c = true) (h1 : First c) : First (do_ c i).1 := by
 by_cases hr : ready c i = true
 ·obtain ⟨g1, g2, g3⟩ := ready_parts hr
  obtain ⟨m, rfl, hm⟩ := pick_idx g2
  rw [do_on h hr, Int.toNat_natCast]
  rw [Int.toNat_natCast] at g3
  have hm0 : ¬ m = 0 := fun e => by rw [e, h1.2] at g3; cases g3
  have hg : ∀ v : Ent, (c.rob.set m v).getD 0 noEnt = c.rob.getD 0 noEnt := fun v => by
   rw [List.getD_eq_getElem?_getD, List.getElem?_set_ne hm0, ← List.getD_eq_getElem?_getD]
  have hg1 : ∀ v : Ent, ((c.rob.set m v).take (m + 1)).getD 0 noEnt = c.rob.getD 0 noEnt := fun v => by
   rw [List.getD_eq_getElem?_getD, List.getElem?_take_of_lt (by omega), ← List.getD_eq_getElem?_getD, hg]
  unfold doE
  split
  ·exact ⟨by simp [withRob]; omega, by simp only [withRob, hg1]; exact h1.2⟩
  ·split
   ·exact ⟨by simp [withRob]; omega, by simp only [withRob, hg1]; exact h1.2⟩
   ·exact ⟨by simpa [withRob] using h1.1, by simp only [withRob, hg]; exact h1.2⟩
 ·rw [do_idle h (by simpa using hr)]; exact h1
theorem all_inv : ∀ (n : Nat) {i : Nat} {c : Cor}, CInv l c → CInv l (doAll n i c) ∧ (doAll n i c).s = c.s
 | 0, _, _, h => ⟨h, rfl⟩
 | n + 1, i, c, h => by
  rw [doAll]
  split
  ·have := all_inv n (i := i + 1) (do_inv (i := (i : Int)) h)
   exact ⟨this.1, this.2.trans (do_s h.ok)⟩
  ·exact ⟨h, rfl⟩
theorem all_keep : ∀ (n : Nat) {i : Nat} {c : Cor}, CInv l c → First c → First (doAll n i c)
 | 0, _, _, _, h1 => h1
 | n + 1, i, c, h, h1 => by
  rw [doAll]
  split
  ·exact all_keep n (do_inv (i := (i : Int)) h) (do_keep h.ok h1)
  ·exact h1
theorem all_first (h : CInv l c) (h0 : 0 < c.rob.length) : First (doAll (k + 1) 0 c) := by
 rw [doAll, if_pos h0]
 exact all_keep _ (do_inv (i := ((0 : Nat) : Int)) h) (do_first h.ok h0)
theorem commit_less (h : CInv l c) (h1 : First c) : (commit c).2 = true ∧ (commit c).1.rob.length < c.rob.length := by
 have htr := (inv_first h h1.1 h1.2).1
 have hn : ¬ (c.rob = [] ∨ (c.rob.getD 0 noEnt).done = false ∨ c.s.trap ≠ 0) := by
  rintro (g | g | g)
  ·have := h1.1; rw [g] at this; cases this
  ·rw [h1.2] at g; cases g
  ·exact g htr
 rw [commit_on h.ok hn]
 refine ⟨rfl, ?_⟩
 have := h1.1
 show (commitE c (c.rob.getD 0 noEnt)).rob.length < _
 unfold commitE
 split
 ·exact this
 ·split
  ·exact this
  ·simp; omega
theorem set_inv : ∀ (n : Nat) {c : Cor} {m : Int}, CInv l c → ∃ j : Nat, (settleGo n c m).2 = m + j ∧ CInv l (settleGo n c m).1 ∧ (settleGo n c m).1.s = stepN l j c.s ∧ clear l c.s j ∧ (c.rob.length ≤ n → (settleGo n c m).1.rob = []) ∧ j ≤ c.rob.length ∧ (0 < n → 0 < c.rob.length → 1 ≤ j)
 | 0, c, m, h => ⟨0, by simp [settleGo], h, rfl, clear_zero, fun g => List.eq_nil_of_length_eq_zero (Nat.eq_zero_of_le_zero g), Nat.zero_le _, fun g => absurd g (Nat.lt_irrefl _)⟩
 | n + 1, c, m, h => by
  by_cases hr : c.rob = []
  ·rw [settleGo, if_pos hr]
   exact ⟨0, by simp, h, rfl, clear_zero, fun _ => hr, Nat.zero_le _, fun _ g => by rw [hr] at g; cases g⟩
  ·have h0 : 0 < c.rob.length := Nat.pos_of_ne_zero fun g => hr (List.eq_nil_of_length_eq_zero g)
   have ha : CInv l (doAll 7 0 c) ∧ (doAll 7 0 c).s = c.s := all_inv 7 h
   have hf : First (doAll 7 0 c) := all_first (k := 6) h h0
   have hlen : (doAll 7 0 c).rob.length ≤ c.rob.length := all_len 7
   rw [settleGo, if_neg hr]
   generalize doAll 7 0 c = u at ha hf hlen ⊢
   have hc := commit_less ha.1 hf
   have hs := commit_step ha.1 hc.1
   have hi := commit_inv ha.1
   rw [if_pos hc.1]
   obtain ⟨j, j1, j2, j3, j4, j5, j6, _⟩ := set_inv n (m := m + 1) hi
   rw [hs.2, ha.2] at j3 j4
   refine ⟨j + 1, ?_, j2, j3, clear_succ (by rw [← ha.2]; exact hs.1) j4, fun g => j5 (by omega), by omega, fun _ _ => by omega⟩
   rw [j1]
   omega
theorem settle_inv (h : CInv l c) : ∃ j : Nat, (settle c).2 = j ∧ CInv l (settle c).1 ∧ (settle c).1.s = stepN l j c.s ∧ clear l c.s j ∧ (settle c).1.rob = [] ∧ j ≤ c.rob.length ∧ (0 < c.rob.length → 1 ≤ j) := by
 rw [settle_go h.ok]
 obtain ⟨j, j1, j2, j3, j4, j5, j6, j7⟩ := set_inv 600 (m := 0) h
 have := (corOk_iff.1 h.ok).2.2.1
 exact ⟨j, by rw [j1]; omega, j2, j3, j4, j5 (by omega), j6, j7 (by omega)⟩
end
end Go.Proofs.YtgpjgljgplngpaaGreatDoor.AM
namespace Go.Proofs.YtgpjgljgplngpaaGreatDoor.AM
open Go
theorem wordT_len {w : Word} : (wordT w).length ≤ 102 := by
 unfold wordT
 split
 ·rename_i h
  have hn : 0 ≤ w.n ∧ w.n ≤ 65535 := by
   simp only [wordOk, Bool.and_eq_true, inR_iff] at h
   exact h.1
  have l1 := itoa_len (n := w.n) (by omega)
  have l2 := keyT_len (k := w.key)
  split
  ·simp only [List.length_append, List.length_cons]; omega
  ·omega
 ·simp
theorem trapB_len {a : Int} : (trapB a).length ≤ 102 := by
 unfold trapB trapText
 split
 ·rename_i h
  have h := inR_iff.1 h
  have : ∀ n : Fin 6, ((traps.getD (n.val) ⟨#[]⟩ : ByteArray).data.toList).length ≤ 102 := by decide
  have := this ⟨a.toNat, by omega⟩
  exact this
 ·decide
theorem line_cases {d : Dsk} {s : Bs} {Q : Dsk × Bs → Prop} (h0 : ∀ t : Bs, t.length ≤ 102 → Q (d, t)) (hp : ∀ p, Q (dskPick d p)) (hs : Q (dskSettle d)) : Q (dskLine d s) := by
 have hi : ∀ {c : Prop} [Decidable c] {x y : Dsk × Bs}, Q x → Q y → Q (if c then x else y) := fun hx hy => by split <;> assumption
 have hy : ∀ {b : Bool} {x y : Bs}, x.length ≤ 102 → y.length ≤ 102 → (yesNo b x y).length ≤ 102 := fun {b x y} hx hy => by unfold yesNo; split <;> assumption
 unfold dskLine dskDo dskNumbered
 refine hi (h0 _ (by decide)) (hi (h0 _ (by decide)) (hi (hp _) (hi (hp _) (hi hs (hi (h0 _ trapB_len) (hi (h0 _ (hy (by decide) (by decide))) (hi (h0 _ (by decide)) (hi (hp _) (hi (hp _) (hi (h0 _ ?_) (h0 _ (by decide))))))))))))
 split
 ·decide
 ·exact wordT_len
section
variable {l : List Ins} {c : Cor} {d : Dsk} {s : Bs} {p : Pik}
theorem fold_runs : ∀ (ns : List Int) {s : Stt}, sttOk s = true → ns.foldl (fun s n => run l s [n]) s = ns.foldl (runOne l) s
 | [], _, _ => rfl
 | n :: ns, s, h => by
  have h1 : run l s [n] = runOne l s n := by rw [run_go h (by simp)]; rfl
  rw [List.foldl_cons, List.foldl_cons, h1, fold_runs ns (runOne_ok h)]
theorem dskState_eq : dskState d = d.order.foldl (runOne d.list) sttNew := fold_runs _ sttNew_ok
def DKept (d : Dsk) : Prop := Kept d.list sttNew (d.c, d.order)
theorem dk_same (h : DKept d) : dskSame d = true := by unfold dskSame; rw [dskState_eq]; exact alike_of h.2
theorem dk_pick (h : DKept d) : DKept (dskPick d p).1 := kept_step (p := p) h
theorem dk_settle (h : DKept d) : DKept (dskSettle d).1 := by
 obtain ⟨j, j1, j2, j3, _⟩ := settle_inv h.1
 refine ⟨j2, ?_⟩
 show (settle d.c).1.s = (d.order ++ List.replicate (settle d.c).2.toNat (-1)).foldl (runOne d.list) sttNew
 rw [j1, Int.toNat_natCast, List.foldl_append, fold_rep, j3]
 exact congrArg (stepN d.list j) h.2
theorem dk_line (h : DKept d) : DKept (dskLine d s).1 := line_cases (Q := fun x => DKept x.1) (fun _ _ => h) (fun _ => dk_pick h) (dk_settle h)
theorem dk_new {t : Bs} (h : (dskNew t).2 = true) : DKept (dskNew t).1 := by
 cases h1 : (codeRead t).2 with
 | true =>
  rw [dskNew_yes h1]
  refine ⟨inv_new sttNew_ok, ?_⟩
  show (corNew sttNew).s = _
  rw [corNew_go sttNew_ok]
  rfl
 | false => rw [dskNew_no h1] at h; cases h
theorem pick_stays (h : corOk c = true) (h2 : (corPick l c p).2 = false) : (corPick l c p).1 = c := by
 by_cases h1 : p.kind = 1
 ·rw [pick_1 h h1] at h2 ⊢
  rw [pull_same h h2]
 ·by_cases h3 : p.kind = 2
  ·rw [pick_2 h h3] at h2 ⊢
   cases hr : ready c p.n with
   | true => rw [do_on h hr] at h2; cases h2
   | false => rw [do_idle h hr]
  ·by_cases h4 : p.kind = 3
   ·rw [pick_3 h h4] at h2 ⊢
    rw [commit_same h h2]
   ·by_cases h5 : p.kind = 4
    ·cases hn : inR p.n 0 23 with
     | true => rw [pick_4 h h5, hn] at h2; cases h2
     | false => rw [pick_out h h5 hn]
    ·rw [pick_5 h h1 h3 h4 h5]
theorem itoa_nope {n : Int} (h : 0 ≤ n) {x : Bs} (hx : x = [] ∨ ∃ b r, x = b :: r ∧ ¬ digit b) : itoa n ≠ x := fun e => by
 rcases hx with rfl | ⟨b, r, rfl, hb⟩
 ·exact itoa_ne e
 ·rw [itoa_nat h] at e
  exact hb (dec_all _ b (by rw [e]; simp))
theorem settle_told : (dskSettle d).2 ≠ tWhat ∧ (dskSettle d).2 ≠ [] ∧ (dskSettle d).2 ≠ tNo := by
 have h := (settle_many (c := d.c)).1
 exact ⟨itoa_nope h (Or.inr ⟨119, [104, 97, 116], rfl, by decide⟩), itoa_nope h (Or.inl rfl), itoa_nope h (Or.inr ⟨110, [111], rfl, by decide⟩)⟩
theorem line_stays (h : corOk d.c = true) (h2 : (dskLine d s).2 = tWhat ∨ (dskLine d s).2 = [] ∨ (dskLine d s).2 = tNo ∨ s = wTrap ∨ s = wSame) : (dskLine d s).1.c = d.c := by
 have hp : ∀ p : Pik, ((dskPick d p).2 = tWhat ∨ (dskPick d p).2 = [] ∨ (dskPick d p).2 = tNo) → (dskPick d p).1.c = d.c := fun p g => by
  refine pick_stays h ?_
  cases hb : (corPick d.list d.c p).2 with
  | false => rfl
  | true =>
   exfalso
   have e : (dskPick d p).2 = tOk := by show yesNo (corPick d.list d.c p).2 tOk tNo = _; rw [hb]; rfl
   rw [e] at g
   revert g
   decide
 have hs : ((dskSettle d).2 = tWhat ∨ (dskSettle d).2 = [] ∨ (dskSettle d).2 = tNo) → (dskSettle d).1.c = d.c := fun g => by
  have := settle_told (d := d)
  rcases g with g | g | g
  ·exact absurd g this.1
  ·exact absurd g this.2.1
  ·exact absurd g this.2.2
 by_cases hw : s = wTrap ∨ s = wSame
 ·rcases hw with rfl | rfl
  ·simp [dskLine, dskDo, h, wTrap, wPull, wCommit, wSettle]
  ·simp [dskLine, dskDo, h, wTrap, wPull, wCommit, wSettle, wSame]
 ·replace h2 : (dskLine d s).2 = tWhat ∨ (dskLine d s).2 = [] ∨ (dskLine d s).2 = tNo := by
   rcases h2 with g | g | g | g | g
   ·exact Or.inl g
   ·exact Or.inr (Or.inl g)
   ·exact Or.inr (Or.inr g)
   ·exact absurd (Or.inl g) hw
   ·exact absurd (Or.inr g) hw
  exact line_cases (s := s) (Q := fun x => (x.2 = tWhat ∨ x.2 = [] ∨ x.2 = tNo) → x.1.c = d.c) (fun _ _ _ => rfl) hp hs h2
theorem dskPick_fit (h : d.fit) (ho : d.order.length + 1 ≤ 1048576) : (dskPick d p).1.fit := by
 refine ⟨h.1, pick_fit h.2.1, ?_⟩
 show (d.order ++ if (corPick d.list d.c p).2 = true then noted p else []).length ≤ _
 have := note_len (p := p)
 rw [List.length_append]
 split
 ·omega
 ·simp; omega
end
end Go.Proofs.YtgpjgljgplngpaaGreatDoor.AM
namespace Go.Proofs.YtgpjgljgplngpaaGreatDoor.AM
open Go
theorem deadBlk_eq : deadBlk = ⟨0, [], false, false⟩ := (rfl)
attribute [go_sem] deadBlk_eq
def rIv (l : Bs) (D : List Bs) (a i : Nat) : Prop := (i ≤ l.length ∧ a ≤ i ∧ D ++ rowsS (l.drop i) ((l.take i).drop a) = rowsS l []) ∨ (i = l.length + 1 ∧ D = rowsS l [])
section
variable {l : Bs} {D : List Bs} {a i : Nat}
end
theorem line_fit {d : Dsk} {s : Bs} (h : d.fit) (ho : d.order.length ≤ 1000000) : (dskLine d s).1.fit ∧ (dskLine d s).1.order.length ≤ d.order.length + 600 := by
 refine line_cases (Q := fun x => x.1.fit ∧ x.1.order.length ≤ d.order.length + 600) (fun t _ => ⟨h, by show d.order.length ≤ _; omega⟩) (fun p => ?_) ?_
 ·refine ⟨dskPick_fit h (by omega), ?_⟩
  show (d.order ++ if (corPick d.list d.c p).2 = true then noted p else []).length ≤ _
  have := note_len (p := p)
  rw [List.length_append]
  split
  ·omega
  ·simp
 ·have h1 := settle_many (c := d.c)
  have h2 : (dskSettle d).1.order.length = d.order.length + (settle d.c).2.toNat := by
   show (d.order ++ List.replicate (settle d.c).2.toNat (-1)).length = _
   rw [List.length_append, List.length_replicate]
  refine ⟨⟨h.1, settle_fit h.2.1, ?_⟩, ?_⟩ <;> rw [h2] <;> omega
theorem take_snoc {α : Type} {xs : List α} {i : Nat} {z : α} (h : i < xs.length) : xs.take (i + 1) = xs.take i ++ [xs.getD i z] := by rw [List.take_add_one]; simp [h]
theorem dskNew_order {t : Bs} : (dskNew t).1.order = [] := by unfold dskNew; split <;> rfl
section
variable {d : Dsk} {s w : Bs} {p : Pik} {x i k : Nat}
theorem pickD_on (h : (corPick d.list d.c p).2 = true) (h2 : isN p = true) : dskPick d p = (⟨d.list, (corPick d.list d.c p).1, d.order ++ [numI p]⟩, tOk) := by
 rw [dskPick, h, if_pos rfl, noteI h2]; rfl
theorem pickD_onS (h : (corPick d.list d.c p).2 = true) (h2 : isN p = true) : dskPick d p = (⟨d.list, (corPick d.list d.c p).1, d.order ++ [numS p]⟩, tOk) := by
 rw [dskPick, h, if_pos rfl, noteS h2]; rfl
theorem pickD_off (h : (corPick d.list d.c p).2 = false ∨ isN p = false) : dskPick d p = (⟨d.list, (corPick d.list d.c p).1, d.order⟩, yesNo (corPick d.list d.c p).2 tOk tNo) := by
 have e : (d.order ++ if (corPick d.list d.c p).2 = true then noted p else []) = d.order := by
  rcases h with h | h
  ·rw [if_neg (by rw [h]; exact Bool.noConfusion), List.append_nil]
  ·rw [note_off h, ite_self, List.append_nil]
 rw [dskPick, e]
theorem pick_not (h : (corPick d.list d.c p).2 = false ∨ isN p = false) : (corPick d.list d.c p).2 = false ∨ isN p = false := h
theorem numW_no (h : s.length < w.length + 2 ∨ w.length + 3 < s.length ∨ s.take w.length ≠ w ∨ s.getD w.length 0 ≠ 32) : numW s w = -1 := by rw [numW, if_pos h]
theorem numW_none (h : ¬ (s.length < w.length + 2 ∨ w.length + 3 < s.length ∨ s.take w.length ≠ w ∨ s.getD w.length 0 ≠ 32)) (e : scanW (s.drop (w.length + 1)) 0 = none) : numW s w = -1 := by rw [numW, if_neg h, e]
theorem numW_some (h : ¬ (s.length < w.length + 2 ∨ w.length + 3 < s.length ∨ s.take w.length ≠ w ∨ s.getD w.length 0 ≠ 32)) (e : scanW (s.drop (w.length + 1)) 0 = some x) : numW s w = if itoa (x : Int) = s.drop (w.length + 1) then (x : Int) else -1 := by rw [numW, if_neg h, e]
theorem scanW_go (h : i < s.length) (hd : digit (s.getD i 0)) : scanW (s.drop i) x = scanW (s.drop (i + 1)) (10 * x + ((s.getD i 0).toNat - 48)) := by rw [drop_at h, scanW, if_pos hd]
theorem scanW_no (h : i < s.length) (hd : ¬ digit (s.getD i 0)) : scanW (s.drop i) x = none := by rw [drop_at h, scanW, if_neg hd]
theorem scanW_end (h : s.length ≤ i) : scanW (s.drop i) x = some x := by rw [List.drop_of_length_le h, scanW]
end
section
variable {l w : Bs}
theorem atoV_rng (l : Bs) : -9223372036854775808 ≤ (atoV l).1 ∧ (atoV l).1 ≤ 9223372036854775807 := by
 unfold atoV
 split
 ·rename_i h
  exact Lib.atoiAll_bounds h
 ·exact ⟨by decide, by decide⟩
 ·simp only [Lib.atoiSat]
  split <;> exact ⟨by decide, by decide⟩
theorem num_off (h : (((atoV l).2 = false ∨ (l.length : Int) > 2) ∨ (atoV l).1 < 0) ∨ ¬ bt (itoa (atoV l).1) = bt l) : dskNum l = (0, false) := by
 rw [dskNum, if_pos]
 rcases h with ((h | h) | h) | h
 ·exact Or.inl h
 ·exact Or.inr (Or.inl (by omega))
 ·exact Or.inr (Or.inr (Or.inl h))
 ·exact Or.inr (Or.inr (Or.inr fun e => h (by rw [e])))
theorem num_on (h : (((atoV l).2 = true ∧ ¬ (l.length : Int) > 2) ∧ ¬ (atoV l).1 < 0) ∧ bt (itoa (atoV l).1) = bt l) : dskNum l = ((atoV l).1, true) := by
 rw [dskNum, if_neg]
 rintro (g | g | g | g)
 ·rw [h.1.1.1] at g; cases g
 ·have := h.1.1.2; omega
 ·exact h.1.2 g
 ·exact g (bt_inj.1 h.2)
abbrev numOff (l w : Bs) : Prop := l.length < w.length + 2 ∨ w.length + 3 < l.length ∨ l.take w.length ≠ w ∨ l.getD w.length 0 ≠ 32
theorem nw_yes (h : (((l.length : Int) < ((w.length + 2 : Nat) : Int) ∨ (l.length : Int) > ((w.length + 3 : Nat) : Int)) ∨ ¬ bt (l.take w.length) = bt w) ∨ ¬ ((l.getD w.length 0).toNat : Int) = 32) : numOff l w := by
 rcases h with ((h | h) | h) | h
 ·exact Or.inl (by omega)
 ·exact Or.inr (Or.inl (by omega))
 ·exact Or.inr (Or.inr (Or.inl fun e => h (by rw [e])))
 ·exact Or.inr (Or.inr (Or.inr fun e => h (by rw [e]; rfl)))
theorem nw_not (h : ((¬ (l.length : Int) < ((w.length + 2 : Nat) : Int) ∧ ¬ (l.length : Int) > ((w.length + 3 : Nat) : Int)) ∧ bt (l.take w.length) = bt w) ∧ ((l.getD w.length 0).toNat : Int) = 32) : ¬ numOff l w := by
 rintro (g | g | g | g)
 ·have := h.1.1.1; omega
 ·have := h.1.1.2; omega
 ·exact g (bt_inj.1 h.1.2)
 ·exact g (by rw [← UInt8.toNat_inj]; have := h.2; have h2 : ((32 : UInt8).toNat) = 32 := rfl; omega)
end
def fillK (k m : Nat) : List Int := List.replicate m (-1) ++ List.replicate (k - m) 0
section
variable {k m : Nat}
theorem fillK_len (h : m ≤ k) : (fillK k m).length = k := by simp [fillK]; omega
theorem fillK_lenI (h : m ≤ k) : (ints (fillK k m)).length = k := by rw [ints_len, fillK_len h]
theorem fillK_start : putAt (ints (List.replicate k 0)) 0 (List.take (Nat.min 1 k) [.int .i64 (-1)]) = ints (fillK k (Nat.min 1 k)) := by
 cases k with
 | zero => rfl
 | succ k =>
  have e : Nat.min 1 (k + 1) = 1 := by show min 1 (k + 1) = 1; omega
  rw [e]
  show putAt (ints (List.replicate (k + 1) 0)) 0 (ints [-1]) = _
  rw [ints_putMany]
  simp [fillK, List.replicate_succ]
theorem fillK_end : fillK k k = List.replicate k (-1) := by simp [fillK]
theorem fillK_copy (h : m ≤ k) : putAt (ints (fillK k m)) m (((ints (fillK k m)).take m).take (Nat.min m (k - m))) = ints (fillK k (m + Nat.min m (k - m))) := by
 have e1 : (fillK k m).take m = List.replicate m (-1) := by rw [fillK, List.take_left' (by simp)]
 have e2 : Nat.min m (k - m) = min m (k - m) := rfl
 rw [ints_takeN, e1, ints_takeN, List.take_replicate, e2, show min (min m (k - m)) m = min m (k - m) by omega, ints_putMany, e1]
 congr 1
 have e3 : (fillK k m).drop (m + (List.replicate (min m (k - m)) (-1 : Int)).length) = List.replicate (k - (m + min m (k - m))) 0 := by
  rw [List.length_replicate, ← List.drop_drop, fillK, List.drop_left' (by simp), List.drop_replicate]
  congr 1
  omega
 rw [e3, fillK, ← List.append_assoc, List.replicate_append_replicate]
theorem wrapU_small (h : k ≤ 600) : IntKind.u64.wrap (k : Int) = (k : Int) := by
 have : ∀ n : Fin 601, IntKind.u64.wrap (n.val : Int) = (n.val : Int) := by decide +kernel
 exact this ⟨k, by omega⟩
end
section
variable {d : Dsk} {l w : Bs} {n : Int} {os : List Int} {ls : List Ins} {s u : Stt} {i : Nat}
theorem foldR_take (h : i < os.length) (he : (os.take i).foldl (fun s n => run ls s [n]) s = u) : (os.take (i + 1)).foldl (fun s n => run ls s [n]) s = run ls u [os.getD i 0] := by
 rw [take_snoc (z := 0) h, List.foldl_append, he]
 rfl
theorem nm_do (c1 : bt w = bt [100, 111]) : dskNumbered d w n = dskPick d ⟨2, n⟩ := by rw [dskNumbered, if_pos (show w = wDo from bt_inj.1 c1)]
theorem ne_of {x y : Bs} (h : ¬ bt x = bt y) : ¬ x = y := fun e => h (by rw [e])
theorem nm_sweep (c1 : ¬ bt w = bt [100, 111]) (c2 : bt w = bt [115, 119, 101, 101, 112]) : dskNumbered d w n = dskPick d ⟨4, n⟩ := by rw [dskNumbered, if_neg (show ¬ w = wDo from ne_of c1), if_pos (show w = wSweep from bt_inj.1 c2)]
theorem nm_none (c1 : ¬ bt w = bt [100, 111]) (c2 : ¬ bt w = bt [115, 119, 101, 101, 112]) (c3 : bt w = bt [114, 101, 103]) (c4 : n ≥ 8) : dskNumbered d w n = (d, tNone) := by rw [dskNumbered, if_neg (show ¬ w = wDo from ne_of c1), if_neg (show ¬ w = wSweep from ne_of c2), if_pos (show w = wReg from bt_inj.1 c3), if_pos c4]
theorem nm_reg (c1 : ¬ bt w = bt [100, 111]) (c2 : ¬ bt w = bt [115, 119, 101, 101, 112]) (c3 : bt w = bt [114, 101, 103]) (c4 : ¬ n ≥ 8) : dskNumbered d w n = (d, wordT (reg d.c.s n)) := by rw [dskNumbered, if_neg (show ¬ w = wDo from ne_of c1), if_neg (show ¬ w = wSweep from ne_of c2), if_pos (show w = wReg from bt_inj.1 c3), if_neg c4]
theorem nm_what (c1 : ¬ bt w = bt [100, 111]) (c2 : ¬ bt w = bt [115, 119, 101, 101, 112]) (c3 : ¬ bt w = bt [114, 101, 103]) : dskNumbered d w n = (d, tWhat) := by rw [dskNumbered, if_neg (show ¬ w = wDo from ne_of c1), if_neg (show ¬ w = wSweep from ne_of c2), if_neg (show ¬ w = wReg from ne_of c3)]
theorem ln_pull (c1 : bt l = bt [112, 117, 108, 108]) : dskDo d l = dskPick d ⟨1, 0⟩ := by rw [dskDo, if_pos (show l = wPull from bt_inj.1 c1)]
theorem ln_commit (c1 : ¬ bt l = bt [112, 117, 108, 108]) (c2 : bt l = bt [99, 111, 109, 109, 105, 116]) : dskDo d l = dskPick d ⟨3, 0⟩ := by rw [dskDo, if_neg (show ¬ l = wPull from ne_of c1), if_pos (show l = wCommit from bt_inj.1 c2)]
theorem ln_settle (c1 : ¬ bt l = bt [112, 117, 108, 108]) (c2 : ¬ bt l = bt [99, 111, 109, 109, 105, 116]) (c3 : bt l = bt [115, 101, 116, 116, 108, 101]) : dskDo d l = dskSettle d := by rw [dskDo, if_neg (show ¬ l = wPull from ne_of c1), if_neg (show ¬ l = wCommit from ne_of c2), if_pos (show l = wSettle from bt_inj.1 c3)]
theorem ln_trap (c1 : ¬ bt l = bt [112, 117, 108, 108]) (c2 : ¬ bt l = bt [99, 111, 109, 109, 105, 116]) (c3 : ¬ bt l = bt [115, 101, 116, 116, 108, 101]) (c4 : bt l = bt [116, 114, 97, 112]) : dskDo d l = (d, trapB d.c.s.trap) := by rw [dskDo, if_neg (show ¬ l = wPull from ne_of c1), if_neg (show ¬ l = wCommit from ne_of c2), if_neg (show ¬ l = wSettle from ne_of c3), if_pos (show l = wTrap from bt_inj.1 c4)]
theorem ln_same (c1 : ¬ bt l = bt [112, 117, 108, 108]) (c2 : ¬ bt l = bt [99, 111, 109, 109, 105, 116]) (c3 : ¬ bt l = bt [115, 101, 116, 116, 108, 101]) (c4 : ¬ bt l = bt [116, 114, 97, 112]) (c5 : bt l = bt [115, 97, 109, 101]) : dskDo d l = (d, yesNo (dskSame d) tYes tNo) := by rw [dskDo, if_neg (show ¬ l = wPull from ne_of c1), if_neg (show ¬ l = wCommit from ne_of c2), if_neg (show ¬ l = wSettle from ne_of c3), if_neg (show ¬ l = wTrap from ne_of c4), if_pos (show l = wSame from bt_inj.1 c5)]
theorem ln_what (c1 : ¬ bt l = bt [112, 117, 108, 108]) (c2 : ¬ bt l = bt [99, 111, 109, 109, 105, 116]) (c3 : ¬ bt l = bt [115, 101, 116, 116, 108, 101]) (c4 : ¬ bt l = bt [116, 114, 97, 112]) (c5 : ¬ bt l = bt [115, 97, 109, 101]) (c6 : (dskNum (cutB l 32).2.1).2 = false) : dskDo d l = (d, tWhat) := by rw [dskDo, if_neg (show ¬ l = wPull from ne_of c1), if_neg (show ¬ l = wCommit from ne_of c2), if_neg (show ¬ l = wSettle from ne_of c3), if_neg (show ¬ l = wTrap from ne_of c4), if_neg (show ¬ l = wSame from ne_of c5), if_pos c6]
theorem ln_num (c1 : ¬ bt l = bt [112, 117, 108, 108]) (c2 : ¬ bt l = bt [99, 111, 109, 109, 105, 116]) (c3 : ¬ bt l = bt [115, 101, 116, 116, 108, 101]) (c4 : ¬ bt l = bt [116, 114, 97, 112]) (c5 : ¬ bt l = bt [115, 97, 109, 101]) (c6 : (dskNum (cutB l 32).2.1).2 = true) : dskDo d l = dskNumbered d (cutB l 32).1 (dskNum (cutB l 32).2.1).1 := by rw [dskDo, if_neg (show ¬ l = wPull from ne_of c1), if_neg (show ¬ l = wCommit from ne_of c2), if_neg (show ¬ l = wSettle from ne_of c3), if_neg (show ¬ l = wTrap from ne_of c4), if_neg (show ¬ l = wSame from ne_of c5), if_neg (by rw [c6]; exact Bool.noConfusion)]
end
section
variable {d : Dsk} {l : Bs} {os : List Int} {i : Nat}
theorem dskState_fit (d : Dsk) : (dskState d).fit := by
 have h : ∀ (ns : List Int) {s : Stt}, s.fit → (ns.foldl (fun s n => run d.list s [n]) s).fit := fun ns => by
  induction ns with
  | nil => exact fun h => h
  | cons n ns ih => exact fun h => ih (run_fit h)
 exact h _ sttNew_fit
theorem ints_one (h : i < os.length) : ((ints os).drop i).take 1 = [.int .i64 (os.getD i 0)] := by
 have e : (ints os).drop i = ints (os.drop i) := by simp only [ints, List.map_drop]
 have e2 : os.getD i 0 = os[i] := by rw [List.getD_eq_getElem?_getD, List.getElem?_eq_getElem h]; rfl
 rw [e, List.drop_eq_getElem_cons h, e2]
 rfl
theorem head59 (h : ¬ l = []) : l.head? = some 59 ↔ (l.getD 0 0).toNat = 59 := by
 cases l with
 | nil => exact absurd rfl h
 | cons b r =>
  simp only [List.head?_cons, Option.some.injEq, List.getD_cons_zero]
  rw [← UInt8.toNat_inj]
  exact Iff.rfl
theorem semi_yes (c : bt l = bt [] ∨ ((l.getD 0 0).toNat : Int) = 59) : l = [] ∨ l.head? = some 59 := by
 by_cases h : l = []
 ·exact Or.inl h
 ·exact Or.inr ((head59 h).2 (by have := c.resolve_left (fun e => h (bt_inj.1 e)); omega))
theorem semi_no (c : ¬ bt l = bt [] ∧ ¬ ((l.getD 0 0).toNat : Int) = 59) : ¬ (l = [] ∨ l.head? = some 59) := by
 rintro (g | g)
 ·exact c.1 (by rw [g])
 ·have := (head59 (fun e => c.1 (by rw [e]))).1 g
  exact c.2 (by omega)
theorem dl_bad (c1 : corOk d.c = false) : dskLine d l = (d, tBad) := by rw [dskLine, if_pos c1]
theorem dl_none (c1 : corOk d.c = true) (c2 : bt l = bt [] ∨ ((l.getD 0 0).toNat : Int) = 59) : dskLine d l = (d, []) := by rw [dskLine, if_neg (by rw [c1]; exact Bool.noConfusion), if_pos (semi_yes c2)]
theorem dl_do (c1 : corOk d.c = true) (c2 : ¬ bt l = bt [] ∧ ¬ ((l.getD 0 0).toNat : Int) = 59) : dskLine d l = dskDo d l := by rw [dskLine, if_neg (by rw [c1]; exact Bool.noConfusion), if_neg (semi_no c2)]
theorem as_trap (c1 : bt l = bt [116, 114, 97, 112]) : askedS d l = trapB d.c.s.trap := by rw [askedS, if_pos (show l = wTrap from bt_inj.1 c1)]
theorem as_same (c1 : ¬ bt l = bt [116, 114, 97, 112]) (c2 : bt l = bt [115, 97, 109, 101]) : askedS d l = yesNo (dskSame d) tYes tNo := by rw [askedS, if_neg (show ¬ l = wTrap from ne_of c1), if_pos (show l = wSame from bt_inj.1 c2)]
theorem as_none (c1 : ¬ bt l = bt [116, 114, 97, 112]) (c2 : ¬ bt l = bt [115, 97, 109, 101]) (c3 : numW l wReg < 0) : askedS d l = [] := by rw [askedS, if_neg (show ¬ l = wTrap from ne_of c1), if_neg (show ¬ l = wSame from ne_of c2), if_pos c3]
theorem as_far (c1 : ¬ bt l = bt [116, 114, 97, 112]) (c2 : ¬ bt l = bt [115, 97, 109, 101]) (c3 : ¬ numW l wReg < 0) (c4 : numW l wReg > 7) : askedS d l = tNone := by rw [askedS, if_neg (show ¬ l = wTrap from ne_of c1), if_neg (show ¬ l = wSame from ne_of c2), if_neg c3, if_pos c4]
theorem as_reg (c1 : ¬ bt l = bt [116, 114, 97, 112]) (c2 : ¬ bt l = bt [115, 97, 109, 101]) (c3 : ¬ numW l wReg < 0) (c4 : ¬ numW l wReg > 7) : askedS d l = wordT (reg d.c.s (numW l wReg)) := by rw [askedS, if_neg (show ¬ l = wTrap from ne_of c1), if_neg (show ¬ l = wSame from ne_of c2), if_neg c3, if_neg c4]
end
section
variable {d : Dsk} {l : Bs}
theorem sl_bad (c1 : corOk d.c = false) : dskLineS d l = (d, tBad) := by rw [dskLineS, if_pos c1]
theorem sl_none (hk : corOk d.c = true) (c2 : bt l = bt [] ∨ ((l.getD 0 0).toNat : Int) = 59) : dskLineS d l = (d, []) := by rw [dskLineS, if_neg (by rw [hk]; exact Bool.noConfusion), if_pos (semi_yes c2)]
theorem sl_said (hk : corOk d.c = true) (c2 : ¬ bt l = bt [] ∧ ¬ ((l.getD 0 0).toNat : Int) = 59) (c3 : ¬ bt (askedS d l) = bt []) : dskLineS d l = (d, askedS d l) := by rw [dskLineS, if_neg (by rw [hk]; exact Bool.noConfusion), if_neg (semi_no c2), if_pos (fun e => c3 (by rw [e]))]
theorem sl_go (hk : corOk d.c = true) (c2 : ¬ bt l = bt [] ∧ ¬ ((l.getD 0 0).toNat : Int) = 59) (c3 : bt (askedS d l) = bt []) : dskLineS d l = if l = wSettle then dskSettle d else if (pickS2 l).2 = false then (d, tWhat) else dskPick d (pickS2 l).1 := by
 rw [dskLineS, if_neg (by rw [hk]; exact Bool.noConfusion), if_neg (semi_no c2), if_neg (fun g => g (bt_inj.1 c3))]
theorem sl_settle (hk : corOk d.c = true) (c2 : ¬ bt l = bt [] ∧ ¬ ((l.getD 0 0).toNat : Int) = 59) (c3 : bt (askedS d l) = bt []) (c4 : bt l = bt [115, 101, 116, 116, 108, 101]) : dskLineS d l = dskSettle d := by rw [sl_go hk c2 c3, if_pos (show l = wSettle from bt_inj.1 c4)]
theorem sl_what (hk : corOk d.c = true) (c2 : ¬ bt l = bt [] ∧ ¬ ((l.getD 0 0).toNat : Int) = 59) (c3 : bt (askedS d l) = bt []) (c4 : ¬ bt l = bt [115, 101, 116, 116, 108, 101]) (c6 : (pickS2 l).2 = false) : dskLineS d l = (d, tWhat) := by rw [sl_go hk c2 c3, if_neg (show ¬ l = wSettle from ne_of c4), if_pos c6]
theorem sl_pick (hk : corOk d.c = true) (c2 : ¬ bt l = bt [] ∧ ¬ ((l.getD 0 0).toNat : Int) = 59) (c3 : bt (askedS d l) = bt []) (c4 : ¬ bt l = bt [115, 101, 116, 116, 108, 101]) (c6 : (pickS2 l).2 = true) : dskLineS d l = dskPick d (pickS2 l).1 := by rw [sl_go hk c2 c3, if_neg (show ¬ l = wSettle from ne_of c4), if_neg (by rw [c6]; exact Bool.noConfusion)]
theorem rep_next {o a : List Int} {i : Nat} (h : o = a ++ List.replicate i (-1)) : o ++ [-1] = a ++ List.replicate (i + 1) (-1) := by rw [h, List.append_assoc, List.replicate_succ']
end
section
variable {l t : Bs} {D : List Bs} {a i : Nat} {d : Dsk} {o : Bs}
end
section
variable {l t x : Bs} {D : List Bs} {d d0 : Dsk} {o : Bs} {L : List Ins}
theorem codeT_len (h : L.length ≤ 24) : (codeT L).length ≤ 2352 := by
 unfold codeT
 split
 ·have := codeB_len L
  omega
 ·simp
end
section
variable {d q : Dsk} {s t : Bs}
theorem stays_or (h : corOk d.c = true) (hb : ((((decide (bt (dskLine d s).2 = bt [119, 104, 97, 116]) || decide (bt (dskLine d s).2 = bt [])) || decide (bt (dskLine d s).2 = bt [110, 111])) || decide (bt s = bt [116, 114, 97, 112])) || decide (bt s = bt [115, 97, 109, 101])) = true) : (dskLine d s).1.c = d.c := by
 simp only [Bool.or_eq_true, decide_eq_true_eq, bt_inj] at hb
 refine line_stays h ?_
 rcases hb with (((g | g) | g) | g) | g
 ·exact Or.inl g
 ·exact Or.inr (Or.inl g)
 ·exact Or.inr (Or.inr (Or.inl g))
 ·exact Or.inr (Or.inr (Or.inr (Or.inl g)))
 ·exact Or.inr (Or.inr (Or.inr (Or.inr g)))
theorem same_yes (h : DKept q) : (dskLine q wSame).2 = tYes := by
 have e : dskLine q wSame = (q, yesNo (dskSame q) tYes tNo) := by
  rw [dl_do h.1.ok (by decide), ln_same (l := wSame) (by decide) (by decide) (by decide) (by decide) rfl]
 rw [e, dk_same h]
 rfl
theorem same_bad (h : (dskNew t).2 = false) : (dskLine (dskNew t).1 wSame).2 = tBad := by
 have h1 : (dskNew t).1 = ⟨[], noCor, []⟩ := by
  cases h2 : (codeRead t).2 with
  | true => rw [dskNew_yes h2] at h; cases h
  | false => rw [dskNew_no h2]
 rw [h1, dl_bad (by decide)]
end
theorem w8_len {n : Nat} : (([[112, 117, 108, 108], [112, 117, 108, 108], [100, 111, 32, 48], [100, 111, 32, 49], [100, 111, 32, 50], [99, 111, 109, 109, 105, 116], [115, 119, 101, 101, 112, 32, 51], [115, 101, 116, 116, 108, 101]] : List Bs).getD n []).length ≤ 8 := by
 have all : ∀ w, w ∈ ([[112, 117, 108, 108], [112, 117, 108, 108], [100, 111, 32, 48], [100, 111, 32, 49], [100, 111, 32, 50], [99, 111, 109, 109, 105, 116], [115, 119, 101, 101, 112, 32, 51], [115, 101, 116, 116, 108, 101]] : List Bs) → w.length ≤ 8 := by decide
 rcases Nat.lt_or_ge n 8 with h | h
 ·exact all _ (strs_mem h)
 ·rw [List.getD_eq_getElem?_getD, List.getElem?_eq_none (by exact h)]
  exact Nat.zero_le _
end Go.Proofs.YtgpjgljgplngpaaGreatDoor.AM
