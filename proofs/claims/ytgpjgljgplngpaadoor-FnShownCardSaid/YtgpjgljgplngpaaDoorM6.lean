/- What is drawn; what steps and picks keep right. No conditions. -/
import Derived.Test.YtgpjgljgplngpaaDoorM5
set_option linter.unusedVariables false
set_option linter.unusedSimpArgs false
namespace Go.Proofs.YtgpjgljgplngpaaDoor.AM
open Go

/-! ### numbers -/
theorem band_le {a m : Int} (h : 0 ≤ m ∧ m ≤ 1048576) : 0 ≤ band a m ∧ band a m ≤ m := by
  show 0 ≤ IntKind.i64.wrap (((BitVec.ofInt 64 a &&& BitVec.ofInt 64 m).toNat : Nat) : Int) ∧ IntKind.i64.wrap (((BitVec.ofInt 64 a &&& BitVec.ofInt 64 m).toNat : Nat) : Int) ≤ m
  have hm : (BitVec.ofInt 64 m).toNat = m.toNat := by rw [BitVec.toNat_ofInt]; omega
  have h1 : (BitVec.ofInt 64 a &&& BitVec.ofInt 64 m).toNat ≤ m.toNat := by rw [BitVec.toNat_and, hm]; exact Nat.and_le_right
  rw [wrap64 (by omega)]
  omega
theorem band_sub {a b : Int} (ha : 0 ≤ a ∧ a ≤ 1048576) : band a (band a b) = band a b := by
  show IntKind.i64.wrap (((BitVec.ofInt 64 a &&& BitVec.ofInt 64 (IntKind.i64.wrap (((BitVec.ofInt 64 a &&& BitVec.ofInt 64 b).toNat : Nat) : Int))).toNat : Nat) : Int) = IntKind.i64.wrap (((BitVec.ofInt 64 a &&& BitVec.ofInt 64 b).toNat : Nat) : Int)
  have hm : (BitVec.ofInt 64 a).toNat = a.toNat := by rw [BitVec.toNat_ofInt]; omega
  have h1 : (BitVec.ofInt 64 a &&& BitVec.ofInt 64 b).toNat ≤ a.toNat := by rw [BitVec.toNat_and, hm]; exact Nat.and_le_left
  rw [wrap64 (x := (((BitVec.ofInt 64 a &&& BitVec.ofInt 64 b).toNat : Nat) : Int)) (by omega), BitVec.ofInt_natCast, BitVec.ofNat_toNat, BitVec.setWidth_eq, ← BitVec.and_assoc, BitVec.and_self]
  rw [wrap64 (by omega)]
theorem band_self {a : Int} (ha : 0 ≤ a ∧ a ≤ 1048576) : band a a = a := by
  show IntKind.i64.wrap (((BitVec.ofInt 64 a &&& BitVec.ofInt 64 a).toNat : Nat) : Int) = a
  have hm : (BitVec.ofInt 64 a).toNat = a.toNat := by rw [BitVec.toNat_ofInt]; omega
  rw [BitVec.and_self, hm, wrap64 (by omega)]
  omega
theorem band_trans {a b c : Int} (ha : 0 ≤ a ∧ a ≤ 1048576) (hb : 0 ≤ b ∧ b ≤ 1048576) (hc : 0 ≤ c ∧ c ≤ 1048576) (h1 : band a b = b) (h2 : band b c = c) : band a c = c := by
  have e : ∀ {x y : Int}, 0 ≤ x ∧ x ≤ 1048576 → 0 ≤ y ∧ y ≤ 1048576 → (band x y = y ↔ BitVec.ofInt 64 x &&& BitVec.ofInt 64 y = BitVec.ofInt 64 y) := by
    intro x y hx hy
    have my : (BitVec.ofInt 64 y).toNat = y.toNat := by rw [BitVec.toNat_ofInt]; omega
    have h3 : (BitVec.ofInt 64 x &&& BitVec.ofInt 64 y).toNat ≤ y.toNat := by rw [BitVec.toNat_and, my]; exact Nat.and_le_right
    have : band x y = (((BitVec.ofInt 64 x &&& BitVec.ofInt 64 y).toNat : Nat) : Int) := by
      show IntKind.i64.wrap (((BitVec.ofInt 64 x &&& BitVec.ofInt 64 y).toNat : Nat) : Int) = _
      rw [wrap64 (by omega)]
    rw [this]
    constructor
    · intro h
      apply BitVec.eq_of_toNat_eq
      rw [my]
      omega
    · intro h
      rw [h, my]
      omega
  rw [e ha hb] at h1
  rw [e hb hc] at h2
  rw [e ha hc, ← h2, ← BitVec.and_assoc, h1]

/-! ### what is made of words -/
theorem low_rng (n : Int) : 0 ≤ low n ∧ low n ≤ 65535 := band_le (by decide)
theorem plain_ok (n : Int) : wordOk (plain n) = true := by
  have := low_rng n
  simp only [wordOk, plain, Bool.and_eq_true, inR_iff]
  exact ⟨this, by simp⟩
theorem noWord_ok : wordOk noWord = true := by decide
theorem bare_ok {w : Word} : wordOk (bare w) = true := plain_ok _
theorem wordOk_iff {w : Word} : wordOk w = true ↔ (0 ≤ w.n ∧ w.n ≤ 65535) ∧ (if w.is = true then keyOk w.key = true else w.key = noKey) := by
  simp only [wordOk, Bool.and_eq_true, inR_iff]
  cases w.is <;> simp
theorem keyOk_iff {k : Key} : keyOk k = true ↔ exact k.base k.top = true ∧ (0 ≤ k.perms ∧ k.perms ≤ 63) ∧ (0 ≤ k.lock ∧ k.lock ≤ 7) := by
  simp only [keyOk, Bool.and_eq_true, inR_iff, and_assoc]
theorem opened_parts {w : Word} (h : opened w = true) : (0 ≤ w.n ∧ w.n ≤ 65535) ∧ w.is = true ∧ keyOk w.key = true ∧ w.key.lock = 0 := by
  simp only [opened, Bool.and_eq_true, decide_eq_true_eq] at h
  have h1 := wordOk_iff.1 h.1.1
  rw [if_pos h.1.2] at h1
  exact ⟨h1.1, h.1.2, h1.2, h.2⟩
theorem weaken_ok {w : Word} {m : Int} : wordOk (weaken w m) = true := by
  unfold weaken
  split
  · rename_i h
    obtain ⟨h1, h2, h3, h4⟩ := opened_parts h
    rw [wordOk_iff]
    simp only [h2, if_true]
    refine ⟨h1, ?_⟩
    rw [keyOk_iff] at h3 ⊢
    have e1 : 0 ≤ band m 63 ∧ band m 63 ≤ 63 := band_le (by decide)
    have e2 : 0 ≤ band w.key.perms (band m 63) ∧ band w.key.perms (band m 63) ≤ band m 63 := band_le (by omega)
    exact ⟨h3.1, by simp only; omega, h3.2.2⟩
  · exact bare_ok
theorem point_ok {w : Word} {n : Int} : wordOk (point w n) = true := by
  unfold point
  split
  · rename_i h
    obtain ⟨h1, h2, h3, h4⟩ := opened_parts h
    rw [wordOk_iff]
    simp only [h2, if_true]
    exact ⟨low_rng n, h3⟩
  · exact plain_ok _
theorem sealer_rng {w : Word} (h : sealer w = true) : 1 ≤ w.n ∧ w.n ≤ 7 := by
  simp only [sealer, Bool.and_eq_true, inR_iff] at h
  exact h.2
theorem seal_ok {w b : Word} : wordOk (sealBy w b) = true := by
  unfold sealBy
  split
  · rename_i h
    obtain ⟨h1, h2, h3, h4⟩ := opened_parts h.1
    have h5 := sealer_rng h.2
    rw [wordOk_iff]
    simp only [h2, if_true]
    rw [keyOk_iff] at h3 ⊢
    exact ⟨h1, h3.1, h3.2.1, by simp only; omega⟩
  · exact bare_ok
theorem open_ok {w b : Word} : wordOk (openBy w b) = true := by
  unfold openBy
  split
  · rename_i h
    have h1 := wordOk_iff.1 h.1
    rw [if_pos h.2.1] at h1
    rw [wordOk_iff]
    simp only [h.2.1, if_true]
    have h3 := keyOk_iff.1 h1.2
    exact ⟨h1.1, keyOk_iff.2 ⟨h3.1, h3.2.1, Int.le_refl 0, by show (0 : Int) ≤ 7; decide⟩⟩
  · exact bare_ok

/-! ### bounds that are packed are packed as they are -/
theorem packFrom_some {b t : Int} : ∀ (n e : Nat) {r : Nat}, packFrom b t n e = some r → e ≤ r ∧ r < e + n ∧ packFits b t r = true
  | 0, _, _, h => by cases h
  | n + 1, e, r, h => by
    rw [packFrom] at h
    split at h
    · rename_i hf
      obtain rfl := Option.some.inj h
      exact ⟨Nat.le_refl _, by omega, hf⟩
    · have := packFrom_some n (e + 1) h
      exact ⟨by omega, by omega, this.2.2⟩
theorem packFrom_le {b t : Int} : ∀ (n e : Nat) {r : Nat}, e ≤ r → r < e + n → packFits b t r = true → ∃ q, packFrom b t n e = some q ∧ q ≤ r
  | 0, _, _, h1, h2, _ => by omega
  | n + 1, e, r, h1, h2, h3 => by
    rw [packFrom]
    split
    · exact ⟨e, rfl, h1⟩
    · rename_i hf
      have : e ≠ r := fun h => hf (h ▸ h3)
      exact packFrom_le n (e + 1) (by omega) (by omega) h3
theorem wide_of {b t : Int} {e : Nat} (hb : boundsOk b t = true) (h : packAt b t = some e) : wide b t = (packB b e * 2 ^ e, min ((packB b e + packL b t e) * 2 ^ e) 4096) := by
  have hs := packFrom_some 7 0 h
  have hp : pack b t = (((e : Int), packB b e, packL b t e), true) := by rw [pack, if_pos hb, h]
  have h7 := pow7 (i := e) (by omega)
  have hf := hs.2.2
  simp only [packFits, Bool.and_eq_true, decide_eq_true_eq] at hf
  have hB := packB_rng (i := e) hb (by omega)
  have hL : 0 ≤ packL b t e := by
    have := boundsOk_iff.1 hb
    unfold packL
    exact Int.ediv_nonneg (by omega) (by omega)
  unfold wide
  rw [hp]
  simp only [if_true]
  have hu : unpack (((e : Int), packB b e, packL b t e)) = (packB b e * 2 ^ e, min ((packB b e + packL b t e) * 2 ^ e) 4096, true) := by
    rw [unpack, if_pos]
    · simp only [Int.toNat_natCast]
    · simp only [inR_iff]; omega
  rw [hu]
theorem pow_split {e q : Nat} (h : q ≤ e) : (2 : Int) ^ e = 2 ^ (e - q) * 2 ^ q := by rw [← Int.pow_add]; congr 1; omega
theorem ceil_mul {x p : Int} (hp : 0 < p) (hx : 0 ≤ x) : (x * p + p - 1) / p = x := by
  rw [Int.ediv_eq_iff_of_pos hp]
  constructor <;> omega
theorem exact_of {b t : Int} {e : Nat} {B T : Int} (h7 : e < 7) (hb : boundsOk b t = true) (hB : b = B * 2 ^ e) (hT : t = T * 2 ^ e) (hBT : 0 ≤ B ∧ B ≤ T) (hf : packFits b t e = true) : exact b t = true := by
  obtain ⟨q, hq, hle⟩ := packFrom_le (b := b) (t := t) 7 0 (Nat.zero_le _) (by omega) hf
  have hw := wide_of hb hq
  have hp := pow7 (i := q) (by omega)
  have hs := pow_split hle
  have h1 : packB b q = B * 2 ^ (e - q) := by
    unfold packB
    rw [hB, hs, ← Int.mul_assoc, Int.mul_ediv_cancel _ (by omega)]
  have h2 : packL b t q = T * 2 ^ (e - q) - B * 2 ^ (e - q) := by
    unfold packL
    rw [h1, hT, hs, ← Int.mul_assoc, ← Int.sub_mul]
    refine ceil_mul (by omega) ?_
    rw [← Int.sub_mul]
    exact Int.mul_nonneg (by omega) (Int.pow_nonneg (by decide))
  have h3 : (packB b q + packL b t q) * 2 ^ q = t := by
    rw [h1, h2, hT, hs, ← Int.mul_assoc]
    congr 1
    omega
  have h4 : packB b q * 2 ^ q = b := by rw [h1, hB, hs, ← Int.mul_assoc]
  have hbt := boundsOk_iff.1 hb
  rw [exact, hb, hw]
  simp only [Bool.true_and, Bool.and_eq_true, decide_eq_true_eq]
  exact ⟨h4, by rw [h3]; omega⟩
theorem exact_wide {b t : Int} (hb : boundsOk b t = true) : exact (wide b t).1 (wide b t).2 = true := by
  cases hp : packAt b t with
  | none =>
    have : wide b t = (0, 4096) := by
      have hk : (pack b t).2 = false := by rw [pack, if_pos hb, hp]
      rw [wide, if_neg (by rw [hk]; exact Bool.noConfusion), if_pos hb]
    rw [this]
    decide
  | some e =>
    have hs := packFrom_some 7 0 hp
    have hw := wide_of hb hp
    have h2 := pow7 (i := e) (by omega)
    have hf := hs.2.2
    simp only [packFits, Bool.and_eq_true, decide_eq_true_eq] at hf
    have hB := packB_rng (i := e) hb (by omega)
    have hbt := boundsOk_iff.1 hb
    have hL : 0 ≤ packL b t e := by
      unfold packL
      exact Int.ediv_nonneg (by omega) (by omega)
    have hnn : 0 ≤ packL b t e * 2 ^ e := Int.mul_nonneg hL (by omega)
    have h46 : (4096 : Int) = 2 ^ (12 - e) * 2 ^ e := by rw [← Int.pow_add, show 12 - e + e = 12 by omega]; rfl
    have hmul : (packB b e + packL b t e) * 2 ^ e = packB b e * 2 ^ e + packL b t e * 2 ^ e := Int.add_mul _ _ _
    rw [hw]
    simp only
    by_cases hc : (packB b e + packL b t e) * 2 ^ e ≤ 4096
    · rw [show min ((packB b e + packL b t e) * 2 ^ e) 4096 = (packB b e + packL b t e) * 2 ^ e by omega]
      refine exact_of (e := e) (by omega) (boundsOk_iff.2 ⟨by omega, by omega, by omega⟩) rfl rfl ⟨hB.1, by omega⟩ ?_
      have e1 : packB (packB b e * 2 ^ e) e = packB b e := by
        show packB b e * 2 ^ e / 2 ^ e = _
        exact Int.mul_ediv_cancel _ (by omega)
      have e2 : packL (packB b e * 2 ^ e) ((packB b e + packL b t e) * 2 ^ e) e = packL b t e := by
        show ((packB b e + packL b t e) * 2 ^ e - packB (packB b e * 2 ^ e) e * 2 ^ e + 2 ^ e - 1) / 2 ^ e = _
        rw [e1, ← Int.sub_mul, show packB b e + packL b t e - packB b e = packL b t e by omega]
        exact ceil_mul (by omega) hL
      rw [packFits, e1, e2]
      simp only [hf.1, hf.2, decide_true, Bool.and_self]
    · rw [show min ((packB b e + packL b t e) * 2 ^ e) 4096 = 4096 by omega]
      have hle : packB b e ≤ 2 ^ (12 - e) := by
        refine Int.le_of_mul_le_mul_right ?_ (show (0 : Int) < 2 ^ e by omega)
        rw [← h46]; omega
      refine exact_of (e := e) (by omega) (boundsOk_iff.2 ⟨by omega, by omega, by omega⟩) rfl h46 ⟨hB.1, hle⟩ ?_
      have e1 : packB (packB b e * 2 ^ e) e = packB b e := by
        show packB b e * 2 ^ e / 2 ^ e = _
        exact Int.mul_ediv_cancel _ (by omega)
      have e2 : packL (packB b e * 2 ^ e) 4096 e = 2 ^ (12 - e) - packB b e := by
        show (4096 - packB (packB b e * 2 ^ e) e * 2 ^ e + 2 ^ e - 1) / 2 ^ e = _
        rw [e1, h46, ← Int.sub_mul]
        exact ceil_mul (by omega) (by omega)
      have e3 : 2 ^ (12 - e) - packB b e ≤ packL b t e := by
        have : (2 ^ (12 - e) - packB b e) * 2 ^ e ≤ packL b t e * 2 ^ e := by rw [Int.sub_mul, ← h46]; omega
        exact Int.le_of_mul_le_mul_right this (show (0 : Int) < 2 ^ e by omega)
      rw [packFits, e1, e2]
      simp only [Bool.and_eq_true, decide_eq_true_eq]
      exact ⟨hf.1, by omega⟩
theorem narrow_ok {w : Word} {n : Int} : wordOk (narrow w n) = true := by
  unfold narrow
  split
  · rename_i h
    obtain ⟨h1, h2, h3, h4⟩ := opened_parts h.1
    rw [wordOk_iff]
    simp only [h2, if_true]
    rw [keyOk_iff] at h3 ⊢
    exact ⟨h1, exact_wide h.2.2.1, h3.2⟩
  · exact bare_ok

/-! ### steps -/
section
variable {m : Mem} {s : Stt} {l : List Ins} {x : Ins} {pc a b g by_ w : Word} {n : Int}
theorem memOk_iff : memOk m = true ↔ m.words.length = 24 ∧ m.gone.length = 24 ∧ ∀ w, w ∈ m.words → wordOk w = true := by
  simp only [memOk, Bool.and_eq_true, decide_eq_true_eq, List.all_eq_true, and_assoc]
theorem sttOk_iff : sttOk s = true ↔ (∀ w, w ∈ s.regs → wordOk w = true) ∧ s.regs.length = 8 ∧ wordOk s.pc = true ∧ memOk s.mem = true ∧ (0 ≤ s.trap ∧ s.trap ≤ 5) := by
  simp only [sttOk, Bool.and_eq_true, decide_eq_true_eq, List.all_eq_true, inR_iff, and_assoc]
theorem filt_ok (h : wordOk w = true) : wordOk (filt m w) = true := by
  unfold filt
  split
  · exact bare_ok
  · exact h
theorem taken_ok (h : wordOk w = true) : wordOk (taken by_ w) = true := by
  unfold taken
  split
  · exact bare_ok
  · exact h
theorem getW_ok {ws : List Word} {i : Nat} (h : ∀ w, w ∈ ws → wordOk w = true) : wordOk (ws.getD i noWord) = true := by
  rw [List.getD_eq_getElem?_getD]
  cases hq : ws[i]? with
  | none => exact noWord_ok
  | some w => exact h w (List.mem_of_getElem? hq)
theorem readW_ok (h : memOk m = true) : wordOk (read m by_ n).1 = true := by
  unfold read
  split
  · exact filt_ok (taken_ok (getW_ok (memOk_iff.1 h).2.2))
  · exact noWord_ok
theorem reg_ok {r : Int} (h : sttOk s = true) : wordOk (reg s r) = true := getW_ok (sttOk_iff.1 h).1
theorem memOf_ok (h : memOk m = true) : wordOk (memOf m x a b).1 = true := by
  unfold memOf
  split
  · exact readW_ok h
  · split <;> exact noWord_ok
theorem tryW_rng {p : Int} : 0 ≤ tryW w n p ∧ tryW w n p ≤ 4 := by
  unfold tryW
  repeat (split; · decide)
  decide
theorem rng0 : (0 : Int) ≤ 0 ∧ (0 : Int) ≤ 5 := by decide
def fxOk (e : Fx) : Prop := wordOk e.val = true ∧ wordOk e.next = true ∧ wordOk e.put = true ∧ (0 ≤ e.trap ∧ e.trap ≤ 5)
theorem fxTrap_ok {t : Int} (ht : 0 ≤ t ∧ t ≤ 5) (hp : wordOk pc = true) : fxOk (fxTrap t pc) := ⟨noWord_ok, hp, noWord_ok, ht⟩
theorem isW_ok : wordOk (isW a) = true := by
  unfold isW
  split <;> exact plain_ok _
theorem valueOf_ok (ha : wordOk a = true) (hg : wordOk g = true) : wordOk (valueOf x a b g) = true := by
  unfold valueOf
  repeat' split
  · exact plain_ok _
  · exact plain_ok _
  · exact ha
  · exact weaken_ok
  · exact narrow_ok
  · exact point_ok
  · exact seal_ok
  · exact open_ok
  · exact hg
  · exact isW_ok
theorem work_ok (hp : wordOk pc = true) (ha : wordOk a = true) (hb : wordOk b = true) (hg : wordOk g = true) : fxOk (work x pc a b g) := by
  have hn : wordOk (nextPc pc) = true := point_ok
  have h4 := tryW_rng (w := a) (n := a.n) (p := 4)
  have h32 := tryW_rng (w := a) (n := a.n) (p := 32)
  unfold work
  split
  · exact ⟨noWord_ok, hn, hb, rng0⟩
  · split
    · split
      · exact fxTrap_ok (by omega) hp
      · exact ⟨hn, ha, noWord_ok, rng0⟩
    · split
      · refine ⟨noWord_ok, ?_, noWord_ok, rng0⟩
        show wordOk (if a.n = 0 then point pc (wadd pc.n x.n) else nextPc pc) = true
        split
        · exact point_ok
        · exact hn
      · split
        · split
          · exact fxTrap_ok (by omega) hp
          · exact ⟨noWord_ok, hn, noWord_ok, rng0⟩
        · split
          · exact fxTrap_ok (by decide) hp
          · refine ⟨?_, hn, noWord_ok, rng0⟩
            show wordOk (if 0 ≤ sets x then valueOf x a b g else noWord) = true
            split
            · exact valueOf_ok ha hg
            · exact noWord_ok
theorem fetch_rng : 0 ≤ (fetch l pc).2 ∧ (fetch l pc).2 ≤ 5 := by
  have := tryW_rng (w := pc) (n := pc.n) (p := 4)
  unfold fetch
  split
  · simp only; omega
  · split
    · exact rng0
    · decide
theorem writeT_rng : 0 ≤ writeT m by_ n w ∧ writeT m by_ n w ≤ 5 := by
  have := tryW_rng (w := by_) (n := n) (p := 2)
  unfold writeT
  repeat' split
  all_goals omega
theorem readT_rng : 0 ≤ readT m by_ n ∧ readT m by_ n ≤ 5 := by
  have := tryW_rng (w := by_) (n := n) (p := 1)
  unfold readT
  repeat' split
  all_goals omega
theorem memOf_rng : 0 ≤ (memOf m x a b).2 ∧ (memOf m x a b).2 ≤ 5 := by
  unfold memOf
  split
  · unfold read
    split
    · exact rng0
    · exact readT_rng
  · split
    · exact writeT_rng
    · decide
theorem fxOf_ok (h : sttOk s = true) : fxOk (fxOf l s) := by
  have hk := sttOk_iff.1 h
  unfold fxOf
  split
  · exact fxTrap_ok fetch_rng hk.2.2.1
  · split
    · exact fxTrap_ok memOf_rng hk.2.2.1
    · exact work_ok hk.2.2.1 (reg_ok h) (reg_ok h) (memOf_ok hk.2.2.2.1)
theorem set_okW {ws : List Word} {i : Nat} (h : ∀ w, w ∈ ws → wordOk w = true) (hw : wordOk w = true) : ∀ v, v ∈ ws.set i w → wordOk v = true := fun v hv => by
  rcases List.mem_or_eq_of_mem_set hv with hv | rfl
  · exact h v hv
  · exact hw
theorem apply_ok {e : Fx} (h : sttOk s = true) (he : fxOk e) : sttOk (applyFx s e) = true := by
  have hk := sttOk_iff.1 h
  have hm := memOk_iff.1 hk.2.2.2.1
  refine sttOk_iff.2 ⟨?_, ?_, he.2.1, memOk_iff.2 ⟨?_, ?_, ?_⟩, hk.2.2.2.2⟩
  · show ∀ w, w ∈ (if inR e.r 0 7 = true then s.regs.set e.r.toNat e.val else s.regs) → wordOk w = true
    split
    · exact set_okW hk.1 he.1
    · exact hk.1
  · show (if inR e.r 0 7 = true then s.regs.set e.r.toNat e.val else s.regs).length = 8
    split <;> simpa using hk.2.1
  · show (if inR e.adr 0 23 = true then s.mem.words.set e.adr.toNat e.put else s.mem.words).length = 24
    split <;> simpa using hm.1
  · show (if inR e.drop 0 23 = true then s.mem.gone.set e.drop.toNat true else s.mem.gone).length = 24
    split <;> simpa using hm.2.1
  · show ∀ w, w ∈ (if inR e.adr 0 23 = true then s.mem.words.set e.adr.toNat e.put else s.mem.words) → wordOk w = true
    split
    · exact set_okW hm.2.2 he.2.2.1
    · exact hm.2.2
theorem step_ok (h : sttOk s = true) : sttOk (step l s) = true := by
  have hk := sttOk_iff.1 h
  have hf := fxOf_ok (l := l) h
  unfold step
  rw [if_neg (by rw [h]; exact Bool.noConfusion)]
  split
  · exact h
  · split
    · exact sttOk_iff.2 ⟨hk.1, hk.2.1, hk.2.2.1, hk.2.2.2.1, hf.2.2.2⟩
    · exact apply_ok h hf
theorem sweep_ok (h : memOk m = true) : memOk (sweep m n) = true := by
  have hm := memOk_iff.1 h
  unfold sweep
  rw [if_pos h]
  split
  · exact memOk_iff.2 ⟨by simpa using hm.1, hm.2.1, set_okW hm.2.2 (filt_ok (getW_ok hm.2.2))⟩
  · exact h
theorem runOne_ok (h : sttOk s = true) : sttOk (runOne l s n) = true := by
  unfold runOne
  split
  · exact step_ok h
  · have hk := sttOk_iff.1 h
    exact sttOk_iff.2 ⟨hk.1, hk.2.1, hk.2.2.1, sweep_ok hk.2.2.2.1, hk.2.2.2.2⟩
theorem fold_ok : ∀ (ns : List Int) {s : Stt}, sttOk s = true → sttOk (ns.foldl (runOne l) s) = true
  | [], _, h => h
  | n :: ns, s, h => fold_ok ns (runOne_ok (n := n) h)
theorem run_ok {ns : List Int} (h : sttOk s = true) : sttOk (run l s ns) = true := by
  unfold run
  rw [if_neg (by rw [h]; exact Bool.noConfusion)]
  split
  · exact h
  · exact fold_ok ns h
/-- A run is a part of it, and then the rest. -/
theorem run_parts {ns : List Int} {k : Nat} (h : sttOk s = true) (hn : ns.length ≤ 600) : run l (run l s (ns.take k)) (ns.drop k) = run l s ns := by
  have h1 : run l s (ns.take k) = (ns.take k).foldl (runOne l) s := run_go h (by rw [List.length_take]; omega)
  have h2 : sttOk ((ns.take k).foldl (runOne l) s) = true := fold_ok _ h
  rw [h1, run_go h2 (by rw [List.length_drop]; omega), run_go h (by omega), ← List.foldl_append, List.take_append_drop]
theorem alike_refl : alike s s = true := by simp [alike]
end
end Go.Proofs.YtgpjgljgplngpaaDoor.AM
set_option linter.unusedVariables false
set_option linter.unusedSimpArgs false
namespace Go.Proofs.YtgpjgljgplngpaaDoor.AM
open Go

/-- A cursor over bytes. -/
structure Cu where
  b : List UInt8
  i : Int
  h : Int
  ok : 0 ≤ i ∧ b.length ≤ 1048576
def Cu.cells (c : Cu) : List AV := [.sl c.b.length c.b.length (bytesV c.b), .int .i64 c.i, .int .i64 c.h]
theorem cu_cells {c : Cu} : c.cells = [.sl c.b.length c.b.length (bytesV c.b), .int .i64 c.i, .int .i64 c.h] := (rfl)
theorem sh_bytesV {mm : Nat → Nat} {l : List UInt8} : shL mm (bytesV l) = bytesV l := by
  induction l with
  | nil => rfl
  | cons x l ih => simp only [bytesV, List.map_cons] at ih ⊢; rw [shL, ih]; rfl
attribute [go_sem] cu_cells sh_bytesV
theorem rem_rng {x n : Int} (hx : 0 ≤ x) (hn : ¬ n ≤ 0) : 0 ≤ x.tmod n ∧ (0 < n → x.tmod n < n) ∧ (n ≤ 0 → x.tmod n = 0) :=
  ⟨Int.tmod_nonneg _ hx, fun h => Int.tmod_lt_of_pos _ h, fun h => absurd h hn⟩
theorem getD_mem {xs : List Int} {i : Nat} (h : i < xs.length) : xs.getD i 0 ∈ xs := by
  rw [List.getD_eq_getElem?_getD, List.getElem?_eq_getElem h]
  exact List.getElem_mem h
theorem exact_small {b t : Int} (h : 0 ≤ b ∧ b ≤ t) (h1 : b ≤ 63) (h2 : t - b ≤ 63) : exact b t = true := by
  refine exact_of (e := 0) (B := b) (T := t) (by decide) (boundsOk_iff.2 ⟨h.1, h.2, by omega⟩) (by simp) (by simp) h ?_
  simp only [packFits, packB, packL, Bool.and_eq_true, decide_eq_true_eq]
  simp
  omega
theorem exact_64 {b t B L : Int} (hB : 0 ≤ B ∧ B ≤ 40) (hL : 0 ≤ L ∧ L ≤ 20) (hb : b = 64 * B) (ht : t = b + 64 * L) : exact b t = true := by
  have h6 : (2 : Int) ^ 6 = 64 := rfl
  refine exact_of (e := 6) (B := B) (T := B + L) (by decide) (boundsOk_iff.2 ⟨by omega, by omega, by omega⟩) (by rw [h6]; omega) (by rw [h6]; omega) ⟨hB.1, by omega⟩ ?_
  have e1 : packB b 6 = B := by rw [packB, h6]; omega
  have e2 : packL b t 6 = L := by rw [packL, e1, h6]; omega
  rw [packFits, e1, e2]
  simp only [Bool.and_eq_true, decide_eq_true_eq]
  omega
theorem keyOk_mk {b t p l : Int} (h : exact b t = true) (hp : 0 ≤ p ∧ p ≤ 63) (hl : 0 ≤ l ∧ l ≤ 7) : keyOk ⟨b, t, p, l⟩ = true := keyOk_iff.2 ⟨h, hp, hl⟩
theorem exact_all : exact 0 4096 = true := by decide
theorem keyWord_ok {k : Key} {n : Int} : wordOk (keyWord k n) = true := by
  unfold keyWord
  split
  · rename_i h
    rw [wordOk_iff]
    simp only [if_true]
    exact ⟨low_rng n, h⟩
  · exact plain_ok _
/-! ### rows that begin further on -/
theorem ints_cut {xs : List Int} {o n : Nat} : ((ints xs).drop o).take n = ints ((xs.drop o).take n) := by simp [ints, List.map_take, List.map_drop]
theorem ints_dropN {xs : List Int} {o : Nat} : (ints xs).drop o = ints (xs.drop o) := by simp [ints, List.map_drop]
theorem words_cut {xs : List Word} {o n : Nat} : ((rows xs).drop (o * 6)).take (n * 6) = rows ((xs.drop o).take n) := by
  have h1 : (rows xs).drop (o * 6) = rows (xs.drop o) := rows_drop (xs := xs) (i := o)
  have h2 : (rows (xs.drop o)).take (n * 6) = rows ((xs.drop o).take n) := rows_take (xs := xs.drop o) (i := n)
  rw [h1, h2]
theorem bools_cut {xs : List Bool} {o n : Nat} : ((rows xs).drop o).take n = rows ((xs.drop o).take n) := by
  have h1 : (rows xs).drop (o * Enc.sz Bool) = rows (xs.drop o) := rows_drop (xs := xs) (i := o)
  have h2 : (rows (xs.drop o)).take (n * Enc.sz Bool) = rows ((xs.drop o).take n) := rows_take (xs := xs.drop o) (i := n)
  rw [show o * Enc.sz Bool = o from Nat.mul_one o] at h1
  rw [show n * Enc.sz Bool = n from Nat.mul_one n] at h2
  rw [h1, h2]
theorem cut_len {α : Type} {xs : List α} {o n : Nat} (h : o + n ≤ xs.length) : ((xs.drop o).take n).length = n := by rw [List.length_take, List.length_drop]; omega
theorem ints_cut_at {ys xs : List Int} {o i : Nat} (h : ((ints ys).drop o).take xs.length = ints xs) (hi : i < xs.length) : ((ints ys).drop (o + i)).head? = some (.int .i64 (xs.getD i 0)) := by
  have h1 : ((ints ys).drop o)[i]? = (((ints ys).drop o).take xs.length)[i]? := by rw [List.getElem?_take_of_lt hi]
  rw [← List.drop_drop, List.head?_drop, h1, h]
  simp [ints, hi]
theorem words_cut_at {ys xs : List Word} {o i : Nat} (h : ((rows ys).drop o).take (xs.length * 6) = rows xs) (hi : i < xs.length) : (rows ys).drop (o + i * 6) = Word.cells (xs.getD i noWord) ++ (rows (xs.drop (i + 1)) ++ ((rows ys).drop o).drop (xs.length * 6)) := by
  have h1 : (rows ys).drop o = rows xs ++ ((rows ys).drop o).drop (xs.length * 6) := by rw [← h, ]; exact (List.take_append_drop _ _).symm
  rw [← List.drop_drop, ← List.append_assoc, ← words_at hi]
  conv => lhs; rw [h1]
  rw [List.drop_append_of_le_length (by rw [words_len]; omega)]
end Go.Proofs.YtgpjgljgplngpaaDoor.AM
set_option linter.unusedVariables false
set_option linter.unusedSimpArgs false
namespace Go.Proofs.YtgpjgljgplngpaaDoor.AM
open Go

/-! ### guesses -/
theorem band_low {a : Int} (h : 0 ≤ a ∧ a ≤ 65535) : band a 65535 = a := by
  show IntKind.i64.wrap (((BitVec.ofInt 64 a &&& BitVec.ofInt 64 65535).toNat : Nat) : Int) = a
  have hm : (BitVec.ofInt 64 a).toNat = a.toNat := by rw [BitVec.toNat_ofInt]; omega
  have h1 : (BitVec.ofInt 64 a &&& BitVec.ofInt 64 65535).toNat = a.toNat := by
    rw [BitVec.toNat_and, hm, show (BitVec.ofInt 64 65535).toNat = 2 ^ 16 - 1 from rfl, Nat.and_two_pow_sub_one_eq_mod]
    omega
  rw [h1, wrap64 (by omega)]
  omega
theorem low_low (n : Int) : low (low n) = low n := band_low (low_rng n)
theorem point_n {w : Word} {n : Int} : (point w n).n = low n := by unfold point; split <;> rfl
theorem guess_learn {xs : List Int} {w v : Word} (h : 0 ≤ w.n ∧ w.n < xs.length) : (guess (learn xs w v) w).n = (plain v.n).n := by
  have hr : inR w.n 0 (xs.length - 1) = true := inR_iff.2 (by omega)
  have hl : learn xs w v = xs.set w.n.toNat (low v.n) := by rw [learn, if_pos hr]
  have hn : w.n.toNat < xs.length := by omega
  have hg : (xs.set w.n.toNat (low v.n)).getD w.n.toNat 0 = low v.n := by simp [hn]
  have := low_rng v.n
  rw [hl, guess, List.length_set, if_pos ⟨hr, by rw [hg]; omega⟩, hg, point_n, low_low]
  rfl
theorem learn_out {xs : List Int} {w v : Word} (h : w.n < 0 ∨ (xs.length : Int) ≤ w.n) : learn xs w v = xs := by
  rw [learn, if_neg (by rw [inR_iff]; omega)]
theorem learn_other {xs : List Int} {w v : Word} {i : Nat} (h : ¬ (i : Int) = w.n) : (learn xs w v).getD i 0 = xs.getD i 0 := by
  unfold learn
  split
  · rename_i hr
    have := inR_iff.1 hr
    rw [List.getD_eq_getElem?_getD, List.getD_eq_getElem?_getD, List.getElem?_set_ne (by omega)]
  · rfl
theorem guessOk_new : guessOk guessNew = true := by decide

/-! ### how much is turned -/
def dif {α : Type} [DecidableEq α] (d : α) (xs ys : List α) : Nat → Nat
  | 0 => 0
  | n + 1 => dif d xs ys n + (if xs.getD n d = ys.getD n d then 0 else 1)
theorem dif_self {α : Type} [DecidableEq α] {d : α} {xs : List α} : ∀ n, dif d xs xs n = 0
  | 0 => rfl
  | n + 1 => by rw [dif, dif_self n, if_pos rfl]
theorem dif_set {α : Type} [DecidableEq α] {d v : α} {xs : List α} {j : Nat} : ∀ n, dif d (xs.set j v) xs n ≤ if j < n then 1 else 0
  | 0 => by simp [dif]
  | n + 1 => by
    have h := dif_set (d := d) (v := v) (xs := xs) (j := j) n
    rw [dif]
    by_cases hj : j = n
    · subst hj
      rw [if_neg (Nat.lt_irrefl _)] at h
      rw [if_pos (Nat.lt_succ_self _)]
      split <;> omega
    · have : (xs.set j v).getD n d = xs.getD n d := by rw [List.getD_eq_getElem?_getD, List.getD_eq_getElem?_getD, List.getElem?_set_ne hj]
      rw [if_pos this]
      split at h <;> split <;> omega
theorem dif_if {α : Type} [DecidableEq α] {d v : α} {xs : List α} {j : Nat} {c : Prop} [Decidable c] (n : Nat) : dif d (if c then xs.set j v else xs) xs n ≤ if c then 1 else 0 := by
  split
  · exact Nat.le_trans (dif_set n) (by split <;> omega)
  · rw [dif_self]; exact Nat.le_refl _
def difS (s t : Stt) : Nat := dif noWord t.regs s.regs 8 + dif noWord t.mem.words s.mem.words 24 + dif false t.mem.gone s.mem.gone 24
theorem difS_self {s : Stt} : difS s s = 0 := by simp [difS, dif_self]
def chs (e : Fx) : Nat := (if inR e.r 0 7 = true then 1 else 0) + (if inR e.adr 0 23 = true then 1 else 0) + (if inR e.drop 0 23 = true then 1 else 0)
theorem inR_neg {a b : Int} (ha : 0 ≤ a) : inR (-1) a b = false := by
  cases h : inR (-1) a b with
  | false => rfl
  | true => have := inR_iff.1 h; omega
theorem chs_trap {t : Int} {pc : Word} : chs (fxTrap t pc) ≤ 1 := by simp [chs, fxTrap, inR_neg]
theorem chs_work {x : Ins} {pc a b g : Word} : chs (work x pc a b g) ≤ 1 := by
  unfold work
  repeat' split
  all_goals first | exact chs_trap | (simp only [chs, inR_neg (Int.le_refl 0), Bool.false_eq_true, if_false]; repeat' split; all_goals omega)
theorem chs_fx {l : List Ins} {s : Stt} : chs (fxOf l s) ≤ 1 := by
  unfold fxOf
  repeat' split
  · exact chs_trap
  · exact chs_trap
  · exact chs_work
theorem difS_apply {s : Stt} {e : Fx} : difS s (applyFx s e) ≤ chs e := by
  have h1 : dif noWord (applyFx s e).regs s.regs 8 ≤ if inR e.r 0 7 = true then 1 else 0 := dif_if 8
  have h2 : dif noWord (applyFx s e).mem.words s.mem.words 24 ≤ if inR e.adr 0 23 = true then 1 else 0 := dif_if 24
  have h3 : dif false (applyFx s e).mem.gone s.mem.gone 24 ≤ if inR e.drop 0 23 = true then 1 else 0 := dif_if 24
  unfold difS chs
  omega
theorem step_little {l : List Ins} {s : Stt} (h : sttOk s = true) : difS s (step l s) ≤ 1 ∧ ((step l s).trap = 0 ∨ difS s (step l s) = 0 ∧ (step l s).pc = s.pc) := by
  unfold step
  rw [if_neg (by rw [h]; exact Bool.noConfusion)]
  split
  · rw [difS_self]; exact ⟨by decide, Or.inr ⟨rfl, rfl⟩⟩
  · rename_i ht
    split
    · have : difS s (withTrap s (fxOf l s).trap) = 0 := difS_self (s := s)
      rw [this]; exact ⟨by decide, Or.inr ⟨rfl, rfl⟩⟩
    · exact ⟨Nat.le_trans difS_apply chs_fx, Or.inl (Decidable.not_not.1 ht)⟩

/-! ### no key comes of nothing -/
theorem covers_iff {a b : Key} : covers a b = true ↔ keyOk a = true ∧ keyOk b = true ∧ a.base ≤ b.base ∧ b.top ≤ a.top ∧ band a.perms b.perms = b.perms := by
  simp only [covers, Bool.and_eq_true, decide_eq_true_eq, and_assoc]
theorem covers_refl {k : Key} (h : keyOk k = true) : covers k k = true :=
  covers_iff.2 ⟨h, h, Int.le_refl _, Int.le_refl _, band_self (by have := (keyOk_iff.1 h).2.1; omega)⟩
theorem covers_trans {a b c : Key} (h1 : covers a b = true) (h2 : covers b c = true) : covers a c = true := by
  have g1 := covers_iff.1 h1
  have g2 := covers_iff.1 h2
  have pa := (keyOk_iff.1 g1.1).2.1
  have pb := (keyOk_iff.1 g1.2.1).2.1
  have pc := (keyOk_iff.1 g2.2.1).2.1
  exact covers_iff.2 ⟨g1.1, g2.2.1, by omega, by omega, band_trans (by omega) (by omega) (by omega) g1.2.2.2.2 g2.2.2.2.2⟩
/-- A word is no key, or a key that is under one of some others. -/
def fromW (ws : List Word) (w : Word) : Prop := w.is = true → ∃ x, x ∈ ws ∧ x.is = true ∧ covers x.key w.key = true
theorem fromW_iff {ws : List Word} {w : Word} : fromW ws w ↔ unders w ws = true := by
  unfold fromW unders
  cases w.is <;> simp [List.any_eq_true]
theorem allUnder_iff {xs ws : List Word} : allUnder xs ws = true ↔ ∀ w, w ∈ xs → fromW ws w := by
  simp only [allUnder, List.all_eq_true, fromW_iff]
theorem keys_mem {s : Stt} {w : Word} : w ∈ keys s ↔ (w ∈ s.regs ∨ w = s.pc ∨ w ∈ s.mem.words) ∧ w.is = true := by
  unfold keys keysOf
  rw [List.mem_filter]
  simp only [List.mem_append, List.mem_singleton, or_assoc]
theorem from_bare {ws : List Word} {w : Word} : fromW ws (bare w) := fun h => by cases h
theorem from_plain {ws : List Word} {n : Int} : fromW ws (plain n) := fun h => by cases h
theorem from_no {ws : List Word} : fromW ws noWord := fun h => by cases h
theorem from_mem {ws : List Word} {w : Word} (hm : w.is = true → w ∈ ws) (hk : wordOk w = true) : fromW ws w := fun h => by
  have := wordOk_iff.1 hk
  rw [if_pos h] at this
  exact ⟨w, hm h, h, covers_refl this.2⟩
theorem from_sub {ws : List Word} {a w : Word} (ha : fromW ws a) (hi : w.is = true → a.is = true ∧ covers a.key w.key = true) : fromW ws w := fun h => by
  obtain ⟨h1, h2⟩ := hi h
  obtain ⟨x, g1, g2, g3⟩ := ha h1
  exact ⟨x, g1, g2, covers_trans g3 h2⟩
theorem band_subset {a b : Int} (ha : 0 ≤ a ∧ a ≤ 63) : band a (band a b) = band a b := band_sub (by omega)
theorem from_weaken {ws : List Word} {a : Word} {m : Int} (ha : fromW ws a) : fromW ws (weaken a m) := by
  have hw : wordOk (weaken a m) = true := weaken_ok
  unfold weaken at *
  split
  · rename_i h
    rw [if_pos h] at hw
    obtain ⟨h1, h2, h3, h4⟩ := opened_parts h
    have hw2 := wordOk_iff.1 hw
    rw [if_pos (by exact h2)] at hw2
    exact from_sub ha fun _ => ⟨h2, covers_iff.2 ⟨h3, hw2.2, Int.le_refl _, Int.le_refl _, band_subset (keyOk_iff.1 h3).2.1⟩⟩
  · exact from_bare
theorem from_narrow {ws : List Word} {a : Word} {n : Int} (ha : fromW ws a) : fromW ws (narrow a n) := by
  have hw : wordOk (narrow a n) = true := narrow_ok
  unfold narrow at *
  split
  · rename_i h
    rw [if_pos h] at hw
    obtain ⟨h1, h2, h3, h4⟩ := opened_parts h.1
    have hw2 := wordOk_iff.1 hw
    rw [if_pos (by exact h2)] at hw2
    exact from_sub ha fun _ => ⟨h2, covers_iff.2 ⟨h3, hw2.2, h.2.2.2.1, h.2.2.2.2, band_self (by have := (keyOk_iff.1 h3).2.1; omega)⟩⟩
  · exact from_bare
theorem from_point {ws : List Word} {a : Word} {n : Int} (ha : fromW ws a) : fromW ws (point a n) := by
  unfold point
  split
  · rename_i h
    obtain ⟨h1, h2, h3, h4⟩ := opened_parts h
    exact from_sub ha fun _ => ⟨h2, covers_refl h3⟩
  · exact from_plain
theorem from_seal {ws : List Word} {a b : Word} (ha : fromW ws a) : fromW ws (sealBy a b) := by
  have hw : wordOk (sealBy a b) = true := seal_ok
  unfold sealBy at *
  split
  · rename_i h
    rw [if_pos h] at hw
    obtain ⟨h1, h2, h3, h4⟩ := opened_parts h.1
    have hw2 := wordOk_iff.1 hw
    rw [if_pos (by exact h2)] at hw2
    exact from_sub ha fun _ => ⟨h2, covers_iff.2 ⟨h3, hw2.2, Int.le_refl _, Int.le_refl _, band_self (by have := (keyOk_iff.1 h3).2.1; omega)⟩⟩
  · exact from_bare
theorem from_open {ws : List Word} {a b : Word} (ha : fromW ws a) : fromW ws (openBy a b) := by
  have hw : wordOk (openBy a b) = true := open_ok
  unfold openBy at *
  split
  · rename_i h
    rw [if_pos h] at hw
    have h1 := wordOk_iff.1 h.1
    rw [if_pos h.2.1] at h1
    have hw2 := wordOk_iff.1 hw
    rw [if_pos (by exact h.2.1)] at hw2
    exact from_sub ha fun _ => ⟨h.2.1, covers_iff.2 ⟨h1.2, hw2.2, Int.le_refl _, Int.le_refl _, band_self (by have := (keyOk_iff.1 h1.2).2.1; omega)⟩⟩
  · exact from_bare
theorem from_filt {ws : List Word} {m : Mem} {w : Word} (h : fromW ws w) : fromW ws (filt m w) := by
  unfold filt; split
  · exact from_bare
  · exact h
theorem from_taken {ws : List Word} {b w : Word} (h : fromW ws w) : fromW ws (taken b w) := by
  unfold taken; split
  · exact from_bare
  · exact h
theorem from_isW {ws : List Word} {a : Word} : fromW ws (isW a) := by unfold isW; split <;> exact from_plain
section
variable {s : Stt} {l : List Ins} {ws : List Word}
def fromS (ws : List Word) (s : Stt) : Prop := (∀ w, w ∈ s.regs → fromW ws w) ∧ fromW ws s.pc ∧ ∀ w, w ∈ s.mem.words → fromW ws w
theorem fromS_keys : fromS ws s ↔ allUnder (keys s) ws = true := by
  rw [allUnder_iff]
  constructor
  · intro h w hw
    rcases (keys_mem.1 hw).1 with h1 | rfl | h1
    · exact h.1 w h1
    · exact h.2.1
    · exact h.2.2 w h1
  · intro h
    exact ⟨fun w hw hi => h w (keys_mem.2 ⟨Or.inl hw, hi⟩) hi, fun hi => h s.pc (keys_mem.2 ⟨Or.inr (Or.inl rfl), hi⟩) hi, fun w hw hi => h w (keys_mem.2 ⟨Or.inr (Or.inr hw), hi⟩) hi⟩
theorem fromS_self (h : sttOk s = true) : fromS (keys s) s := by
  have hk := sttOk_iff.1 h
  have hm := memOk_iff.1 hk.2.2.2.1
  exact ⟨fun w hw => from_mem (fun hi => keys_mem.2 ⟨Or.inl hw, hi⟩) (hk.1 w hw), from_mem (fun hi => keys_mem.2 ⟨Or.inr (Or.inl rfl), hi⟩) hk.2.2.1, fun w hw => from_mem (fun hi => keys_mem.2 ⟨Or.inr (Or.inr hw), hi⟩) (hm.2.2 w hw)⟩
theorem from_getD {xs : List Word} {i : Nat} (h : ∀ w, w ∈ xs → fromW ws w) : fromW ws (xs.getD i noWord) := by
  rw [List.getD_eq_getElem?_getD]
  cases hq : xs[i]? with
  | none => exact from_no
  | some w => exact h w (List.mem_of_getElem? hq)
def fromE (ws : List Word) (e : Fx) : Prop := fromW ws e.val ∧ fromW ws e.next ∧ fromW ws e.put
theorem from_value {x : Ins} {a b g : Word} (ha : fromW ws a) (hg : fromW ws g) : fromW ws (valueOf x a b g) := by
  unfold valueOf
  repeat' split
  · exact from_plain
  · exact from_plain
  · exact ha
  · exact from_weaken ha
  · exact from_narrow ha
  · exact from_point ha
  · exact from_seal ha
  · exact from_open ha
  · exact hg
  · exact from_isW
theorem from_work {x : Ins} {pc a b g : Word} (hp : fromW ws pc) (ha : fromW ws a) (hb : fromW ws b) (hg : fromW ws g) : fromE ws (work x pc a b g) := by
  have hn : fromW ws (nextPc pc) := from_point hp
  have ht : ∀ t, fromE ws (fxTrap t pc) := fun t => ⟨from_no, hp, from_no⟩
  unfold work
  split
  · exact ⟨from_no, hn, hb⟩
  · split
    · split
      · exact ht _
      · exact ⟨hn, ha, from_no⟩
    · split
      · refine ⟨from_no, ?_, from_no⟩
        show fromW ws (if a.n = 0 then point pc (wadd pc.n x.n) else nextPc pc)
        split
        · exact from_point hp
        · exact hn
      · split
        · split
          · exact ht _
          · exact ⟨from_no, hn, from_no⟩
        · split
          · exact ht _
          · refine ⟨?_, hn, from_no⟩
            show fromW ws (if 0 ≤ sets x then valueOf x a b g else noWord)
            split
            · exact from_value ha hg
            · exact from_no
theorem from_fx (h : fromS ws s) : fromE ws (fxOf l s) := by
  unfold fxOf
  split
  · exact ⟨from_no, h.2.1, from_no⟩
  · split
    · exact ⟨from_no, h.2.1, from_no⟩
    · refine from_work h.2.1 (from_getD h.1) (from_getD h.1) ?_
      unfold memOf
      split
      · unfold read
        split
        · exact from_filt (from_taken (from_getD h.2.2))
        · exact from_no
      · split <;> exact from_no
theorem from_set {xs : List Word} {i : Nat} {v : Word} (h : ∀ w, w ∈ xs → fromW ws w) (hv : fromW ws v) : ∀ w, w ∈ xs.set i v → fromW ws w := fun w hw => by
  rcases List.mem_or_eq_of_mem_set hw with hw | rfl
  · exact h w hw
  · exact hv
theorem from_apply {e : Fx} (h : fromS ws s) (he : fromE ws e) : fromS ws (applyFx s e) := by
  refine ⟨?_, he.2.1, ?_⟩
  · show ∀ w, w ∈ (if inR e.r 0 7 = true then s.regs.set e.r.toNat e.val else s.regs) → fromW ws w
    split
    · exact from_set h.1 he.1
    · exact h.1
  · show ∀ w, w ∈ (if inR e.adr 0 23 = true then s.mem.words.set e.adr.toNat e.put else s.mem.words) → fromW ws w
    split
    · exact from_set h.2.2 he.2.2
    · exact h.2.2
theorem from_noStt : fromS ws noStt := ⟨fun w hw => (by cases hw), from_no, fun w hw => (by cases hw)⟩
theorem from_step (h : fromS ws s) : fromS ws (step l s) := by
  unfold step
  split
  · exact from_noStt
  · split
    · exact h
    · split
      · exact h
      · exact from_apply h (from_fx h)
theorem from_runOne {n : Int} (h : fromS ws s) : fromS ws (runOne l s n) := by
  unfold runOne
  split
  · exact from_step h
  · refine ⟨h.1, h.2.1, ?_⟩
    show ∀ w, w ∈ (sweep s.mem n).words → fromW ws w
    unfold sweep
    split
    · split
      · exact from_set h.2.2 (from_filt (from_getD h.2.2))
      · exact h.2.2
    · intro w hw; cases hw
theorem from_fold : ∀ (ns : List Int) {s : Stt}, fromS ws s → fromS ws (ns.foldl (runOne l) s)
  | [], _, h => h
  | n :: ns, s, h => from_fold ns (from_runOne (n := n) h)
theorem closed_step (h : sttOk s = true) : closed s (step l s) = true := by
  rw [closed, h, step_ok h, fromS_keys.1 (from_step (fromS_self h))]; rfl
theorem closed_run {ns : List Int} (h : sttOk s = true) : closed s (run l s ns) = true := by
  have : allUnder (keys (run l s ns)) (keys s) = true := by
    refine fromS_keys.1 ?_
    unfold run
    rw [if_neg (by rw [h]; exact Bool.noConfusion)]
    split
    · exact fromS_self h
    · exact from_fold ns (fromS_self h)
  rw [closed, h, run_ok h, this]; rfl
end
end Go.Proofs.YtgpjgljgplngpaaDoor.AM
set_option linter.unusedVariables false
set_option linter.unusedSimpArgs false
namespace Go.Proofs.YtgpjgljgplngpaaDoor.AM
open Go

section
variable {l : List Ins} {c : Cor} {i : Int} {s : Stt} {p : Pik} {x : Ins} {pc a b g by_ w : Word} {n : Int}
theorem corOk_iff : corOk c = true ↔ (∀ x, x ∈ c.rob → entOk x = true) ∧ sttOk c.s = true ∧ c.rob.length ≤ 6 ∧ wordOk c.next = true ∧ guessOk c.guesses = true := by
  simp only [corOk, Bool.and_eq_true, decide_eq_true_eq, List.all_eq_true, and_assoc]
def fxIn (e : Fx) : Prop := fxOk e ∧ (-1 ≤ e.r ∧ e.r ≤ 7) ∧ e.drop ≤ 4096
theorem fxIn_trap {t : Int} (ht : 0 ≤ t ∧ t ≤ 5) (hp : wordOk pc = true) : fxIn (fxTrap t pc) := ⟨fxTrap_ok ht hp, (by decide : (-1 : Int) ≤ -1 ∧ (-1 : Int) ≤ 7), (by decide : (-1 : Int) ≤ 4096)⟩
theorem entOk_mk {pc g : Word} {x : Ins} {d : Bool} {e : Fx} (h1 : wordOk pc = true) (h2 : wordOk g = true) (hx : (insOk x || decide (x = noIns)) = true) (he : fxIn e) : entOk ⟨pc, x, d, e, g⟩ = true := by
  obtain ⟨⟨a, b, c, d⟩, e, f⟩ := he
  simp only [entOk, h1, h2, a, b, c, hx, Bool.and_true, Bool.true_and, Bool.and_eq_true, inR_iff, decide_eq_true_eq]
  exact ⟨⟨d, e⟩, f⟩
theorem fxIn_no : fxIn noFx := ⟨⟨noWord_ok, noWord_ok, noWord_ok, by decide⟩, by decide, by decide⟩
theorem sets_rng (h : (insOk x || decide (x = noIns)) = true) : -1 ≤ sets x ∧ sets x ≤ 7 := by
  have := inR_iff.1 (ins_reg h).1
  unfold sets
  split <;> omega
theorem base_le {k : Key} (h : keyOk k = true) : k.base ≤ 4096 := by
  have h1 := (keyOk_iff.1 h).1
  simp only [exact, Bool.and_eq_true] at h1
  have := boundsOk_iff.1 h1.1.1
  omega
theorem tryW_ok {m q : Int} (h : tryW w m q = 0) : wordOk w = true ∧ w.is = true := by
  unfold tryW at h
  split at h
  · cases h
  · rename_i h1
    have h2 := not_or.1 h1
    exact ⟨by simpa using h2.1, by simpa using h2.2⟩
theorem fxIn_work (hp : wordOk pc = true) (ha : wordOk a = true) (hb : wordOk b = true) (hg : wordOk g = true) (hx : (insOk x || decide (x = noIns)) = true) : fxIn (work x pc a b g) := by
  refine ⟨work_ok hp ha hb hg, ?_⟩
  have hs := sets_rng hx
  have hr := inR_iff.1 (ins_reg hx).1
  unfold work
  split
  · exact ⟨by show (-1 : Int) ≤ -1 ∧ (-1 : Int) ≤ 7; decide, by show (-1 : Int) ≤ 4096; decide⟩
  · split
    · split
      · exact ⟨by show (-1 : Int) ≤ -1 ∧ (-1 : Int) ≤ 7; decide, by show (-1 : Int) ≤ 4096; decide⟩
      · exact ⟨by show (-1 : Int) ≤ x.r ∧ x.r ≤ 7; omega, by show (-1 : Int) ≤ 4096; decide⟩
    · split
      · exact ⟨by show (-1 : Int) ≤ -1 ∧ (-1 : Int) ≤ 7; decide, by show (-1 : Int) ≤ 4096; decide⟩
      · split
        · split
          · exact ⟨by show (-1 : Int) ≤ -1 ∧ (-1 : Int) ≤ 7; decide, by show (-1 : Int) ≤ 4096; decide⟩
          · rename_i ht
            have h1 := tryW_ok (Decidable.not_not.1 ht)
            have h2 := wordOk_iff.1 h1.1
            rw [if_pos h1.2] at h2
            exact ⟨by show (-1 : Int) ≤ -1 ∧ (-1 : Int) ≤ 7; decide, base_le h2.2⟩
        · split
          · exact ⟨by show (-1 : Int) ≤ -1 ∧ (-1 : Int) ≤ 7; decide, by show (-1 : Int) ≤ 4096; decide⟩
          · exact ⟨hs, by show (-1 : Int) ≤ 4096; decide⟩
theorem guess_ok {gs : List Int} : wordOk (guess gs pc) = true := by
  unfold guess
  split <;> exact point_ok
theorem fetch_ins (h : (fetch l pc).2 = 0) : (insOk (fetch l pc).1 || decide ((fetch l pc).1 = noIns)) = true := by rw [fetch_ok h]; rfl
theorem guessOk_iff {gs : List Int} : guessOk gs = true ↔ gs.length = 48 ∧ ∀ x, x ∈ gs → -1 ≤ x ∧ x ≤ 65535 := by
  simp only [guessOk, Bool.and_eq_true, decide_eq_true_eq, List.all_eq_true, inR_iff]
theorem learn_ok {gs : List Int} {v : Word} (h : guessOk gs = true) : guessOk (learn gs w v) = true := by
  have hk := guessOk_iff.1 h
  unfold learn
  split
  · refine guessOk_iff.2 ⟨by simpa using hk.1, fun x hx => ?_⟩
    rcases List.mem_or_eq_of_mem_set hx with hx | rfl
    · exact hk.2 x hx
    · have := low_rng v.n
      omega
  · exact h
theorem corNew_ok (h : sttOk s = true) : corOk (corNew s) = true := by
  rw [corNew_go h]
  exact corOk_iff.2 ⟨fun x hx => (by cases hx), h, by simp, (sttOk_iff.1 h).2.2.1, guessOk_new⟩
theorem pull_ok (h : corOk c = true) : corOk (pull l c).1 = true := by
  have hk := corOk_iff.1 h
  by_cases h1 : c.stop = true ∨ c.rob.length = 6 ∨ c.s.trap ≠ 0
  · rw [pull_idle h h1]; exact h
  · have h6 : c.rob.length ≠ 6 := fun g => h1 (Or.inr (Or.inl g))
    by_cases h2 : (fetch l c.next).2 = 0
    · rw [pull_go h h1 h2]
      refine corOk_iff.2 ⟨fun x hx => ?_, hk.2.1, by simp [withRob]; omega, guess_ok, hk.2.2.2.2⟩
      rcases List.mem_append.1 hx with hx | hx
      · exact hk.1 x hx
      · obtain rfl := List.mem_singleton.1 hx
        exact entOk_mk hk.2.2.2.1 guess_ok (fetch_ins h2) fxIn_no
    · rw [pull_trap h h1 h2]
      refine corOk_iff.2 ⟨fun x hx => ?_, hk.2.1, by simp [withRob]; omega, hk.2.2.2.1, hk.2.2.2.2⟩
      rcases List.mem_append.1 hx with hx | hx
      · exact hk.1 x hx
      · obtain rfl := List.mem_singleton.1 hx
        exact entOk_mk hk.2.2.2.1 hk.2.2.2.1 rfl (fxIn_trap fetch_rng hk.2.2.2.1)
theorem valueRaw_ok {r : Int} (h : corOk c = true) : wordOk (valueRaw c i r).1 = true := by
  have hk := corOk_iff.1 h
  unfold valueRaw
  split
  · exact reg_ok hk.2.1
  · split
    · exact noWord_ok
    · rename_i h1 h2
      have := source_lt c.rob i r
      exact (entOk_parts (ent_ok h (by omega))).2.2.1
theorem found_ok (h : corOk c = true) : wordOk (found c i by_ n).1 = true := by
  have hk := corOk_iff.1 h
  have hm := (sttOk_iff.1 hk.2.1).2.2.2.1
  unfold found
  split
  · exact noWord_ok
  · split
    · exact readW_ok hm
    · rename_i h1 h2
      refine filt_ok (taken_ok ?_)
      have := lastAt_lt (p := puts n) (d := noEnt) (xs := c.rob) (upTo i c.rob.length)
      have hu := upTo_le i c.rob.length
      exact (entOk_parts (ent_ok h (by omega))).2.2.2.2.1
theorem read_rng {m : Mem} : 0 ≤ (read m by_ n).2 ∧ (read m by_ n).2 ≤ 5 := by
  unfold read
  split
  · exact rng0
  · exact readT_rng
theorem found_rng : 0 ≤ (found c i by_ n).2 ∧ (found c i by_ n).2 ≤ 5 := by
  unfold found
  split
  · exact read_rng
  · split
    · exact read_rng
    · exact rng0
theorem doneBy_ok {y : Ent} (h : corOk c = true) (hy : entOk y = true) : fxIn (doneBy c i y) := by
  have hp := entOk_parts hy
  unfold doneBy fxAt
  split
  · refine fxIn_trap ?_ hp.1
    unfold memAt
    split
    · exact found_rng
    · split
      · exact writeT_rng
      · exact rng0
  · refine fxIn_work hp.1 (valueRaw_ok h) (valueRaw_ok h) ?_ hp.2.2.2.2.2.1
    unfold memAt
    split
    · exact found_ok h
    · split <;> exact noWord_ok
theorem do_ok (h : corOk c = true) : corOk (do_ c i).1 = true := by
  by_cases hr : ready c i = true
  · rw [do_on h hr]
    have hk := corOk_iff.1 h
    have hp := ready_parts hr
    have hi := inR_iff.1 hp.2.1
    have hy := ent_ok h (show i.toNat < c.rob.length by omega)
    have hyp := entOk_parts hy
    have he := doneBy_ok (i := i) h hy
    have hall : ∀ x, x ∈ c.rob.set i.toNat ⟨(c.rob.getD i.toNat noEnt).pc, (c.rob.getD i.toNat noEnt).x, true, doneBy c i (c.rob.getD i.toNat noEnt), (c.rob.getD i.toNat noEnt).guess⟩ → entOk x = true := fun x hx => by
      rcases List.mem_or_eq_of_mem_set hx with hx | rfl
      · exact hk.1 x hx
      · exact entOk_mk hyp.1 hyp.2.1 hyp.2.2.2.2.2.1 he
    show corOk (doE c i.toNat (c.rob.getD i.toNat noEnt) (doneBy c i (c.rob.getD i.toNat noEnt))) = true
    unfold doE
    split
    · exact corOk_iff.2 ⟨fun x hx => hall x (List.mem_of_mem_take hx), hk.2.1, by simp [withRob]; omega, hk.2.2.2⟩
    · split
      · exact corOk_iff.2 ⟨fun x hx => hall x (List.mem_of_mem_take hx), hk.2.1, by simp [withRob]; omega, he.1.2.1, hk.2.2.2.2⟩
      · exact corOk_iff.2 ⟨hall, hk.2.1, by simp [withRob]; exact hk.2.2.1, hk.2.2.2⟩
  · rw [do_idle h (by simpa using hr)]; exact h
theorem commit_ok (h : corOk c = true) : corOk (commit c).1 = true := by
  have hk := corOk_iff.1 h
  by_cases h1 : c.rob = [] ∨ (c.rob.getD 0 noEnt).done = false ∨ c.s.trap ≠ 0
  · rw [commit_idle h h1]; exact h
  · rw [commit_on h h1]
    have h0 : 0 < c.rob.length := Nat.pos_of_ne_zero fun g => h1 (Or.inl (List.eq_nil_of_length_eq_zero g))
    have hy := entOk_parts (ent_ok h h0)
    have hs := sttOk_iff.1 hk.2.1
    have hf : fxOk (c.rob.getD 0 noEnt).e := ⟨hy.2.2.1, hy.2.2.2.1, hy.2.2.2.2.1, inR_iff.1 hy.2.2.2.2.2.2.1⟩
    show corOk (commitE c (c.rob.getD 0 noEnt)) = true
    unfold commitE
    split
    · exact corOk_iff.2 ⟨fun x hx => (by cases hx), sttOk_iff.2 ⟨hs.1, hs.2.1, hy.1, hs.2.2.2.1, hf.2.2.2⟩, by simp, hk.2.2.2⟩
    · split
      · exact corOk_iff.2 ⟨fun x hx => (by cases hx), apply_ok hk.2.1 hf, by simp, hf.2.1, learn_ok hk.2.2.2.2⟩
      · exact corOk_iff.2 ⟨fun x hx => hk.1 x (List.mem_of_mem_drop hx), apply_ok hk.2.1 hf, by simp; omega, hk.2.2.2.1, learn_ok hk.2.2.2.2⟩
theorem pick_ok (h : corOk c = true) : corOk (corPick l c p).1 = true := by
  by_cases h1 : p.kind = 1
  · rw [pick_1 h h1]; exact pull_ok h
  · by_cases h2 : p.kind = 2
    · rw [pick_2 h h2]; exact do_ok h
    · by_cases h3 : p.kind = 3
      · rw [pick_3 h h3]; exact commit_ok h
      · by_cases h4 : p.kind = 4
        · rw [pick_4 h h4]
          have hk := corOk_iff.1 h
          have hs := sttOk_iff.1 hk.2.1
          exact corOk_iff.2 ⟨hk.1, sttOk_iff.2 ⟨hs.1, hs.2.1, hs.2.2.1, sweep_ok hs.2.2.2.1, hs.2.2.2.2⟩, hk.2.2⟩
        · rw [pick_5 h h1 h2 h3 h4]; exact h
theorem picks_ok : ∀ (ps : List Pik) {x : Cor × List Int}, corOk x.1 = true → corOk (ps.foldl (corStep l) x).1 = true
  | [], _, h => h
  | p :: ps, x, h => picks_ok ps (pick_ok (p := p) h)
theorem corRun_ok {ps : List Pik} (h : sttOk s = true) (hn : ps.length ≤ 600) : corOk (corRun l s ps).1 = true := by
  rw [runC_go (fun g => g.elim (fun g => by omega) (fun g => by rw [h] at g; cases g))]
  exact picks_ok ps (corNew_ok h)
end
end Go.Proofs.YtgpjgljgplngpaaDoor.AM
set_option linter.unusedVariables false
set_option linter.unusedSimpArgs false
namespace Go.Proofs.YtgpjgljgplngpaaDoor.AM
open Go

/-- A function's end, where it is only said what comes back, and rows are told by other blocks. -/
theorem retNE {P : Program} {H : Heap} {ρ : Env} {k : Nat} {Qv : AV → Heap → Prop} {rs : List ResultVar} {vs : List AV} {v w w' : AV} {h' H' : Heap} (szs keep m : List Nat) (hm : List.range k ++ keep = m) (h1 : aRes P H ρ rs = some vs) (ha : aResult vs = v) (hr : Ref H.length (H.length + szs.length) v w)
    (hH : H ++ szs.map (fun s => (⟨s, [], true, false⟩ : Blk)) = H') (h2 : m.Nodup) (h3 : Nat.ble k H'.length = true) (h4 : (keep.all fun id => match H'[id]? with | some b => b.live | none => false) = true)
    (hv : bor [] (idx m) fuel w = w') (hh : gcH m H' = h') (hq : Qv w' h') : retQ P rs k Qv .ret ρ H := by
  subst hm ha hv hh
  refine ret_norm szs keep vs w h1 hr hH h2 (Nat.le_of_ble_eq_true h3) (fun id hid => ?_) hq
  have := List.all_eq_true.1 h4 id hid
  split at this
  · rename_i b hb
    exact ⟨b, hb, this⟩
  · cases this
theorem inss_snoc {l : List Ins} {o r a b n : Int} : rows l ++ [.int .i64 o, .int .i64 r, .int .i64 a, .int .i64 b, .int .i64 n] = rows (l ++ [(⟨o, r, a, b, n⟩ : Ins)]) := by
  rw [rows_append, rows_one]; rfl
theorem words_put0 {xs : List Word} {w : Word} (h : 0 < xs.length) : putAt (rows xs) 0 [.int .i64 w.n, .bool w.is, .int .i64 w.key.base, .int .i64 w.key.top, .int .i64 w.key.perms, .int .i64 w.key.lock] = rows (xs.set 0 w) := by
  have := words_put (x := w) h
  rwa [Nat.zero_mul] at this
def sttNew : Stt := ⟨(List.replicate 8 noWord).set 0 (keyWord ⟨0, 24, 59, 0⟩ 0), keyWord ⟨0, 48, 4, 0⟩ 0, memNew, 0⟩
theorem memNew_ok : memOk memNew = true := memOk_iff.2 ⟨rfl, rfl, fun w hw => by rw [(List.mem_replicate.1 hw).2]; exact noWord_ok⟩
theorem sttNew_ok : sttOk sttNew = true :=
  sttOk_iff.2 ⟨set_okW (fun w hw => by rw [(List.mem_replicate.1 hw).2]; exact noWord_ok) keyWord_ok, rfl, keyWord_ok, memNew_ok, by decide⟩
theorem mem_put {m : Mem} {i : Nat} {w : Word} (h : memOk m = true) (hw : wordOk w = true) : memOk ⟨m.words.set i w, m.gone⟩ = true := by
  have hm := memOk_iff.1 h
  exact memOk_iff.2 ⟨by simpa using hm.1, hm.2.1, set_okW hm.2.2 hw⟩
theorem mem_gone {m : Mem} {i : Nat} (h : memOk m = true) : memOk ⟨m.words, m.gone.set i true⟩ = true := by
  have hm := memOk_iff.1 h
  exact memOk_iff.2 ⟨hm.1, by simpa using hm.2.1, hm.2.2⟩
theorem stt_mem {s : Stt} {m : Mem} (h : sttOk s = true) (hm : memOk m = true) : sttOk ⟨s.regs, s.pc, m, s.trap⟩ = true := by
  have hk := sttOk_iff.1 h
  exact sttOk_iff.2 ⟨hk.1, hk.2.1, hk.2.2.1, hm, hk.2.2.2.2⟩
theorem stt_reg {s : Stt} {i : Nat} {w : Word} (h : sttOk s = true) (hw : wordOk w = true) : sttOk ⟨s.regs.set i w, s.pc, s.mem, s.trap⟩ = true := by
  have hk := sttOk_iff.1 h
  exact sttOk_iff.2 ⟨set_okW hk.1 hw, by simpa using hk.2.1, hk.2.2⟩
theorem ok_fit {s : Stt} (h : sttOk s = true) : s.fit := by
  have hk := sttOk_iff.1 h
  have hm := memOk_iff.1 hk.2.2.2.1
  exact ⟨by omega, by rw [hm.1]; decide, by rw [hm.2.1]; decide⟩
end Go.Proofs.YtgpjgljgplngpaaDoor.AM
