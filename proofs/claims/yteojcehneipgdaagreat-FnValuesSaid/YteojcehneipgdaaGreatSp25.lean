/- What is drawn: rows that begin further on. No conditions. -/
import Derived.Test.YteojcehneipgdaaGreatM6
import Derived.ProofKit
import Derived.OpenShut
import Derived.WalkKit
set_option linter.unusedVariables false
set_option linter.unusedSimpArgs false
namespace Go.Proofs.YteojcehneipgdaaGreat.AM
open Go

def cutW (ws : List Word) (o : Nat) (xs : List Word) : Prop := ((rows ws).drop o).take (xs.length * 6) = rows xs ∧ o + xs.length * 6 ≤ (rows ws).length
theorem cutW_all {xs : List Word} : cutW xs 0 xs := ⟨by rw [List.drop_zero, words_take], by rw [words_len]; omega⟩
theorem cutW_one {xs : List Word} (h : 1 ≤ xs.length) : cutW xs 6 (xs.drop 1) := by
  have h1 : (rows xs).drop (1 * 6) = rows (xs.drop 1) := rows_drop (xs := xs) (i := 1)
  rw [Nat.one_mul] at h1
  exact ⟨by rw [h1, words_take], by rw [words_len, List.length_drop]; omega⟩
def smallS (s : Stt) : Prop := s.regs.length ≤ 8 ∧ s.mem.words.length ≤ 24 ∧ s.mem.gone.length ≤ 24
theorem small_fit {s : Stt} (h : smallS s) : s.fit := by
  obtain ⟨a, b, c⟩ := h
  exact ⟨by omega, by show s.mem.words.length ≤ 1048576; omega, by show s.mem.gone.length ≤ 1048576; omega⟩
theorem ok_small {s : Stt} (h : sttOk s = true) : smallS s := by
  have hk := sttOk_iff.1 h
  have hm := memOk_iff.1 hk.2.2.2.1
  exact ⟨by omega, by omega, by omega⟩
def Stt.ownC (a b c p o : Nat) (s : Stt) : List AV := .slice a p s.regs.length 0 :: (s.pc.cells ++ [.slice b o s.mem.words.length 0, .slice c 0 s.mem.gone.length 0, .int .i64 s.trap])
theorem ownC_eq {a b c p o : Nat} {s : Stt} : s.ownC a b c p o = .slice a p s.regs.length 0 :: (s.pc.cells ++ [.slice b o s.mem.words.length 0, .slice c 0 s.mem.gone.length 0, .int .i64 s.trap]) := (rfl)
attribute [go_sem] ownC_eq
theorem inss_first {l : List Ins} (h : 0 < l.length) : (rows l).take 5 = Ins.cells (l.getD 0 noIns) := by
  cases l with
  | nil => exact absurd h (by simp)
  | cons x l => rfl
theorem inss_split {l : List Ins} (h : 0 < l.length) : rows l = Ins.cells (l.getD 0 noIns) ++ rows (l.drop 1) := by
  cases l with
  | nil => exact absurd h (by simp)
  | cons x l => rfl
theorem dif_le {α : Type} [DecidableEq α] {d : α} {xs ys : List α} : ∀ n, dif d xs ys n ≤ n
  | 0 => Nat.le_refl _
  | n + 1 => by
    have := dif_le (d := d) (xs := xs) (ys := ys) n
    rw [dif]
    split <;> omega
theorem dif_ne {α : Type} [DecidableEq α] {d : α} {xs ys : List α} {n : Nat} (h : ¬ xs.getD n d = ys.getD n d) : dif d xs ys (n + 1) = dif d xs ys n + 1 := by rw [dif, if_neg h]
theorem dif_eq {α : Type} [DecidableEq α] {d : α} {xs ys : List α} {n : Nat} (h : xs.getD n d = ys.getD n d) : dif d xs ys (n + 1) = dif d xs ys n := by rw [dif, if_pos h]; rfl
/-- A row of bytes. -/
theorem opens_bytes {P : Program} {t e : TypeId} (ht : P.underlying t = some (.slice e)) (he : P.underlying e = some (.int .u8)) (hc : P.cellsOf e = 1) : Opens P t (fun bs : List UInt8 => [AV.sl bs.length bs.length (bytesV bs)]) (fun bs => bs.length ≤ 9223372036854775807) := by
  constructor
  intro H encH w held fuel cs x hx
  obtain ⟨xs, ⟨h1, hl⟩, h2, h3⟩ := (opens_slice (s := 1) (enc := fun n : Int => [AV.int .u8 n]) ht hc (by decide) (fun _ => rfl) (opens_int he)).run hx
  have e1 : bytesV (xs.map fun n => UInt8.ofNat n.toNat) = (xs.map fun n : Int => [AV.int .u8 n]).flatten := by
    clear h2 hl
    induction xs with
    | nil => rfl
    | cons n xs ih =>
      have hn := h1 n (List.mem_cons_self ..)
      simp only [Lit.wf, Bool.and_eq_true, decide_eq_true_eq] at hn
      have h0 : (0 : Int) ≤ n := hn.1
      have h255 : n ≤ 255 := hn.2
      have e2 : ((UInt8.ofNat n.toNat).toNat : Int) = n := by rw [UInt8.toNat_ofNat']; omega
      have := ih fun a ha => h1 a (List.mem_cons_of_mem _ ha)
      simp only [bytesV, List.map_cons, List.flatten_cons] at this ⊢
      rw [this, e2]
      rfl
  refine ⟨xs.map fun n => UInt8.ofNat n.toNat, ?_, ?_, h3⟩
  · rw [List.length_map]; exact Nat.le_trans hl (by decide)
  · show VRL _ _ _ [AV.sl (xs.map fun n => UInt8.ofNat n.toNat).length (xs.map fun n => UInt8.ofNat n.toNat).length (bytesV (xs.map fun n => UInt8.ofNat n.toNat))] _
    rw [List.length_map, e1]
    exact h2
end Go.Proofs.YteojcehneipgdaaGreat.AM
