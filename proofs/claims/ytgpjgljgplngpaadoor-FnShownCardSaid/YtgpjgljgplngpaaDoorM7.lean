/- What is drawn: rows that begin further on, cores; what a commit comes to. No conditions. -/
import Derived.Test.YtgpjgljgplngpaaDoorM6
import Derived.ProofKit
import Derived.OpenShut
import Derived.WalkKit
set_option linter.unusedVariables false
set_option linter.unusedSimpArgs false
namespace Go.Proofs.YtgpjgljgplngpaaDoor.AM
open Go

def cutW (ws : List Word) (o : Nat) (xs : List Word) : Prop := ((rows ws).drop o).take (xs.length * 6) = rows xs ∧ o + xs.length * 6 ≤ (rows ws).length
theorem cutW_all {xs : List Word} : cutW xs 0 xs := ⟨by rw [List.drop_zero, words_take], by rw [words_len]; omega⟩
theorem cutW_one {xs : List Word} (h : 1 ≤ xs.length) : cutW xs 6 (xs.drop 1) := by
  have h1 : (rows xs).drop (1 * 6) = rows (xs.drop 1) := rows_drop (xs := xs) (i := 1)
  rw [Nat.one_mul] at h1
  exact ⟨by rw [h1, words_take], by rw [words_len, List.length_drop]; omega⟩
def smallS (s : Stt) : Prop := s.regs.length ≤ 8 ∧ s.mem.words.length ≤ 24 ∧ s.mem.gone.length ≤ 24
theorem small_fit {s : Stt} (h : smallS s) : s.fit := by
  obtain ⟨a, b, c⟩ := h
  exact ⟨by omega, by show s.mem.words.length ≤ 1048576; omega, by show s.mem.gone.length ≤ 1048576; omega⟩
theorem ok_small {s : Stt} (h : sttOk s = true) : smallS s := by
  have hk := sttOk_iff.1 h
  have hm := memOk_iff.1 hk.2.2.2.1
  exact ⟨by omega, by omega, by omega⟩
def Stt.ownC (a b c p o : Nat) (s : Stt) : List AV := .slice a p s.regs.length 0 :: (s.pc.cells ++ [.slice b o s.mem.words.length 0, .slice c 0 s.mem.gone.length 0, .int .i64 s.trap])
theorem ownC_eq {a b c p o : Nat} {s : Stt} : s.ownC a b c p o = .slice a p s.regs.length 0 :: (s.pc.cells ++ [.slice b o s.mem.words.length 0, .slice c 0 s.mem.gone.length 0, .int .i64 s.trap]) := (rfl)
attribute [go_sem] ownC_eq
theorem inss_first {l : List Ins} (h : 0 < l.length) : (rows l).take 5 = Ins.cells (l.getD 0 noIns) := by
  cases l with
  | nil => exact absurd h (by simp)
  | cons x l => rfl
theorem inss_split {l : List Ins} (h : 0 < l.length) : rows l = Ins.cells (l.getD 0 noIns) ++ rows (l.drop 1) := by
  cases l with
  | nil => exact absurd h (by simp)
  | cons x l => rfl
theorem dif_le {α : Type} [DecidableEq α] {d : α} {xs ys : List α} : ∀ n, dif d xs ys n ≤ n
  | 0 => Nat.le_refl _
  | n + 1 => by
    have := dif_le (d := d) (xs := xs) (ys := ys) n
    rw [dif]
    split <;> omega
theorem dif_ne {α : Type} [DecidableEq α] {d : α} {xs ys : List α} {n : Nat} (h : ¬ xs.getD n d = ys.getD n d) : dif d xs ys (n + 1) = dif d xs ys n + 1 := by rw [dif, if_neg h]
theorem dif_eq {α : Type} [DecidableEq α] {d : α} {xs ys : List α} {n : Nat} (h : xs.getD n d = ys.getD n d) : dif d xs ys (n + 1) = dif d xs ys n := by rw [dif, if_pos h]; rfl
/-- A row of bytes. -/
theorem opens_bytes {P : Program} {t e : TypeId} (ht : P.underlying t = some (.slice e)) (he : P.underlying e = some (.int .u8)) (hc : P.cellsOf e = 1) : Opens P t (fun bs : List UInt8 => [AV.sl bs.length bs.length (bytesV bs)]) (fun bs => bs.length ≤ 9223372036854775807) := by
  constructor
  intro H encH w held fuel cs x hx
  obtain ⟨xs, ⟨h1, hl⟩, h2, h3⟩ := (opens_slice (s := 1) (enc := fun n : Int => [AV.int .u8 n]) ht hc (by decide) (fun _ => rfl) (opens_int he)).run hx
  have e1 : bytesV (xs.map fun n => UInt8.ofNat n.toNat) = (xs.map fun n : Int => [AV.int .u8 n]).flatten := by
    clear h2 hl
    induction xs with
    | nil => rfl
    | cons n xs ih =>
      have hn := h1 n (List.mem_cons_self ..)
      simp only [Lit.wf, Bool.and_eq_true, decide_eq_true_eq] at hn
      have h0 : (0 : Int) ≤ n := hn.1
      have h255 : n ≤ 255 := hn.2
      have e2 : ((UInt8.ofNat n.toNat).toNat : Int) = n := by rw [UInt8.toNat_ofNat']; omega
      have := ih fun a ha => h1 a (List.mem_cons_of_mem _ ha)
      simp only [bytesV, List.map_cons, List.flatten_cons] at this ⊢
      rw [this, e2]
      rfl
  refine ⟨xs.map fun n => UInt8.ofNat n.toNat, ?_, ?_, h3⟩
  · rw [List.length_map]; exact Nat.le_trans hl (by decide)
  · show VRL _ _ _ [AV.sl (xs.map fun n => UInt8.ofNat n.toNat).length (xs.map fun n => UInt8.ofNat n.toNat).length (bytesV (xs.map fun n => UInt8.ofNat n.toNat))] _
    rw [List.length_map, e1]
    exact h2
end Go.Proofs.YtgpjgljgplngpaaDoor.AM
set_option linter.unusedVariables false
set_option linter.unusedSimpArgs false
namespace Go.Proofs.YtgpjgljgplngpaaDoor.AM
open Go

def cutI (gs : List Int) (g : Nat) (xs : List Int) : Prop := ((ints gs).drop g).take xs.length = ints xs ∧ g + xs.length ≤ gs.length
theorem cutI_all {xs : List Int} : cutI xs 0 xs := ⟨by rw [List.drop_zero, ints_take], by omega⟩
def smallC (c : Cor) : Prop := smallS c.s ∧ c.rob.length ≤ 12 ∧ c.guesses.length ≤ 48
theorem smallC_fit {c : Cor} (h : smallC c) : c.fit := ⟨small_fit h.1, by have := h.2.1; omega, by have := h.2.2; omega⟩
def Cor.ownC (a b c d e p o g : Nat) (x : Cor) : List AV := x.s.ownC a b c p o ++ .slice d 0 x.rob.length 0 :: (x.next.cells ++ [.bool x.stop, .slice e g x.guesses.length 0])
theorem ownCC_eq {a b c d e p o g : Nat} {x : Cor} : x.ownC a b c d e p o g = x.s.ownC a b c p o ++ .slice d 0 x.rob.length 0 :: (x.next.cells ++ [.bool x.stop, .slice e g x.guesses.length 0]) := (rfl)
attribute [go_sem] ownCC_eq
section
variable {xs : List Ent}
def ent0 (xs : List Ent) : Ent := xs.getD 0 noEnt
def withDone (x : Ent) (d : Bool) : Ent := ⟨x.pc, x.x, d, x.e, x.guess⟩
def withR (x : Ent) (n : Int) : Ent := ⟨x.pc, x.x, x.done, ⟨x.e.trap, n, x.e.val, x.e.next, x.e.adr, x.e.put, x.e.drop⟩, x.guess⟩
def withVal (x : Ent) (w : Word) : Ent := ⟨x.pc, x.x, x.done, ⟨x.e.trap, x.e.r, w, x.e.next, x.e.adr, x.e.put, x.e.drop⟩, x.guess⟩
theorem rob_done {v : Bool} (h : 0 < xs.length) : putAt (rows xs) 11 [.bool v] = rows (xs.set 0 (withDone (ent0 xs) v)) := by
  have := put_cell (xs := xs) (i := 0) (j := 11) (v := .bool v) (y := withDone (ent0 xs) v) h (by decide) rfl
  rwa [Nat.zero_mul, Nat.zero_add] at this
theorem rob_r {n : Int} (h : 0 < xs.length) : putAt (rows xs) 13 [.int .i64 n] = rows (xs.set 0 (withR (ent0 xs) n)) := by
  have := put_cell (xs := xs) (i := 0) (j := 13) (v := .int .i64 n) (y := withR (ent0 xs) n) h (by decide) rfl
  rwa [Nat.zero_mul, Nat.zero_add] at this
theorem rob_val {w : Word} (h : 0 < xs.length) : putAt (rows xs) 14 [.int .i64 w.n, .bool w.is, .int .i64 w.key.base, .int .i64 w.key.top, .int .i64 w.key.perms, .int .i64 w.key.lock] = rows (xs.set 0 (withVal (ent0 xs) w)) := by
  have := put_cells (xs := xs) (i := 0) (y := withVal (ent0 xs) w) (j := 14) (L := [.int .i64 w.n, .bool w.is, .int .i64 w.key.base, .int .i64 w.key.top, .int .i64 w.key.perms, .int .i64 w.key.lock]) h (Nat.le_of_ble_eq_true rfl) rfl
  rwa [Nat.zero_mul, Nat.zero_add] at this
end
end Go.Proofs.YtgpjgljgplngpaaDoor.AM
set_option linter.unusedVariables false
set_option linter.unusedSimpArgs false
namespace Go.Proofs.YtgpjgljgplngpaaDoor.AM
open Go

section
variable {c : Cor} {l : List Ins} {xs : List Ent}
theorem ents_trap0 (h : 0 < xs.length) : ((rows xs).drop 12).head? = some (.int .i64 (xs.getD 0 noEnt).e.trap) := by rw [ents_first h]; rfl
theorem commit_same (h : corOk c = true) (h2 : (commit c).2 = false) : commit c = (c, false) := by
  by_cases h1 : c.rob = [] ∨ (c.rob.getD 0 noEnt).done = false ∨ c.s.trap ≠ 0
  · exact commit_idle h h1
  · rw [commit_on h h1] at h2; cases h2
theorem commit_yes (h : corOk c = true) (h2 : (commit c).2 = true) : 0 < c.rob.length ∧ (c.rob.getD 0 noEnt).done = true ∧ (commit c).1 = commitE c (c.rob.getD 0 noEnt) := by
  by_cases h1 : c.rob = [] ∨ (c.rob.getD 0 noEnt).done = false ∨ c.s.trap ≠ 0
  · rw [commit_idle h h1] at h2; cases h2
  · rw [commit_on h h1]
    refine ⟨Nat.pos_of_ne_zero fun g => h1 (Or.inl (List.eq_nil_of_length_eq_zero g)), ?_, rfl⟩
    cases hd : (c.rob.getD 0 noEnt).done with
    | true => rfl
    | false => exact absurd (Or.inr (Or.inl hd)) h1
theorem commit_rob (h : corOk c = true) (h2 : (commit c).2 = true) (h3 : ¬ ((commit c).1.rob.length : Int) = (c.rob.length : Int) - 1) : ((commit c).1.rob.length : Int) = 0 := by
  obtain ⟨g1, g2, g3⟩ := commit_yes h h2
  rw [g3] at h3 ⊢
  unfold commitE at h3 ⊢
  split
  · rfl
  · split
    · rfl
    · rename_i a b
      rw [if_neg a, if_neg b] at h3
      simp at h3
      omega
theorem commit_trap (h : corOk c = true) (h2 : (commit c).2 = true) (h3 : ¬ (c.rob.getD 0 noEnt).e.trap = 0) : (commit c).1.s.trap = (c.rob.getD 0 noEnt).e.trap ∧ (commit c).1.stop = true := by
  obtain ⟨g1, g2, g3⟩ := commit_yes h h2
  rw [g3, commitE_trap h3]
  exact ⟨rfl, rfl⟩
theorem pull_same (h : corOk c = true) (h2 : (pull l c).2 = false) : pull l c = (c, false) := by
  by_cases h1 : c.stop = true ∨ c.rob.length = 6 ∨ c.s.trap ≠ 0
  · exact pull_idle h h1
  · by_cases h3 : (fetch l c.next).2 = 0
    · rw [pull_go h h1 h3] at h2; cases h2
    · rw [pull_trap h h1 h3] at h2; cases h2
theorem pull_yes (h : corOk c = true) (h2 : (pull l c).2 = true) : ∃ x : Ent, (pull l c).1.rob = c.rob ++ [x] ∧ (pull l c).1.s = c.s ∧ x.pc = c.next ∧ (x.done = !decide (x.e.trap = 0)) := by
  by_cases h1 : c.stop = true ∨ c.rob.length = 6 ∨ c.s.trap ≠ 0
  · rw [pull_idle h h1] at h2; cases h2
  · by_cases h3 : (fetch l c.next).2 = 0
    · rw [pull_go h h1 h3]
      exact ⟨_, rfl, rfl, rfl, rfl⟩
    · rw [pull_trap h h1 h3]
      refine ⟨_, rfl, rfl, rfl, ?_⟩
      show true = !decide ((fetch l c.next).2 = 0)
      rw [decide_eq_false h3]; rfl
end
end Go.Proofs.YtgpjgljgplngpaaDoor.AM
