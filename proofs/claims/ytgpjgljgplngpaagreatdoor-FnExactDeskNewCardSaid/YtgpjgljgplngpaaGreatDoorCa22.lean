/- What the laws mark of cores. No conditions but those each theorem bears. -/
import Derived.Test.YtgpjgljgplngpaaGreatDoorFa
import Derived.Test.YtgpjgljgplngpaaGreatDoorM5
import Derived.Test.YtgpjgljgplngpaaGreatDoorCa16
set_option linter.unusedSimpArgs false
set_option linter.unusedVariables false
namespace Go.Proofs.YtgpjgljgplngpaaGreatDoor.AM
open Go
set_option maxHeartbeats 8000000
set_option maxRecDepth 100000

section
variable {xs : List Ent} {t s : Int} {c i : Nat} {cs : List Code} {Q : Exit → Env → Heap → Prop} {ρ : Env}
def gE (xs : List Ent) (t s : Int) (i : Nat) : Prop := i < xs.length ∧ s = t + (40 * i : Nat) ∧ xs.length ≤ 1099511627776 ∧ 0 ≤ t ∧ t ≤ 1099511627776
def eE (xs : List Ent) (c i : Nat) (u : Int) (ρ : Env) : Prop := ρ 0 = .slice 0 0 xs.length c ∧ ρ 1 = .int .i64 u ∧ ρ 5 = .int .i64 (i : Int)
def hE (xs : List Ent) (t s : Int) (i j : Nat) : Heap := [⟨40, rows (mrow markQ 40 t i) ++ (mixQ s (xs.getD i noEnt) j ++ rows (xs.drop (i + 1))), true, false⟩]
def cE (f : Func) (n : Nat) : Code := codeAt (fnCode f) ([1, 0, 1, 2, 2, 1, 0, 2] ++ List.replicate n 1)
theorem lenE (g : gE xs t s i) (j : Nat) : (rows (mrow markQ 40 t i) ++ (mixQ s (xs.getD i noEnt) j ++ rows (xs.drop (i + 1)))).length = xs.length * 40 := by
  obtain ⟨a, _⟩ := g
  rw [List.length_append, List.length_append, mrowsE_len, mixQ_len, ents_len, List.length_drop]; omega
theorem stepE {u v : Int} (g : gE xs t s i) (h : s ≤ u) (h' : u ≤ s + 40) (hv : u + 1 = v) : IntKind.i64.wrap (u + 1) = v := by
  obtain ⟨a, b, c, d, e⟩ := g
  rw [wrap64 (by omega), hv]
set_option maxRecDepth 100000 in
theorem mkE0 (g : gE xs t s i) (h : eE xs c i s ρ) (next : ∀ ρ, eE xs c i (s + 1) ρ → awpL Tryz.prog 1 (cE Tryz.f82 2 :: cs) Q ρ (hE xs t s i 1)) :
 awpL Tryz.prog 1 (cE Tryz.f82 0 :: cs) Q ρ (hE xs t s i 0) := by
 obtain ⟨h0, h1, h5⟩ := h; have lx := lenE g 0; have hi := g.1; unfold hE at next ⊢
 refine awl_seq (awl_regS _ rfl fun K hK => ?_)
 simp only [go_sem, simprocAttr, h0, h1, h5, hi, lx, mixQ0]
 repeat' (refine And.intro (by first | rfl | omega) ?_)
 refine hK _ _ (.mk (awl_live' [0, 1, 5] fun ρ hL => ?_))
 simp only [go_sem, simprocAttr, h0, h1, h5] at hL
 obtain ⟨h0, h1, h5⟩ := hL
 have w := stepE g (u := s) (v := s + 1) (by omega) (by omega) (by omega)
 refine awl_seq (awl_regS _ rfl fun K hK => ?_)
 simp only [go_sem, simprocAttr, h0, h1, h5, w]
 refine hK _ _ (.mk (awl_live' [0, 1, 5] fun ρ hL => ?_))
 simp only [go_sem, simprocAttr, h0, h1, h5, w] at hL
 exact next ρ hL
set_option maxRecDepth 100000 in
theorem mkE1 (g : gE xs t s i) (h : eE xs c i (s + 1) ρ) (next : ∀ ρ, eE xs c i (s + 2) ρ → awpL Tryz.prog 1 (cE Tryz.f82 4 :: cs) Q ρ (hE xs t s i 2)) :
 awpL Tryz.prog 1 (cE Tryz.f82 2 :: cs) Q ρ (hE xs t s i 1) := by
 obtain ⟨h0, h1, h5⟩ := h; have lx := lenE g 1; have hi := g.1; unfold hE at next ⊢
 refine awl_seq (awl_regS _ rfl fun K hK => ?_)
 simp only [go_sem, simprocAttr, h0, h1, h5, hi, lx, mixQ1]
 repeat' (refine And.intro (by first | rfl | omega) ?_)
 refine hK _ _ (.mk (awl_live' [0, 1, 5] fun ρ hL => ?_))
 simp only [go_sem, simprocAttr, h0, h1, h5] at hL
 obtain ⟨h0, h1, h5⟩ := hL
 have w := stepE g (u := (s + 1)) (v := s + 2) (by omega) (by omega) (by omega)
 refine awl_seq (awl_regS _ rfl fun K hK => ?_)
 simp only [go_sem, simprocAttr, h0, h1, h5, w]
 refine hK _ _ (.mk (awl_live' [0, 1, 5] fun ρ hL => ?_))
 simp only [go_sem, simprocAttr, h0, h1, h5, w] at hL
 exact next ρ hL
set_option maxRecDepth 100000 in
theorem mkE2 (g : gE xs t s i) (h : eE xs c i (s + 2) ρ) (next : ∀ ρ, eE xs c i (s + 3) ρ → awpL Tryz.prog 1 (cE Tryz.f82 6 :: cs) Q ρ (hE xs t s i 3)) :
 awpL Tryz.prog 1 (cE Tryz.f82 4 :: cs) Q ρ (hE xs t s i 2) := by
 obtain ⟨h0, h1, h5⟩ := h; have lx := lenE g 2; have hi := g.1; unfold hE at next ⊢
 refine awl_seq (awl_regS _ rfl fun K hK => ?_)
 simp only [go_sem, simprocAttr, h0, h1, h5, hi, lx, mixQ2]
 repeat' (refine And.intro (by first | rfl | omega) ?_)
 refine hK _ _ (.mk (awl_live' [0, 1, 5] fun ρ hL => ?_))
 simp only [go_sem, simprocAttr, h0, h1, h5] at hL
 obtain ⟨h0, h1, h5⟩ := hL
 have w := stepE g (u := (s + 2)) (v := s + 3) (by omega) (by omega) (by omega)
 refine awl_seq (awl_regS _ rfl fun K hK => ?_)
 simp only [go_sem, simprocAttr, h0, h1, h5, w]
 refine hK _ _ (.mk (awl_live' [0, 1, 5] fun ρ hL => ?_))
 simp only [go_sem, simprocAttr, h0, h1, h5, w] at hL
 exact next ρ hL
set_option maxRecDepth 100000 in
theorem mkE3 (g : gE xs t s i) (h : eE xs c i (s + 3) ρ) (next : ∀ ρ, eE xs c i (s + 4) ρ → awpL Tryz.prog 1 (cE Tryz.f82 8 :: cs) Q ρ (hE xs t s i 4)) :
 awpL Tryz.prog 1 (cE Tryz.f82 6 :: cs) Q ρ (hE xs t s i 3) := by
 obtain ⟨h0, h1, h5⟩ := h; have lx := lenE g 3; have hi := g.1; unfold hE at next ⊢
 refine awl_seq (awl_regS _ rfl fun K hK => ?_)
 simp only [go_sem, simprocAttr, h0, h1, h5, hi, lx, mixQ3]
 repeat' (refine And.intro (by first | rfl | omega) ?_)
 refine hK _ _ (.mk (awl_live' [0, 1, 5] fun ρ hL => ?_))
 simp only [go_sem, simprocAttr, h0, h1, h5] at hL
 obtain ⟨h0, h1, h5⟩ := hL
 have w := stepE g (u := (s + 3)) (v := s + 4) (by omega) (by omega) (by omega)
 refine awl_seq (awl_regS _ rfl fun K hK => ?_)
 simp only [go_sem, simprocAttr, h0, h1, h5, w]
 refine hK _ _ (.mk (awl_live' [0, 1, 5] fun ρ hL => ?_))
 simp only [go_sem, simprocAttr, h0, h1, h5, w] at hL
 exact next ρ hL
set_option maxRecDepth 100000 in
theorem mkE4 (g : gE xs t s i) (h : eE xs c i (s + 4) ρ) (next : ∀ ρ, eE xs c i (s + 5) ρ → awpL Tryz.prog 1 (cE Tryz.f82 10 :: cs) Q ρ (hE xs t s i 5)) :
 awpL Tryz.prog 1 (cE Tryz.f82 8 :: cs) Q ρ (hE xs t s i 4) := by
 obtain ⟨h0, h1, h5⟩ := h; have lx := lenE g 4; have hi := g.1; unfold hE at next ⊢
 refine awl_seq (awl_regS _ rfl fun K hK => ?_)
 simp only [go_sem, simprocAttr, h0, h1, h5, hi, lx, mixQ4]
 repeat' (refine And.intro (by first | rfl | omega) ?_)
 refine hK _ _ (.mk (awl_live' [0, 1, 5] fun ρ hL => ?_))
 simp only [go_sem, simprocAttr, h0, h1, h5] at hL
 obtain ⟨h0, h1, h5⟩ := hL
 have w := stepE g (u := (s + 4)) (v := s + 5) (by omega) (by omega) (by omega)
 refine awl_seq (awl_regS _ rfl fun K hK => ?_)
 simp only [go_sem, simprocAttr, h0, h1, h5, w]
 refine hK _ _ (.mk (awl_live' [0, 1, 5] fun ρ hL => ?_))
 simp only [go_sem, simprocAttr, h0, h1, h5, w] at hL
 exact next ρ hL
set_option maxRecDepth 100000 in
theorem mkE5 (g : gE xs t s i) (h : eE xs c i (s + 5) ρ) (next : ∀ ρ, eE xs c i (s + 6) ρ → awpL Tryz.prog 1 (cE Tryz.f82 12 :: cs) Q ρ (hE xs t s i 6)) :
 awpL Tryz.prog 1 (cE Tryz.f82 10 :: cs) Q ρ (hE xs t s i 5) := by
 obtain ⟨h0, h1, h5⟩ := h; have lx := lenE g 5; have hi := g.1; unfold hE at next ⊢
 refine awl_seq (awl_regS _ rfl fun K hK => ?_)
 simp only [go_sem, simprocAttr, h0, h1, h5, hi, lx, mixQ5]
 repeat' (refine And.intro (by first | rfl | omega) ?_)
 refine hK _ _ (.mk (awl_live' [0, 1, 5] fun ρ hL => ?_))
 simp only [go_sem, simprocAttr, h0, h1, h5] at hL
 obtain ⟨h0, h1, h5⟩ := hL
 have w := stepE g (u := (s + 5)) (v := s + 6) (by omega) (by omega) (by omega)
 refine awl_seq (awl_regS _ rfl fun K hK => ?_)
 simp only [go_sem, simprocAttr, h0, h1, h5, w]
 refine hK _ _ (.mk (awl_live' [0, 1, 5] fun ρ hL => ?_))
 simp only [go_sem, simprocAttr, h0, h1, h5, w] at hL
 exact next ρ hL
set_option maxRecDepth 100000 in
theorem mkE6 (g : gE xs t s i) (h : eE xs c i (s + 6) ρ) (next : ∀ ρ, eE xs c i (s + 7) ρ → awpL Tryz.prog 1 (cE Tryz.f82 14 :: cs) Q ρ (hE xs t s i 7)) :
 awpL Tryz.prog 1 (cE Tryz.f82 12 :: cs) Q ρ (hE xs t s i 6) := by
 obtain ⟨h0, h1, h5⟩ := h; have lx := lenE g 6; have hi := g.1; unfold hE at next ⊢
 refine awl_seq (awl_regS _ rfl fun K hK => ?_)
 simp only [go_sem, simprocAttr, h0, h1, h5, hi, lx, mixQ6]
 repeat' (refine And.intro (by first | rfl | omega) ?_)
 refine hK _ _ (.mk (awl_live' [0, 1, 5] fun ρ hL => ?_))
 simp only [go_sem, simprocAttr, h0, h1, h5] at hL
 obtain ⟨h0, h1, h5⟩ := hL
 have w := stepE g (u := (s + 6)) (v := s + 7) (by omega) (by omega) (by omega)
 refine awl_seq (awl_regS _ rfl fun K hK => ?_)
 simp only [go_sem, simprocAttr, h0, h1, h5, w]
 refine hK _ _ (.mk (awl_live' [0, 1, 5] fun ρ hL => ?_))
 simp only [go_sem, simprocAttr, h0, h1, h5, w] at hL
 exact next ρ hL
set_option maxRecDepth 100000 in
theorem mkE7 (g : gE xs t s i) (h : eE xs c i (s + 7) ρ) (next : ∀ ρ, eE xs c i (s + 8) ρ → awpL Tryz.prog 1 (cE Tryz.f82 16 :: cs) Q ρ (hE xs t s i 8)) :
 awpL Tryz.prog 1 (cE Tryz.f82 14 :: cs) Q ρ (hE xs t s i 7) := by
 obtain ⟨h0, h1, h5⟩ := h; have lx := lenE g 7; have hi := g.1; unfold hE at next ⊢
 refine awl_seq (awl_regS _ rfl fun K hK => ?_)
 simp only [go_sem, simprocAttr, h0, h1, h5, hi, lx, mixQ7]
 repeat' (refine And.intro (by first | rfl | omega) ?_)
 refine hK _ _ (.mk (awl_live' [0, 1, 5] fun ρ hL => ?_))
 simp only [go_sem, simprocAttr, h0, h1, h5] at hL
 obtain ⟨h0, h1, h5⟩ := hL
 have w := stepE g (u := (s + 7)) (v := s + 8) (by omega) (by omega) (by omega)
 refine awl_seq (awl_regS _ rfl fun K hK => ?_)
 simp only [go_sem, simprocAttr, h0, h1, h5, w]
 refine hK _ _ (.mk (awl_live' [0, 1, 5] fun ρ hL => ?_))
 simp only [go_sem, simprocAttr, h0, h1, h5, w] at hL
 exact next ρ hL
set_option maxRecDepth 100000 in
theorem mkE8 (g : gE xs t s i) (h : eE xs c i (s + 8) ρ) (next : ∀ ρ, eE xs c i (s + 9) ρ → awpL Tryz.prog 1 (cE Tryz.f82 18 :: cs) Q ρ (hE xs t s i 9)) :
 awpL Tryz.prog 1 (cE Tryz.f82 16 :: cs) Q ρ (hE xs t s i 8) := by
 obtain ⟨h0, h1, h5⟩ := h; have lx := lenE g 8; have hi := g.1; unfold hE at next ⊢
 refine awl_seq (awl_regS _ rfl fun K hK => ?_)
 simp only [go_sem, simprocAttr, h0, h1, h5, hi, lx, mixQ8]
 repeat' (refine And.intro (by first | rfl | omega) ?_)
 refine hK _ _ (.mk (awl_live' [0, 1, 5] fun ρ hL => ?_))
 simp only [go_sem, simprocAttr, h0, h1, h5] at hL
 obtain ⟨h0, h1, h5⟩ := hL
 have w := stepE g (u := (s + 8)) (v := s + 9) (by omega) (by omega) (by omega)
 refine awl_seq (awl_regS _ rfl fun K hK => ?_)
 simp only [go_sem, simprocAttr, h0, h1, h5, w]
 refine hK _ _ (.mk (awl_live' [0, 1, 5] fun ρ hL => ?_))
 simp only [go_sem, simprocAttr, h0, h1, h5, w] at hL
 exact next ρ hL
set_option maxRecDepth 100000 in
theorem mkE9 (g : gE xs t s i) (h : eE xs c i (s + 9) ρ) (next : ∀ ρ, eE xs c i (s + 10) ρ → awpL Tryz.prog 1 (cE Tryz.f82 20 :: cs) Q ρ (hE xs t s i 10)) :
 awpL Tryz.prog 1 (cE Tryz.f82 18 :: cs) Q ρ (hE xs t s i 9) := by
 obtain ⟨h0, h1, h5⟩ := h; have lx := lenE g 9; have hi := g.1; unfold hE at next ⊢
 refine awl_seq (awl_regS _ rfl fun K hK => ?_)
 simp only [go_sem, simprocAttr, h0, h1, h5, hi, lx, mixQ9]
 repeat' (refine And.intro (by first | rfl | omega) ?_)
 refine hK _ _ (.mk (awl_live' [0, 1, 5] fun ρ hL => ?_))
 simp only [go_sem, simprocAttr, h0, h1, h5] at hL
 obtain ⟨h0, h1, h5⟩ := hL
 have w := stepE g (u := (s + 9)) (v := s + 10) (by omega) (by omega) (by omega)
 refine awl_seq (awl_regS _ rfl fun K hK => ?_)
 simp only [go_sem, simprocAttr, h0, h1, h5, w]
 refine hK _ _ (.mk (awl_live' [0, 1, 5] fun ρ hL => ?_))
 simp only [go_sem, simprocAttr, h0, h1, h5, w] at hL
 exact next ρ hL
set_option maxRecDepth 100000 in
theorem mkE10 (g : gE xs t s i) (h : eE xs c i (s + 10) ρ) (next : ∀ ρ, eE xs c i (s + 11) ρ → awpL Tryz.prog 1 (cE Tryz.f82 22 :: cs) Q ρ (hE xs t s i 11)) :
 awpL Tryz.prog 1 (cE Tryz.f82 20 :: cs) Q ρ (hE xs t s i 10) := by
 obtain ⟨h0, h1, h5⟩ := h; have lx := lenE g 10; have hi := g.1; unfold hE at next ⊢
 refine awl_seq (awl_regS _ rfl fun K hK => ?_)
 simp only [go_sem, simprocAttr, h0, h1, h5, hi, lx, mixQ10]
 repeat' (refine And.intro (by first | rfl | omega) ?_)
 refine hK _ _ (.mk (awl_live' [0, 1, 5] fun ρ hL => ?_))
 simp only [go_sem, simprocAttr, h0, h1, h5] at hL
 obtain ⟨h0, h1, h5⟩ := hL
 have w := stepE g (u := (s + 10)) (v := s + 11) (by omega) (by omega) (by omega)
 refine awl_seq (awl_regS _ rfl fun K hK => ?_)
 simp only [go_sem, simprocAttr, h0, h1, h5, w]
 refine hK _ _ (.mk (awl_live' [0, 1, 5] fun ρ hL => ?_))
 simp only [go_sem, simprocAttr, h0, h1, h5, w] at hL
 exact next ρ hL
set_option maxRecDepth 100000 in
theorem mkE11 (g : gE xs t s i) (h : eE xs c i (s + 11) ρ) (next : ∀ ρ, eE xs c i (s + 12) ρ → awpL Tryz.prog 1 (cE Tryz.f82 24 :: cs) Q ρ (hE xs t s i 12)) :
 awpL Tryz.prog 1 (cE Tryz.f82 22 :: cs) Q ρ (hE xs t s i 11) := by
 obtain ⟨h0, h1, h5⟩ := h; have lx := lenE g 11; have hi := g.1; unfold hE at next ⊢
 refine awl_seq (awl_regS _ rfl fun K hK => ?_)
 simp only [go_sem, simprocAttr, h0, h1, h5, hi, lx, mixQ11]
 repeat' (refine And.intro (by first | rfl | omega) ?_)
 refine hK _ _ (.mk (awl_live' [0, 1, 5] fun ρ hL => ?_))
 simp only [go_sem, simprocAttr, h0, h1, h5] at hL
 obtain ⟨h0, h1, h5⟩ := hL
 have w := stepE g (u := (s + 11)) (v := s + 12) (by omega) (by omega) (by omega)
 refine awl_seq (awl_regS _ rfl fun K hK => ?_)
 simp only [go_sem, simprocAttr, h0, h1, h5, w]
 refine hK _ _ (.mk (awl_live' [0, 1, 5] fun ρ hL => ?_))
 simp only [go_sem, simprocAttr, h0, h1, h5, w] at hL
 exact next ρ hL
set_option maxRecDepth 100000 in
theorem mkE12 (g : gE xs t s i) (h : eE xs c i (s + 12) ρ) (next : ∀ ρ, eE xs c i (s + 13) ρ → awpL Tryz.prog 1 (cE Tryz.f82 26 :: cs) Q ρ (hE xs t s i 13)) :
 awpL Tryz.prog 1 (cE Tryz.f82 24 :: cs) Q ρ (hE xs t s i 12) := by
 obtain ⟨h0, h1, h5⟩ := h; have lx := lenE g 12; have hi := g.1; unfold hE at next ⊢
 refine awl_seq (awl_regS _ rfl fun K hK => ?_)
 simp only [go_sem, simprocAttr, h0, h1, h5, hi, lx, mixQ12]
 repeat' (refine And.intro (by first | rfl | omega) ?_)
 refine hK _ _ (.mk (awl_live' [0, 1, 5] fun ρ hL => ?_))
 simp only [go_sem, simprocAttr, h0, h1, h5] at hL
 obtain ⟨h0, h1, h5⟩ := hL
 have w := stepE g (u := (s + 12)) (v := s + 13) (by omega) (by omega) (by omega)
 refine awl_seq (awl_regS _ rfl fun K hK => ?_)
 simp only [go_sem, simprocAttr, h0, h1, h5, w]
 refine hK _ _ (.mk (awl_live' [0, 1, 5] fun ρ hL => ?_))
 simp only [go_sem, simprocAttr, h0, h1, h5, w] at hL
 exact next ρ hL
set_option maxRecDepth 100000 in
theorem mkE13 (g : gE xs t s i) (h : eE xs c i (s + 13) ρ) (next : ∀ ρ, eE xs c i (s + 14) ρ → awpL Tryz.prog 1 (cE Tryz.f82 28 :: cs) Q ρ (hE xs t s i 14)) :
 awpL Tryz.prog 1 (cE Tryz.f82 26 :: cs) Q ρ (hE xs t s i 13) := by
 obtain ⟨h0, h1, h5⟩ := h; have lx := lenE g 13; have hi := g.1; unfold hE at next ⊢
 refine awl_seq (awl_regS _ rfl fun K hK => ?_)
 simp only [go_sem, simprocAttr, h0, h1, h5, hi, lx, mixQ13]
 repeat' (refine And.intro (by first | rfl | omega) ?_)
 refine hK _ _ (.mk (awl_live' [0, 1, 5] fun ρ hL => ?_))
 simp only [go_sem, simprocAttr, h0, h1, h5] at hL
 obtain ⟨h0, h1, h5⟩ := hL
 have w := stepE g (u := (s + 13)) (v := s + 14) (by omega) (by omega) (by omega)
 refine awl_seq (awl_regS _ rfl fun K hK => ?_)
 simp only [go_sem, simprocAttr, h0, h1, h5, w]
 refine hK _ _ (.mk (awl_live' [0, 1, 5] fun ρ hL => ?_))
 simp only [go_sem, simprocAttr, h0, h1, h5, w] at hL
 exact next ρ hL
set_option maxRecDepth 100000 in
theorem mkE14 (g : gE xs t s i) (h : eE xs c i (s + 14) ρ) (next : ∀ ρ, eE xs c i (s + 15) ρ → awpL Tryz.prog 1 (cE Tryz.f82 30 :: cs) Q ρ (hE xs t s i 15)) :
 awpL Tryz.prog 1 (cE Tryz.f82 28 :: cs) Q ρ (hE xs t s i 14) := by
 obtain ⟨h0, h1, h5⟩ := h; have lx := lenE g 14; have hi := g.1; unfold hE at next ⊢
 refine awl_seq (awl_regS _ rfl fun K hK => ?_)
 simp only [go_sem, simprocAttr, h0, h1, h5, hi, lx, mixQ14]
 repeat' (refine And.intro (by first | rfl | omega) ?_)
 refine hK _ _ (.mk (awl_live' [0, 1, 5] fun ρ hL => ?_))
 simp only [go_sem, simprocAttr, h0, h1, h5] at hL
 obtain ⟨h0, h1, h5⟩ := hL
 have w := stepE g (u := (s + 14)) (v := s + 15) (by omega) (by omega) (by omega)
 refine awl_seq (awl_regS _ rfl fun K hK => ?_)
 simp only [go_sem, simprocAttr, h0, h1, h5, w]
 refine hK _ _ (.mk (awl_live' [0, 1, 5] fun ρ hL => ?_))
 simp only [go_sem, simprocAttr, h0, h1, h5, w] at hL
 exact next ρ hL
set_option maxRecDepth 100000 in
theorem mkE15 (g : gE xs t s i) (h : eE xs c i (s + 15) ρ) (next : ∀ ρ, eE xs c i (s + 16) ρ → awpL Tryz.prog 1 (cE Tryz.f82 32 :: cs) Q ρ (hE xs t s i 16)) :
 awpL Tryz.prog 1 (cE Tryz.f82 30 :: cs) Q ρ (hE xs t s i 15) := by
 obtain ⟨h0, h1, h5⟩ := h; have lx := lenE g 15; have hi := g.1; unfold hE at next ⊢
 refine awl_seq (awl_regS _ rfl fun K hK => ?_)
 simp only [go_sem, simprocAttr, h0, h1, h5, hi, lx, mixQ15]
 repeat' (refine And.intro (by first | rfl | omega) ?_)
 refine hK _ _ (.mk (awl_live' [0, 1, 5] fun ρ hL => ?_))
 simp only [go_sem, simprocAttr, h0, h1, h5] at hL
 obtain ⟨h0, h1, h5⟩ := hL
 have w := stepE g (u := (s + 15)) (v := s + 16) (by omega) (by omega) (by omega)
 refine awl_seq (awl_regS _ rfl fun K hK => ?_)
 simp only [go_sem, simprocAttr, h0, h1, h5, w]
 refine hK _ _ (.mk (awl_live' [0, 1, 5] fun ρ hL => ?_))
 simp only [go_sem, simprocAttr, h0, h1, h5, w] at hL
 exact next ρ hL
set_option maxRecDepth 100000 in
theorem mkE16 (g : gE xs t s i) (h : eE xs c i (s + 16) ρ) (next : ∀ ρ, eE xs c i (s + 17) ρ → awpL Tryz.prog 1 (cE Tryz.f82 34 :: cs) Q ρ (hE xs t s i 17)) :
 awpL Tryz.prog 1 (cE Tryz.f82 32 :: cs) Q ρ (hE xs t s i 16) := by
 obtain ⟨h0, h1, h5⟩ := h; have lx := lenE g 16; have hi := g.1; unfold hE at next ⊢
 refine awl_seq (awl_regS _ rfl fun K hK => ?_)
 simp only [go_sem, simprocAttr, h0, h1, h5, hi, lx, mixQ16]
 repeat' (refine And.intro (by first | rfl | omega) ?_)
 refine hK _ _ (.mk (awl_live' [0, 1, 5] fun ρ hL => ?_))
 simp only [go_sem, simprocAttr, h0, h1, h5] at hL
 obtain ⟨h0, h1, h5⟩ := hL
 have w := stepE g (u := (s + 16)) (v := s + 17) (by omega) (by omega) (by omega)
 refine awl_seq (awl_regS _ rfl fun K hK => ?_)
 simp only [go_sem, simprocAttr, h0, h1, h5, w]
 refine hK _ _ (.mk (awl_live' [0, 1, 5] fun ρ hL => ?_))
 simp only [go_sem, simprocAttr, h0, h1, h5, w] at hL
 exact next ρ hL
set_option maxRecDepth 100000 in
theorem mkE17 (g : gE xs t s i) (h : eE xs c i (s + 17) ρ) (next : ∀ ρ, eE xs c i (s + 18) ρ → awpL Tryz.prog 1 (cE Tryz.f82 36 :: cs) Q ρ (hE xs t s i 18)) :
 awpL Tryz.prog 1 (cE Tryz.f82 34 :: cs) Q ρ (hE xs t s i 17) := by
 obtain ⟨h0, h1, h5⟩ := h; have lx := lenE g 17; have hi := g.1; unfold hE at next ⊢
 refine awl_seq (awl_regS _ rfl fun K hK => ?_)
 simp only [go_sem, simprocAttr, h0, h1, h5, hi, lx, mixQ17]
 repeat' (refine And.intro (by first | rfl | omega) ?_)
 refine hK _ _ (.mk (awl_live' [0, 1, 5] fun ρ hL => ?_))
 simp only [go_sem, simprocAttr, h0, h1, h5] at hL
 obtain ⟨h0, h1, h5⟩ := hL
 have w := stepE g (u := (s + 17)) (v := s + 18) (by omega) (by omega) (by omega)
 refine awl_seq (awl_regS _ rfl fun K hK => ?_)
 simp only [go_sem, simprocAttr, h0, h1, h5, w]
 refine hK _ _ (.mk (awl_live' [0, 1, 5] fun ρ hL => ?_))
 simp only [go_sem, simprocAttr, h0, h1, h5, w] at hL
 exact next ρ hL
set_option maxRecDepth 100000 in
theorem mkE18 (g : gE xs t s i) (h : eE xs c i (s + 18) ρ) (next : ∀ ρ, eE xs c i (s + 19) ρ → awpL Tryz.prog 1 (cE Tryz.f82 38 :: cs) Q ρ (hE xs t s i 19)) :
 awpL Tryz.prog 1 (cE Tryz.f82 36 :: cs) Q ρ (hE xs t s i 18) := by
 obtain ⟨h0, h1, h5⟩ := h; have lx := lenE g 18; have hi := g.1; unfold hE at next ⊢
 refine awl_seq (awl_regS _ rfl fun K hK => ?_)
 simp only [go_sem, simprocAttr, h0, h1, h5, hi, lx, mixQ18]
 repeat' (refine And.intro (by first | rfl | omega) ?_)
 refine hK _ _ (.mk (awl_live' [0, 1, 5] fun ρ hL => ?_))
 simp only [go_sem, simprocAttr, h0, h1, h5] at hL
 obtain ⟨h0, h1, h5⟩ := hL
 have w := stepE g (u := (s + 18)) (v := s + 19) (by omega) (by omega) (by omega)
 refine awl_seq (awl_regS _ rfl fun K hK => ?_)
 simp only [go_sem, simprocAttr, h0, h1, h5, w]
 refine hK _ _ (.mk (awl_live' [0, 1, 5] fun ρ hL => ?_))
 simp only [go_sem, simprocAttr, h0, h1, h5, w] at hL
 exact next ρ hL
set_option maxRecDepth 100000 in
theorem mkE19 (g : gE xs t s i) (h : eE xs c i (s + 19) ρ) (next : ∀ ρ, eE xs c i (s + 20) ρ → awpL Tryz.prog 1 (cE Tryz.f82 40 :: cs) Q ρ (hE xs t s i 20)) :
 awpL Tryz.prog 1 (cE Tryz.f82 38 :: cs) Q ρ (hE xs t s i 19) := by
 obtain ⟨h0, h1, h5⟩ := h; have lx := lenE g 19; have hi := g.1; unfold hE at next ⊢
 refine awl_seq (awl_regS _ rfl fun K hK => ?_)
 simp only [go_sem, simprocAttr, h0, h1, h5, hi, lx, mixQ19]
 repeat' (refine And.intro (by first | rfl | omega) ?_)
 refine hK _ _ (.mk (awl_live' [0, 1, 5] fun ρ hL => ?_))
 simp only [go_sem, simprocAttr, h0, h1, h5] at hL
 obtain ⟨h0, h1, h5⟩ := hL
 have w := stepE g (u := (s + 19)) (v := s + 20) (by omega) (by omega) (by omega)
 refine awl_seq (awl_regS _ rfl fun K hK => ?_)
 simp only [go_sem, simprocAttr, h0, h1, h5, w]
 refine hK _ _ (.mk (awl_live' [0, 1, 5] fun ρ hL => ?_))
 simp only [go_sem, simprocAttr, h0, h1, h5, w] at hL
 exact next ρ hL
set_option maxRecDepth 100000 in
theorem mkE20 (g : gE xs t s i) (h : eE xs c i (s + 20) ρ) (next : ∀ ρ, eE xs c i (s + 21) ρ → awpL Tryz.prog 1 (cE Tryz.f82 42 :: cs) Q ρ (hE xs t s i 21)) :
 awpL Tryz.prog 1 (cE Tryz.f82 40 :: cs) Q ρ (hE xs t s i 20) := by
 obtain ⟨h0, h1, h5⟩ := h; have lx := lenE g 20; have hi := g.1; unfold hE at next ⊢
 refine awl_seq (awl_regS _ rfl fun K hK => ?_)
 simp only [go_sem, simprocAttr, h0, h1, h5, hi, lx, mixQ20]
 repeat' (refine And.intro (by first | rfl | omega) ?_)
 refine hK _ _ (.mk (awl_live' [0, 1, 5] fun ρ hL => ?_))
 simp only [go_sem, simprocAttr, h0, h1, h5] at hL
 obtain ⟨h0, h1, h5⟩ := hL
 have w := stepE g (u := (s + 20)) (v := s + 21) (by omega) (by omega) (by omega)
 refine awl_seq (awl_regS _ rfl fun K hK => ?_)
 simp only [go_sem, simprocAttr, h0, h1, h5, w]
 refine hK _ _ (.mk (awl_live' [0, 1, 5] fun ρ hL => ?_))
 simp only [go_sem, simprocAttr, h0, h1, h5, w] at hL
 exact next ρ hL
set_option maxRecDepth 100000 in
theorem mkE21 (g : gE xs t s i) (h : eE xs c i (s + 21) ρ) (next : ∀ ρ, eE xs c i (s + 22) ρ → awpL Tryz.prog 1 (cE Tryz.f82 44 :: cs) Q ρ (hE xs t s i 22)) :
 awpL Tryz.prog 1 (cE Tryz.f82 42 :: cs) Q ρ (hE xs t s i 21) := by
 obtain ⟨h0, h1, h5⟩ := h; have lx := lenE g 21; have hi := g.1; unfold hE at next ⊢
 refine awl_seq (awl_regS _ rfl fun K hK => ?_)
 simp only [go_sem, simprocAttr, h0, h1, h5, hi, lx, mixQ21]
 repeat' (refine And.intro (by first | rfl | omega) ?_)
 refine hK _ _ (.mk (awl_live' [0, 1, 5] fun ρ hL => ?_))
 simp only [go_sem, simprocAttr, h0, h1, h5] at hL
 obtain ⟨h0, h1, h5⟩ := hL
 have w := stepE g (u := (s + 21)) (v := s + 22) (by omega) (by omega) (by omega)
 refine awl_seq (awl_regS _ rfl fun K hK => ?_)
 simp only [go_sem, simprocAttr, h0, h1, h5, w]
 refine hK _ _ (.mk (awl_live' [0, 1, 5] fun ρ hL => ?_))
 simp only [go_sem, simprocAttr, h0, h1, h5, w] at hL
 exact next ρ hL
set_option maxRecDepth 100000 in
theorem mkE22 (g : gE xs t s i) (h : eE xs c i (s + 22) ρ) (next : ∀ ρ, eE xs c i (s + 23) ρ → awpL Tryz.prog 1 (cE Tryz.f82 46 :: cs) Q ρ (hE xs t s i 23)) :
 awpL Tryz.prog 1 (cE Tryz.f82 44 :: cs) Q ρ (hE xs t s i 22) := by
 obtain ⟨h0, h1, h5⟩ := h; have lx := lenE g 22; have hi := g.1; unfold hE at next ⊢
 refine awl_seq (awl_regS _ rfl fun K hK => ?_)
 simp only [go_sem, simprocAttr, h0, h1, h5, hi, lx, mixQ22]
 repeat' (refine And.intro (by first | rfl | omega) ?_)
 refine hK _ _ (.mk (awl_live' [0, 1, 5] fun ρ hL => ?_))
 simp only [go_sem, simprocAttr, h0, h1, h5] at hL
 obtain ⟨h0, h1, h5⟩ := hL
 have w := stepE g (u := (s + 22)) (v := s + 23) (by omega) (by omega) (by omega)
 refine awl_seq (awl_regS _ rfl fun K hK => ?_)
 simp only [go_sem, simprocAttr, h0, h1, h5, w]
 refine hK _ _ (.mk (awl_live' [0, 1, 5] fun ρ hL => ?_))
 simp only [go_sem, simprocAttr, h0, h1, h5, w] at hL
 exact next ρ hL
set_option maxRecDepth 100000 in
theorem mkE23 (g : gE xs t s i) (h : eE xs c i (s + 23) ρ) (next : ∀ ρ, eE xs c i (s + 24) ρ → awpL Tryz.prog 1 (cE Tryz.f82 48 :: cs) Q ρ (hE xs t s i 24)) :
 awpL Tryz.prog 1 (cE Tryz.f82 46 :: cs) Q ρ (hE xs t s i 23) := by
 obtain ⟨h0, h1, h5⟩ := h; have lx := lenE g 23; have hi := g.1; unfold hE at next ⊢
 refine awl_seq (awl_regS _ rfl fun K hK => ?_)
 simp only [go_sem, simprocAttr, h0, h1, h5, hi, lx, mixQ23]
 repeat' (refine And.intro (by first | rfl | omega) ?_)
 refine hK _ _ (.mk (awl_live' [0, 1, 5] fun ρ hL => ?_))
 simp only [go_sem, simprocAttr, h0, h1, h5] at hL
 obtain ⟨h0, h1, h5⟩ := hL
 have w := stepE g (u := (s + 23)) (v := s + 24) (by omega) (by omega) (by omega)
 refine awl_seq (awl_regS _ rfl fun K hK => ?_)
 simp only [go_sem, simprocAttr, h0, h1, h5, w]
 refine hK _ _ (.mk (awl_live' [0, 1, 5] fun ρ hL => ?_))
 simp only [go_sem, simprocAttr, h0, h1, h5, w] at hL
 exact next ρ hL
set_option maxRecDepth 100000 in
theorem mkE24 (g : gE xs t s i) (h : eE xs c i (s + 24) ρ) (next : ∀ ρ, eE xs c i (s + 25) ρ → awpL Tryz.prog 1 (cE Tryz.f82 50 :: cs) Q ρ (hE xs t s i 25)) :
 awpL Tryz.prog 1 (cE Tryz.f82 48 :: cs) Q ρ (hE xs t s i 24) := by
 obtain ⟨h0, h1, h5⟩ := h; have lx := lenE g 24; have hi := g.1; unfold hE at next ⊢
 refine awl_seq (awl_regS _ rfl fun K hK => ?_)
 simp only [go_sem, simprocAttr, h0, h1, h5, hi, lx, mixQ24]
 repeat' (refine And.intro (by first | rfl | omega) ?_)
 refine hK _ _ (.mk (awl_live' [0, 1, 5] fun ρ hL => ?_))
 simp only [go_sem, simprocAttr, h0, h1, h5] at hL
 obtain ⟨h0, h1, h5⟩ := hL
 have w := stepE g (u := (s + 24)) (v := s + 25) (by omega) (by omega) (by omega)
 refine awl_seq (awl_regS _ rfl fun K hK => ?_)
 simp only [go_sem, simprocAttr, h0, h1, h5, w]
 refine hK _ _ (.mk (awl_live' [0, 1, 5] fun ρ hL => ?_))
 simp only [go_sem, simprocAttr, h0, h1, h5, w] at hL
 exact next ρ hL
set_option maxRecDepth 100000 in
theorem mkE25 (g : gE xs t s i) (h : eE xs c i (s + 25) ρ) (next : ∀ ρ, eE xs c i (s + 26) ρ → awpL Tryz.prog 1 (cE Tryz.f82 52 :: cs) Q ρ (hE xs t s i 26)) :
 awpL Tryz.prog 1 (cE Tryz.f82 50 :: cs) Q ρ (hE xs t s i 25) := by
 obtain ⟨h0, h1, h5⟩ := h; have lx := lenE g 25; have hi := g.1; unfold hE at next ⊢
 refine awl_seq (awl_regS _ rfl fun K hK => ?_)
 simp only [go_sem, simprocAttr, h0, h1, h5, hi, lx, mixQ25]
 repeat' (refine And.intro (by first | rfl | omega) ?_)
 refine hK _ _ (.mk (awl_live' [0, 1, 5] fun ρ hL => ?_))
 simp only [go_sem, simprocAttr, h0, h1, h5] at hL
 obtain ⟨h0, h1, h5⟩ := hL
 have w := stepE g (u := (s + 25)) (v := s + 26) (by omega) (by omega) (by omega)
 refine awl_seq (awl_regS _ rfl fun K hK => ?_)
 simp only [go_sem, simprocAttr, h0, h1, h5, w]
 refine hK _ _ (.mk (awl_live' [0, 1, 5] fun ρ hL => ?_))
 simp only [go_sem, simprocAttr, h0, h1, h5, w] at hL
 exact next ρ hL
set_option maxRecDepth 100000 in
theorem mkE26 (g : gE xs t s i) (h : eE xs c i (s + 26) ρ) (next : ∀ ρ, eE xs c i (s + 27) ρ → awpL Tryz.prog 1 (cE Tryz.f82 54 :: cs) Q ρ (hE xs t s i 27)) :
 awpL Tryz.prog 1 (cE Tryz.f82 52 :: cs) Q ρ (hE xs t s i 26) := by
 obtain ⟨h0, h1, h5⟩ := h; have lx := lenE g 26; have hi := g.1; unfold hE at next ⊢
 refine awl_seq (awl_regS _ rfl fun K hK => ?_)
 simp only [go_sem, simprocAttr, h0, h1, h5, hi, lx, mixQ26]
 repeat' (refine And.intro (by first | rfl | omega) ?_)
 refine hK _ _ (.mk (awl_live' [0, 1, 5] fun ρ hL => ?_))
 simp only [go_sem, simprocAttr, h0, h1, h5] at hL
 obtain ⟨h0, h1, h5⟩ := hL
 have w := stepE g (u := (s + 26)) (v := s + 27) (by omega) (by omega) (by omega)
 refine awl_seq (awl_regS _ rfl fun K hK => ?_)
 simp only [go_sem, simprocAttr, h0, h1, h5, w]
 refine hK _ _ (.mk (awl_live' [0, 1, 5] fun ρ hL => ?_))
 simp only [go_sem, simprocAttr, h0, h1, h5, w] at hL
 exact next ρ hL
set_option maxRecDepth 100000 in
theorem mkE27 (g : gE xs t s i) (h : eE xs c i (s + 27) ρ) (next : ∀ ρ, eE xs c i (s + 28) ρ → awpL Tryz.prog 1 (cE Tryz.f82 56 :: cs) Q ρ (hE xs t s i 28)) :
 awpL Tryz.prog 1 (cE Tryz.f82 54 :: cs) Q ρ (hE xs t s i 27) := by
 obtain ⟨h0, h1, h5⟩ := h; have lx := lenE g 27; have hi := g.1; unfold hE at next ⊢
 refine awl_seq (awl_regS _ rfl fun K hK => ?_)
 simp only [go_sem, simprocAttr, h0, h1, h5, hi, lx, mixQ27]
 repeat' (refine And.intro (by first | rfl | omega) ?_)
 refine hK _ _ (.mk (awl_live' [0, 1, 5] fun ρ hL => ?_))
 simp only [go_sem, simprocAttr, h0, h1, h5] at hL
 obtain ⟨h0, h1, h5⟩ := hL
 have w := stepE g (u := (s + 27)) (v := s + 28) (by omega) (by omega) (by omega)
 refine awl_seq (awl_regS _ rfl fun K hK => ?_)
 simp only [go_sem, simprocAttr, h0, h1, h5, w]
 refine hK _ _ (.mk (awl_live' [0, 1, 5] fun ρ hL => ?_))
 simp only [go_sem, simprocAttr, h0, h1, h5, w] at hL
 exact next ρ hL
set_option maxRecDepth 100000 in
theorem mkE28 (g : gE xs t s i) (h : eE xs c i (s + 28) ρ) (next : ∀ ρ, eE xs c i (s + 29) ρ → awpL Tryz.prog 1 (cE Tryz.f82 58 :: cs) Q ρ (hE xs t s i 29)) :
 awpL Tryz.prog 1 (cE Tryz.f82 56 :: cs) Q ρ (hE xs t s i 28) := by
 obtain ⟨h0, h1, h5⟩ := h; have lx := lenE g 28; have hi := g.1; unfold hE at next ⊢
 refine awl_seq (awl_regS _ rfl fun K hK => ?_)
 simp only [go_sem, simprocAttr, h0, h1, h5, hi, lx, mixQ28]
 repeat' (refine And.intro (by first | rfl | omega) ?_)
 refine hK _ _ (.mk (awl_live' [0, 1, 5] fun ρ hL => ?_))
 simp only [go_sem, simprocAttr, h0, h1, h5] at hL
 obtain ⟨h0, h1, h5⟩ := hL
 have w := stepE g (u := (s + 28)) (v := s + 29) (by omega) (by omega) (by omega)
 refine awl_seq (awl_regS _ rfl fun K hK => ?_)
 simp only [go_sem, simprocAttr, h0, h1, h5, w]
 refine hK _ _ (.mk (awl_live' [0, 1, 5] fun ρ hL => ?_))
 simp only [go_sem, simprocAttr, h0, h1, h5, w] at hL
 exact next ρ hL
set_option maxRecDepth 100000 in
theorem mkE29 (g : gE xs t s i) (h : eE xs c i (s + 29) ρ) (next : ∀ ρ, eE xs c i (s + 30) ρ → awpL Tryz.prog 1 (cE Tryz.f82 60 :: cs) Q ρ (hE xs t s i 30)) :
 awpL Tryz.prog 1 (cE Tryz.f82 58 :: cs) Q ρ (hE xs t s i 29) := by
 obtain ⟨h0, h1, h5⟩ := h; have lx := lenE g 29; have hi := g.1; unfold hE at next ⊢
 refine awl_seq (awl_regS _ rfl fun K hK => ?_)
 simp only [go_sem, simprocAttr, h0, h1, h5, hi, lx, mixQ29]
 repeat' (refine And.intro (by first | rfl | omega) ?_)
 refine hK _ _ (.mk (awl_live' [0, 1, 5] fun ρ hL => ?_))
 simp only [go_sem, simprocAttr, h0, h1, h5] at hL
 obtain ⟨h0, h1, h5⟩ := hL
 have w := stepE g (u := (s + 29)) (v := s + 30) (by omega) (by omega) (by omega)
 refine awl_seq (awl_regS _ rfl fun K hK => ?_)
 simp only [go_sem, simprocAttr, h0, h1, h5, w]
 refine hK _ _ (.mk (awl_live' [0, 1, 5] fun ρ hL => ?_))
 simp only [go_sem, simprocAttr, h0, h1, h5, w] at hL
 exact next ρ hL
set_option maxRecDepth 100000 in
theorem mkE30 (g : gE xs t s i) (h : eE xs c i (s + 30) ρ) (next : ∀ ρ, eE xs c i (s + 31) ρ → awpL Tryz.prog 1 (cE Tryz.f82 62 :: cs) Q ρ (hE xs t s i 31)) :
 awpL Tryz.prog 1 (cE Tryz.f82 60 :: cs) Q ρ (hE xs t s i 30) := by
 obtain ⟨h0, h1, h5⟩ := h; have lx := lenE g 30; have hi := g.1; unfold hE at next ⊢
 refine awl_seq (awl_regS _ rfl fun K hK => ?_)
 simp only [go_sem, simprocAttr, h0, h1, h5, hi, lx, mixQ30]
 repeat' (refine And.intro (by first | rfl | omega) ?_)
 refine hK _ _ (.mk (awl_live' [0, 1, 5] fun ρ hL => ?_))
 simp only [go_sem, simprocAttr, h0, h1, h5] at hL
 obtain ⟨h0, h1, h5⟩ := hL
 have w := stepE g (u := (s + 30)) (v := s + 31) (by omega) (by omega) (by omega)
 refine awl_seq (awl_regS _ rfl fun K hK => ?_)
 simp only [go_sem, simprocAttr, h0, h1, h5, w]
 refine hK _ _ (.mk (awl_live' [0, 1, 5] fun ρ hL => ?_))
 simp only [go_sem, simprocAttr, h0, h1, h5, w] at hL
 exact next ρ hL
set_option maxRecDepth 100000 in
theorem mkE31 (g : gE xs t s i) (h : eE xs c i (s + 31) ρ) (next : ∀ ρ, eE xs c i (s + 32) ρ → awpL Tryz.prog 1 (cE Tryz.f82 64 :: cs) Q ρ (hE xs t s i 32)) :
 awpL Tryz.prog 1 (cE Tryz.f82 62 :: cs) Q ρ (hE xs t s i 31) := by
 obtain ⟨h0, h1, h5⟩ := h; have lx := lenE g 31; have hi := g.1; unfold hE at next ⊢
 refine awl_seq (awl_regS _ rfl fun K hK => ?_)
 simp only [go_sem, simprocAttr, h0, h1, h5, hi, lx, mixQ31]
 repeat' (refine And.intro (by first | rfl | omega) ?_)
 refine hK _ _ (.mk (awl_live' [0, 1, 5] fun ρ hL => ?_))
 simp only [go_sem, simprocAttr, h0, h1, h5] at hL
 obtain ⟨h0, h1, h5⟩ := hL
 have w := stepE g (u := (s + 31)) (v := s + 32) (by omega) (by omega) (by omega)
 refine awl_seq (awl_regS _ rfl fun K hK => ?_)
 simp only [go_sem, simprocAttr, h0, h1, h5, w]
 refine hK _ _ (.mk (awl_live' [0, 1, 5] fun ρ hL => ?_))
 simp only [go_sem, simprocAttr, h0, h1, h5, w] at hL
 exact next ρ hL
set_option maxRecDepth 100000 in
theorem mkE32 (g : gE xs t s i) (h : eE xs c i (s + 32) ρ) (next : ∀ ρ, eE xs c i (s + 33) ρ → awpL Tryz.prog 1 (cE Tryz.f82 66 :: cs) Q ρ (hE xs t s i 33)) :
 awpL Tryz.prog 1 (cE Tryz.f82 64 :: cs) Q ρ (hE xs t s i 32) := by
 obtain ⟨h0, h1, h5⟩ := h; have lx := lenE g 32; have hi := g.1; unfold hE at next ⊢
 refine awl_seq (awl_regS _ rfl fun K hK => ?_)
 simp only [go_sem, simprocAttr, h0, h1, h5, hi, lx, mixQ32]
 repeat' (refine And.intro (by first | rfl | omega) ?_)
 refine hK _ _ (.mk (awl_live' [0, 1, 5] fun ρ hL => ?_))
 simp only [go_sem, simprocAttr, h0, h1, h5] at hL
 obtain ⟨h0, h1, h5⟩ := hL
 have w := stepE g (u := (s + 32)) (v := s + 33) (by omega) (by omega) (by omega)
 refine awl_seq (awl_regS _ rfl fun K hK => ?_)
 simp only [go_sem, simprocAttr, h0, h1, h5, w]
 refine hK _ _ (.mk (awl_live' [0, 1, 5] fun ρ hL => ?_))
 simp only [go_sem, simprocAttr, h0, h1, h5, w] at hL
 exact next ρ hL
set_option maxRecDepth 100000 in
theorem mkE33 (g : gE xs t s i) (h : eE xs c i (s + 33) ρ) (next : ∀ ρ, eE xs c i (s + 34) ρ → awpL Tryz.prog 1 (cE Tryz.f82 68 :: cs) Q ρ (hE xs t s i 34)) :
 awpL Tryz.prog 1 (cE Tryz.f82 66 :: cs) Q ρ (hE xs t s i 33) := by
 obtain ⟨h0, h1, h5⟩ := h; have lx := lenE g 33; have hi := g.1; unfold hE at next ⊢
 refine awl_seq (awl_regS _ rfl fun K hK => ?_)
 simp only [go_sem, simprocAttr, h0, h1, h5, hi, lx, mixQ33]
 repeat' (refine And.intro (by first | rfl | omega) ?_)
 refine hK _ _ (.mk (awl_live' [0, 1, 5] fun ρ hL => ?_))
 simp only [go_sem, simprocAttr, h0, h1, h5] at hL
 obtain ⟨h0, h1, h5⟩ := hL
 have w := stepE g (u := (s + 33)) (v := s + 34) (by omega) (by omega) (by omega)
 refine awl_seq (awl_regS _ rfl fun K hK => ?_)
 simp only [go_sem, simprocAttr, h0, h1, h5, w]
 refine hK _ _ (.mk (awl_live' [0, 1, 5] fun ρ hL => ?_))
 simp only [go_sem, simprocAttr, h0, h1, h5, w] at hL
 exact next ρ hL
set_option maxRecDepth 100000 in
theorem mkE34 (g : gE xs t s i) (h : eE xs c i (s + 34) ρ) (next : ∀ ρ, eE xs c i (s + 35) ρ → awpL Tryz.prog 1 (cE Tryz.f82 70 :: cs) Q ρ (hE xs t s i 35)) :
 awpL Tryz.prog 1 (cE Tryz.f82 68 :: cs) Q ρ (hE xs t s i 34) := by
 obtain ⟨h0, h1, h5⟩ := h; have lx := lenE g 34; have hi := g.1; unfold hE at next ⊢
 refine awl_seq (awl_regS _ rfl fun K hK => ?_)
 simp only [go_sem, simprocAttr, h0, h1, h5, hi, lx, mixQ34]
 repeat' (refine And.intro (by first | rfl | omega) ?_)
 refine hK _ _ (.mk (awl_live' [0, 1, 5] fun ρ hL => ?_))
 simp only [go_sem, simprocAttr, h0, h1, h5] at hL
 obtain ⟨h0, h1, h5⟩ := hL
 have w := stepE g (u := (s + 34)) (v := s + 35) (by omega) (by omega) (by omega)
 refine awl_seq (awl_regS _ rfl fun K hK => ?_)
 simp only [go_sem, simprocAttr, h0, h1, h5, w]
 refine hK _ _ (.mk (awl_live' [0, 1, 5] fun ρ hL => ?_))
 simp only [go_sem, simprocAttr, h0, h1, h5, w] at hL
 exact next ρ hL
set_option maxRecDepth 100000 in
theorem mkE35 (g : gE xs t s i) (h : eE xs c i (s + 35) ρ) (next : ∀ ρ, eE xs c i (s + 36) ρ → awpL Tryz.prog 1 (cE Tryz.f82 72 :: cs) Q ρ (hE xs t s i 36)) :
 awpL Tryz.prog 1 (cE Tryz.f82 70 :: cs) Q ρ (hE xs t s i 35) := by
 obtain ⟨h0, h1, h5⟩ := h; have lx := lenE g 35; have hi := g.1; unfold hE at next ⊢
 refine awl_seq (awl_regS _ rfl fun K hK => ?_)
 simp only [go_sem, simprocAttr, h0, h1, h5, hi, lx, mixQ35]
 repeat' (refine And.intro (by first | rfl | omega) ?_)
 refine hK _ _ (.mk (awl_live' [0, 1, 5] fun ρ hL => ?_))
 simp only [go_sem, simprocAttr, h0, h1, h5] at hL
 obtain ⟨h0, h1, h5⟩ := hL
 have w := stepE g (u := (s + 35)) (v := s + 36) (by omega) (by omega) (by omega)
 refine awl_seq (awl_regS _ rfl fun K hK => ?_)
 simp only [go_sem, simprocAttr, h0, h1, h5, w]
 refine hK _ _ (.mk (awl_live' [0, 1, 5] fun ρ hL => ?_))
 simp only [go_sem, simprocAttr, h0, h1, h5, w] at hL
 exact next ρ hL
set_option maxRecDepth 100000 in
theorem mkE36 (g : gE xs t s i) (h : eE xs c i (s + 36) ρ) (next : ∀ ρ, eE xs c i (s + 37) ρ → awpL Tryz.prog 1 (cE Tryz.f82 74 :: cs) Q ρ (hE xs t s i 37)) :
 awpL Tryz.prog 1 (cE Tryz.f82 72 :: cs) Q ρ (hE xs t s i 36) := by
 obtain ⟨h0, h1, h5⟩ := h; have lx := lenE g 36; have hi := g.1; unfold hE at next ⊢
 refine awl_seq (awl_regS _ rfl fun K hK => ?_)
 simp only [go_sem, simprocAttr, h0, h1, h5, hi, lx, mixQ36]
 repeat' (refine And.intro (by first | rfl | omega) ?_)
 refine hK _ _ (.mk (awl_live' [0, 1, 5] fun ρ hL => ?_))
 simp only [go_sem, simprocAttr, h0, h1, h5] at hL
 obtain ⟨h0, h1, h5⟩ := hL
 have w := stepE g (u := (s + 36)) (v := s + 37) (by omega) (by omega) (by omega)
 refine awl_seq (awl_regS _ rfl fun K hK => ?_)
 simp only [go_sem, simprocAttr, h0, h1, h5, w]
 refine hK _ _ (.mk (awl_live' [0, 1, 5] fun ρ hL => ?_))
 simp only [go_sem, simprocAttr, h0, h1, h5, w] at hL
 exact next ρ hL
set_option maxRecDepth 100000 in
theorem mkE37 (g : gE xs t s i) (h : eE xs c i (s + 37) ρ) (next : ∀ ρ, eE xs c i (s + 38) ρ → awpL Tryz.prog 1 (cE Tryz.f82 76 :: cs) Q ρ (hE xs t s i 38)) :
 awpL Tryz.prog 1 (cE Tryz.f82 74 :: cs) Q ρ (hE xs t s i 37) := by
 obtain ⟨h0, h1, h5⟩ := h; have lx := lenE g 37; have hi := g.1; unfold hE at next ⊢
 refine awl_seq (awl_regS _ rfl fun K hK => ?_)
 simp only [go_sem, simprocAttr, h0, h1, h5, hi, lx, mixQ37]
 repeat' (refine And.intro (by first | rfl | omega) ?_)
 refine hK _ _ (.mk (awl_live' [0, 1, 5] fun ρ hL => ?_))
 simp only [go_sem, simprocAttr, h0, h1, h5] at hL
 obtain ⟨h0, h1, h5⟩ := hL
 have w := stepE g (u := (s + 37)) (v := s + 38) (by omega) (by omega) (by omega)
 refine awl_seq (awl_regS _ rfl fun K hK => ?_)
 simp only [go_sem, simprocAttr, h0, h1, h5, w]
 refine hK _ _ (.mk (awl_live' [0, 1, 5] fun ρ hL => ?_))
 simp only [go_sem, simprocAttr, h0, h1, h5, w] at hL
 exact next ρ hL
set_option maxRecDepth 100000 in
theorem mkE38 (g : gE xs t s i) (h : eE xs c i (s + 38) ρ) (next : ∀ ρ, eE xs c i (s + 39) ρ → awpL Tryz.prog 1 (cE Tryz.f82 78 :: cs) Q ρ (hE xs t s i 39)) :
 awpL Tryz.prog 1 (cE Tryz.f82 76 :: cs) Q ρ (hE xs t s i 38) := by
 obtain ⟨h0, h1, h5⟩ := h; have lx := lenE g 38; have hi := g.1; unfold hE at next ⊢
 refine awl_seq (awl_regS _ rfl fun K hK => ?_)
 simp only [go_sem, simprocAttr, h0, h1, h5, hi, lx, mixQ38]
 repeat' (refine And.intro (by first | rfl | omega) ?_)
 refine hK _ _ (.mk (awl_live' [0, 1, 5] fun ρ hL => ?_))
 simp only [go_sem, simprocAttr, h0, h1, h5] at hL
 obtain ⟨h0, h1, h5⟩ := hL
 have w := stepE g (u := (s + 38)) (v := s + 39) (by omega) (by omega) (by omega)
 refine awl_seq (awl_regS _ rfl fun K hK => ?_)
 simp only [go_sem, simprocAttr, h0, h1, h5, w]
 refine hK _ _ (.mk (awl_live' [0, 1, 5] fun ρ hL => ?_))
 simp only [go_sem, simprocAttr, h0, h1, h5, w] at hL
 exact next ρ hL
set_option maxRecDepth 100000 in
theorem mkE39 (g : gE xs t s i) (h : eE xs c i (s + 39) ρ) (next : ∀ ρ, eE xs c i (s + 40) ρ → awpL Tryz.prog 1 cs Q ρ (hE xs t s i 40)) :
 awpL Tryz.prog 1 (cE Tryz.f82 78 :: cs) Q ρ (hE xs t s i 39) := by
 obtain ⟨h0, h1, h5⟩ := h; have lx := lenE g 39; have hi := g.1; unfold hE at next ⊢
 refine awl_seq (awl_regS _ rfl fun K hK => ?_)
 simp only [go_sem, simprocAttr, h0, h1, h5, hi, lx, mixQ39]
 repeat' (refine And.intro (by first | rfl | omega) ?_)
 refine hK _ _ (.mk (awl_live' [0, 1, 5] fun ρ hL => ?_))
 simp only [go_sem, simprocAttr, h0, h1, h5] at hL
 obtain ⟨h0, h1, h5⟩ := hL
 have w := stepE g (u := (s + 39)) (v := s + 40) (by omega) (by omega) (by omega)
 refine awl_regS _ rfl fun K hK => ?_
 simp only [go_sem, simprocAttr, h0, h1, h5, w]
 refine hK _ _ (.mk (awl_live' [0, 1, 5] fun ρ hL => ?_))
 simp only [go_sem, simprocAttr, h0, h1, h5, w] at hL
 exact next ρ hL
end
section
attribute [local go_sem] List.length_append List.length_drop mrow_len
theorem sat_laws_markEntryS (xs : List Ent) (t : Int) (c : Nat) (hb : xs.length ≤ 1099511627776) (ht : 0 ≤ t ∧ t ≤ 1099511627776) : Sat Tryz.prog 82 [.slice 0 0 xs.length c, .int .i64 t] [⟨40, rows xs, true, false⟩] (.int .i64 (t + (40 * xs.length : Nat))) [⟨40, rows (mrow markQ 40 t xs.length), true, false⟩] := by
 have hX := trivial
 refine sat_mk [.tmp 4] 1 382 Tryz.call82 Tryz.func82 Tryz.ntmps82 rfl rfl rfl rfl rfl ?_
 refine zI [0, 1] ?_
 refine zS [0, 1] ?_
 refine zS [0, 1, 5] ?_
 intro ρ hL
 have e1 := hL
 refine awl_loopH (fun H0 n σ G => ∃ (i : Nat), n = xs.length - i ∧ (i ≤ xs.length) ∧ (liveE [0] σ ρ ∧ σ 1 = .int .i64 (t + (40 * i : Nat)) ∧ σ 5 = .int .i64 (i : Int)) ∧ G = [⟨40, rows (mrow markQ 40 t i) ++ rows (xs.drop i), true, false⟩]) (fun H0 σ G => (σ 1 = .int .i64 (t + (40 * xs.length : Nat))) ∧ G = [⟨40, rows (mrow markQ 40 t xs.length), true, false⟩]) ((fun (i : Nat) => xs.length - i) 0) ?init1 (fun n ρ G hI => ?round1) (fun ρ G hJ => ?after1)
 case init1 => exact ⟨0, rfl, (Nat.zero_le _), ⟨liveE_refl _ _, (by rw [hL.2.1]; simp), (hL.2.2)⟩, rfl⟩
 case round1 =>
  clear hL
  obtain ⟨i, hn, i1_0, hL, hG⟩ := hI
  subst hG
  try simp only [go_sem, simprocAttr, e1, hX] at hL
  revert ρ hL
  refine zS [0, 1, 5, 9] ?_
  refine zC ?_ ?_
  · intro c1
    have hi1 : i < xs.length := by omega
    replace hX := And.intro hi1 hX
    intro ρ hL
    refine awl_skip ?_
    refine awl_seq ?_
    refine awl_block fun R1 hw1 hR1 => ?_
    have h0 := hL.1
    have h1 := hL.2.1
    have h5 := hL.2.2.1
    have h9 := hL.2.2.2
    clear hL
    obtain ⟨s, hs⟩ : ∃ s : Int, s = t + (40 * i : Nat) := ⟨_, rfl⟩
    rw [← hs] at h1
    have hd : rows (xs.drop i) = mixQ s (xs.getD i noEnt) 0 ++ rows (xs.drop (i + 1)) := rows_split hi1
    rw [hd]
    have gg : gE xs t s i := ⟨hi1, hs, hb, ht⟩
    have he : eE xs c i s ρ := ⟨h0, h1, h5⟩
    refine mkE0 gg he fun ρ he => ?_
    refine mkE1 gg he fun ρ he => ?_
    refine mkE2 gg he fun ρ he => ?_
    refine mkE3 gg he fun ρ he => ?_
    refine mkE4 gg he fun ρ he => ?_
    refine mkE5 gg he fun ρ he => ?_
    refine mkE6 gg he fun ρ he => ?_
    refine mkE7 gg he fun ρ he => ?_
    refine mkE8 gg he fun ρ he => ?_
    refine mkE9 gg he fun ρ he => ?_
    refine mkE10 gg he fun ρ he => ?_
    refine mkE11 gg he fun ρ he => ?_
    refine mkE12 gg he fun ρ he => ?_
    refine mkE13 gg he fun ρ he => ?_
    refine mkE14 gg he fun ρ he => ?_
    refine mkE15 gg he fun ρ he => ?_
    refine mkE16 gg he fun ρ he => ?_
    refine mkE17 gg he fun ρ he => ?_
    refine mkE18 gg he fun ρ he => ?_
    refine mkE19 gg he fun ρ he => ?_
    refine mkE20 gg he fun ρ he => ?_
    refine mkE21 gg he fun ρ he => ?_
    refine mkE22 gg he fun ρ he => ?_
    refine mkE23 gg he fun ρ he => ?_
    refine mkE24 gg he fun ρ he => ?_
    refine mkE25 gg he fun ρ he => ?_
    refine mkE26 gg he fun ρ he => ?_
    refine mkE27 gg he fun ρ he => ?_
    refine mkE28 gg he fun ρ he => ?_
    refine mkE29 gg he fun ρ he => ?_
    refine mkE30 gg he fun ρ he => ?_
    refine mkE31 gg he fun ρ he => ?_
    refine mkE32 gg he fun ρ he => ?_
    refine mkE33 gg he fun ρ he => ?_
    refine mkE34 gg he fun ρ he => ?_
    refine mkE35 gg he fun ρ he => ?_
    refine mkE36 gg he fun ρ he => ?_
    refine mkE37 gg he fun ρ he => ?_
    refine mkE38 gg he fun ρ he => ?_
    refine mkE39 gg he fun ρ he => ?_
    obtain ⟨h0, h1, h5⟩ := he
    have hL := And.intro h0 (And.intro h1 h5)
    clear h0 h1 h5
    refine awl_nil ?_
    refine blk_normal (hR1 _ _ (.mk ?_))
    have w1 : IntKind.i64.wrap ((i : Int) + 1) = ((i + 1 : Nat) : Int) := by rw [wrap64 (by omega)]; omega
    replace hX := And.intro w1 hX
    revert ρ hL
    refine zS [0, 1, 5] ?_
    intro ρ hL
    refine awl_nil ?_
    have h1 := hL.2.1
    refine loop_again _ ?meas ⟨i + 1, rfl, (by omega), ⟨(by simp only [go_sem, simprocAttr, hL, hX, e1]), (by rw [h1]; congr 1; omega), (hL.2.2)⟩, congrArg (fun l => [(⟨40, l, true, false⟩ : Blk)]) (mrow_rows (f := markQ) (s := 40) (cs := mixQ s (xs.getD i noEnt) 40) (xs := xs.drop (i + 1)) hs rfl)⟩
    case meas => subst hn; omega
  · intro c1
    intro ρ hL
    refine awl_exit ?_
    refine loop_break ?_
    have h1 := hL.2.1
    exact ⟨(by rw [h1, show i = xs.length by omega]), by rw [show i = xs.length by omega, List.drop_length, rows_nil, List.append_nil]⟩
 case after1 =>
  clear hL
  obtain ⟨hL, hG⟩ := hJ
  subst hG
  revert ρ hL
  refine zS [4] ?_
  refine zK [] [0] ?_ ?_
  all_goals try simp only [go_sem, simprocAttr, hX]
  all_goals try clear hR1
  all_goals (first | done | rfl | (simp; done) | (simp [inR]; done) | (simp_all [inR]; done) | (simp [inR]; grind))
end
section
attribute [local go_sem] Mem.marked Stt.marked Cor.markedQ
theorem sat_laws_markCore (c : Cor) (t : Int) (hf : c.fit) (ht : 0 ≤ t ∧ t ≤ 1099300000000) : Sat Tryz.prog 34 [.agg (c.own 0 1 2 3 4), .int .i64 t] c.blks (.int .i64 (t + (c.cost : Nat))) (c.markedQ t).blks := by
 have hX := trivial
 refine sat_mk [.tmp 4] 5 18 Tryz.call34 Tryz.func34 Tryz.ntmps34 rfl rfl rfl rfl rfl ?_
 refine zI [0, 1] ?_
 refine zG [0, 1, 2, 3, 4, 5] [1, 2] ?_
 intro ρ hL
 refine zA ?_
 intro K hK
 refine zFI [0, 1, 2] (sat_laws_markState c.s t hf.1 (by omega)) ?_
 refine zEG [0, 1, 2, 3, 4, 5] [1, 2] ?_
 clear hK K hL
 intro ρ hL
 refine zA ?_
 intro K hK
 refine zFI [3] (sat_laws_markEntryS c.rob (t + (c.s.cost : Nat)) 0 (Nat.le_trans hf.2.1 (by decide)) (by have := Stt.cost_le hf.1; omega)) ?_
 refine zEG [0, 1, 2, 3, 4, 5] [1, 2] ?_
 clear hK K hL
 intro ρ hL
 refine zA ?_
 intro K hK
 refine zFI [4] (sat_laws_markIntS c.guesses (t + (c.s.cost : Nat) + (40 * c.rob.length : Nat)) 0 (Nat.le_trans hf.2.2 (by decide)) (by have := Stt.cost_le hf.1; have := hf.2.1; omega)) ?_
 refine zEG [0, 1, 2, 3, 4] [1] ?_
 clear hK K hL
 refine zG [0, 1, 2, 3, 4] [4] ?_
 refine zK [] [0, 1, 2, 3, 4] ?_ ?_
 all_goals try simp only [go_sem, simprocAttr, hX]
 all_goals (first | done | rfl | (congr 1; simp only [Mem.cost, Stt.cost, Cor.cost]; omega))
end
end Go.Proofs.YtgpjgljgplngpaaGreatDoor.AM
