/- What the laws find again of cores. No conditions but those each theorem bears. -/
import Derived.Test.YtgpjgljgplngpaaGreatDoorFa
import Derived.Test.YtgpjgljgplngpaaGreatDoorM5
import Derived.Test.YtgpjgljgplngpaaGreatDoorCa22
set_option linter.unusedSimpArgs false
set_option linter.unusedVariables false
namespace Go.Proofs.YtgpjgljgplngpaaGreatDoor.AM
open Go
set_option maxHeartbeats 8000000
set_option maxRecDepth 100000

section
variable {z : Nat} {t s : Int} {c i : Nat} {cs : List Code} {Q : Exit → Env → Heap → Prop} {ρ : Env}
def gV (z : Nat) (t s : Int) (i : Nat) : Prop := i < z ∧ s = t + (40 * i : Nat) ∧ z ≤ 1099511627776 ∧ 0 ≤ t ∧ t ≤ 1099511627776
def eV (z : Nat) (t : Int) (c i : Nat) (u : Int) (ρ : Env) : Prop := ρ 0 = .sl z c (rows (mrow markQ 40 t z)) ∧ ρ 1 = .int .i64 u ∧ ρ 5 = .int .i64 (i : Int)
theorem stepV {u v : Int} (g : gV z t s i) (h : s ≤ u) (h' : u ≤ s + 40) (hv : u + 1 = v) : IntKind.i64.wrap (u + 1) = v := by
  obtain ⟨a, b, c, d, e⟩ := g
  rw [wrap64 (by omega), hv]
set_option maxRecDepth 100000 in
theorem seE0 (g : gV z t s i) (h : eV z t c i s ρ) (next : ∀ ρ, eV z t c i (s + 1) ρ → awpL Tryz.prog 0 (cE Tryz.f84 2 :: cs) Q ρ []) :
 awpL Tryz.prog 0 (cE Tryz.f84 0 :: cs) Q ρ [] := by
 obtain ⟨h0, h1, h5⟩ := h; have hi := g.1; have hq := seeQ0 hi g.2.1
 refine awl_seq (awl_seq (awl_regS _ rfl fun K hK => ?_))
 simp only [go_sem, simprocAttr, h0, h1, h5, hi, hq]
 repeat' (refine And.intro (by first | rfl | omega) ?_)
 refine hK _ _ (.mk (awl_live' [0, 1, 5, 19] fun ρ hL => ?_))
 simp only [go_sem, simprocAttr, h0, h1, h5] at hL
 obtain ⟨h0, h1, h5, hx⟩ := hL
 refine awl_cond hx (fun c1 => absurd c1 (by simp)) (fun _ => awl_skip ?_)
 clear hx
 have w := stepV g (u := s) (v := s + 1) (by omega) (by omega) (by omega)
 refine awl_seq (awl_regS _ rfl fun K hK => ?_)
 simp only [go_sem, simprocAttr, h0, h1, h5, w]
 refine hK _ _ (.mk (awl_live' [0, 1, 5] fun ρ hL => ?_))
 simp only [go_sem, simprocAttr, h0, h1, h5, w] at hL
 exact next ρ hL
set_option maxRecDepth 100000 in
theorem seE1 (g : gV z t s i) (h : eV z t c i (s + 1) ρ) (next : ∀ ρ, eV z t c i (s + 2) ρ → awpL Tryz.prog 0 (cE Tryz.f84 4 :: cs) Q ρ []) :
 awpL Tryz.prog 0 (cE Tryz.f84 2 :: cs) Q ρ [] := by
 obtain ⟨h0, h1, h5⟩ := h; have hi := g.1; have hq := seeQ1 hi g.2.1
 refine awl_seq (awl_seq (awl_regS _ rfl fun K hK => ?_))
 simp only [go_sem, simprocAttr, h0, h1, h5, hi, hq]
 repeat' (refine And.intro (by first | rfl | omega) ?_)
 refine hK _ _ (.mk (awl_live' [0, 1, 5, 31] fun ρ hL => ?_))
 simp only [go_sem, simprocAttr, h0, h1, h5] at hL
 obtain ⟨h0, h1, h5, hx⟩ := hL
 refine awl_cond hx (fun c1 => absurd c1 (by simp)) (fun _ => awl_skip ?_)
 clear hx
 have w := stepV g (u := (s + 1)) (v := s + 2) (by omega) (by omega) (by omega)
 refine awl_seq (awl_regS _ rfl fun K hK => ?_)
 simp only [go_sem, simprocAttr, h0, h1, h5, w]
 refine hK _ _ (.mk (awl_live' [0, 1, 5] fun ρ hL => ?_))
 simp only [go_sem, simprocAttr, h0, h1, h5, w] at hL
 exact next ρ hL
set_option maxRecDepth 100000 in
theorem seE2 (g : gV z t s i) (h : eV z t c i (s + 2) ρ) (next : ∀ ρ, eV z t c i (s + 3) ρ → awpL Tryz.prog 0 (cE Tryz.f84 6 :: cs) Q ρ []) :
 awpL Tryz.prog 0 (cE Tryz.f84 4 :: cs) Q ρ [] := by
 obtain ⟨h0, h1, h5⟩ := h; have hi := g.1; have hq := seeQ2 hi g.2.1
 refine awl_seq (awl_seq (awl_regS _ rfl fun K hK => ?_))
 simp only [go_sem, simprocAttr, h0, h1, h5, hi, hq]
 repeat' (refine And.intro (by first | rfl | omega) ?_)
 refine hK _ _ (.mk (awl_live' [0, 1, 5, 42] fun ρ hL => ?_))
 simp only [go_sem, simprocAttr, h0, h1, h5] at hL
 obtain ⟨h0, h1, h5, hx⟩ := hL
 refine awl_cond hx (fun c1 => absurd c1 (by simp)) (fun _ => awl_skip ?_)
 clear hx
 have w := stepV g (u := (s + 2)) (v := s + 3) (by omega) (by omega) (by omega)
 refine awl_seq (awl_regS _ rfl fun K hK => ?_)
 simp only [go_sem, simprocAttr, h0, h1, h5, w]
 refine hK _ _ (.mk (awl_live' [0, 1, 5] fun ρ hL => ?_))
 simp only [go_sem, simprocAttr, h0, h1, h5, w] at hL
 exact next ρ hL
set_option maxRecDepth 100000 in
theorem seE3 (g : gV z t s i) (h : eV z t c i (s + 3) ρ) (next : ∀ ρ, eV z t c i (s + 4) ρ → awpL Tryz.prog 0 (cE Tryz.f84 8 :: cs) Q ρ []) :
 awpL Tryz.prog 0 (cE Tryz.f84 6 :: cs) Q ρ [] := by
 obtain ⟨h0, h1, h5⟩ := h; have hi := g.1; have hq := seeQ3 hi g.2.1
 refine awl_seq (awl_seq (awl_regS _ rfl fun K hK => ?_))
 simp only [go_sem, simprocAttr, h0, h1, h5, hi, hq]
 repeat' (refine And.intro (by first | rfl | omega) ?_)
 refine hK _ _ (.mk (awl_live' [0, 1, 5, 53] fun ρ hL => ?_))
 simp only [go_sem, simprocAttr, h0, h1, h5] at hL
 obtain ⟨h0, h1, h5, hx⟩ := hL
 refine awl_cond hx (fun c1 => absurd c1 (by simp)) (fun _ => awl_skip ?_)
 clear hx
 have w := stepV g (u := (s + 3)) (v := s + 4) (by omega) (by omega) (by omega)
 refine awl_seq (awl_regS _ rfl fun K hK => ?_)
 simp only [go_sem, simprocAttr, h0, h1, h5, w]
 refine hK _ _ (.mk (awl_live' [0, 1, 5] fun ρ hL => ?_))
 simp only [go_sem, simprocAttr, h0, h1, h5, w] at hL
 exact next ρ hL
set_option maxRecDepth 100000 in
theorem seE4 (g : gV z t s i) (h : eV z t c i (s + 4) ρ) (next : ∀ ρ, eV z t c i (s + 5) ρ → awpL Tryz.prog 0 (cE Tryz.f84 10 :: cs) Q ρ []) :
 awpL Tryz.prog 0 (cE Tryz.f84 8 :: cs) Q ρ [] := by
 obtain ⟨h0, h1, h5⟩ := h; have hi := g.1; have hq := seeQ4 hi g.2.1
 refine awl_seq (awl_seq (awl_regS _ rfl fun K hK => ?_))
 simp only [go_sem, simprocAttr, h0, h1, h5, hi, hq]
 repeat' (refine And.intro (by first | rfl | omega) ?_)
 refine hK _ _ (.mk (awl_live' [0, 1, 5, 64] fun ρ hL => ?_))
 simp only [go_sem, simprocAttr, h0, h1, h5] at hL
 obtain ⟨h0, h1, h5, hx⟩ := hL
 refine awl_cond hx (fun c1 => absurd c1 (by simp)) (fun _ => awl_skip ?_)
 clear hx
 have w := stepV g (u := (s + 4)) (v := s + 5) (by omega) (by omega) (by omega)
 refine awl_seq (awl_regS _ rfl fun K hK => ?_)
 simp only [go_sem, simprocAttr, h0, h1, h5, w]
 refine hK _ _ (.mk (awl_live' [0, 1, 5] fun ρ hL => ?_))
 simp only [go_sem, simprocAttr, h0, h1, h5, w] at hL
 exact next ρ hL
set_option maxRecDepth 100000 in
theorem seE5 (g : gV z t s i) (h : eV z t c i (s + 5) ρ) (next : ∀ ρ, eV z t c i (s + 6) ρ → awpL Tryz.prog 0 (cE Tryz.f84 12 :: cs) Q ρ []) :
 awpL Tryz.prog 0 (cE Tryz.f84 10 :: cs) Q ρ [] := by
 obtain ⟨h0, h1, h5⟩ := h; have hi := g.1; have hq := seeQ5 hi g.2.1
 refine awl_seq (awl_seq (awl_regS _ rfl fun K hK => ?_))
 simp only [go_sem, simprocAttr, h0, h1, h5, hi, hq]
 repeat' (refine And.intro (by first | rfl | omega) ?_)
 refine hK _ _ (.mk (awl_live' [0, 1, 5, 75] fun ρ hL => ?_))
 simp only [go_sem, simprocAttr, h0, h1, h5] at hL
 obtain ⟨h0, h1, h5, hx⟩ := hL
 refine awl_cond hx (fun c1 => absurd c1 (by simp)) (fun _ => awl_skip ?_)
 clear hx
 have w := stepV g (u := (s + 5)) (v := s + 6) (by omega) (by omega) (by omega)
 refine awl_seq (awl_regS _ rfl fun K hK => ?_)
 simp only [go_sem, simprocAttr, h0, h1, h5, w]
 refine hK _ _ (.mk (awl_live' [0, 1, 5] fun ρ hL => ?_))
 simp only [go_sem, simprocAttr, h0, h1, h5, w] at hL
 exact next ρ hL
set_option maxRecDepth 100000 in
theorem seE6 (g : gV z t s i) (h : eV z t c i (s + 6) ρ) (next : ∀ ρ, eV z t c i (s + 7) ρ → awpL Tryz.prog 0 (cE Tryz.f84 14 :: cs) Q ρ []) :
 awpL Tryz.prog 0 (cE Tryz.f84 12 :: cs) Q ρ [] := by
 obtain ⟨h0, h1, h5⟩ := h; have hi := g.1; have hq := seeQ6 hi g.2.1
 refine awl_seq (awl_seq (awl_regS _ rfl fun K hK => ?_))
 simp only [go_sem, simprocAttr, h0, h1, h5, hi, hq]
 repeat' (refine And.intro (by first | rfl | omega) ?_)
 refine hK _ _ (.mk (awl_live' [0, 1, 5, 85] fun ρ hL => ?_))
 simp only [go_sem, simprocAttr, h0, h1, h5] at hL
 obtain ⟨h0, h1, h5, hx⟩ := hL
 refine awl_cond hx (fun c1 => absurd c1 (by simp)) (fun _ => awl_skip ?_)
 clear hx
 have w := stepV g (u := (s + 6)) (v := s + 7) (by omega) (by omega) (by omega)
 refine awl_seq (awl_regS _ rfl fun K hK => ?_)
 simp only [go_sem, simprocAttr, h0, h1, h5, w]
 refine hK _ _ (.mk (awl_live' [0, 1, 5] fun ρ hL => ?_))
 simp only [go_sem, simprocAttr, h0, h1, h5, w] at hL
 exact next ρ hL
set_option maxRecDepth 100000 in
theorem seE7 (g : gV z t s i) (h : eV z t c i (s + 7) ρ) (next : ∀ ρ, eV z t c i (s + 8) ρ → awpL Tryz.prog 0 (cE Tryz.f84 16 :: cs) Q ρ []) :
 awpL Tryz.prog 0 (cE Tryz.f84 14 :: cs) Q ρ [] := by
 obtain ⟨h0, h1, h5⟩ := h; have hi := g.1; have hq := seeQ7 hi g.2.1
 refine awl_seq (awl_seq (awl_regS _ rfl fun K hK => ?_))
 simp only [go_sem, simprocAttr, h0, h1, h5, hi, hq]
 repeat' (refine And.intro (by first | rfl | omega) ?_)
 refine hK _ _ (.mk (awl_live' [0, 1, 5, 95] fun ρ hL => ?_))
 simp only [go_sem, simprocAttr, h0, h1, h5] at hL
 obtain ⟨h0, h1, h5, hx⟩ := hL
 refine awl_cond hx (fun c1 => absurd c1 (by simp)) (fun _ => awl_skip ?_)
 clear hx
 have w := stepV g (u := (s + 7)) (v := s + 8) (by omega) (by omega) (by omega)
 refine awl_seq (awl_regS _ rfl fun K hK => ?_)
 simp only [go_sem, simprocAttr, h0, h1, h5, w]
 refine hK _ _ (.mk (awl_live' [0, 1, 5] fun ρ hL => ?_))
 simp only [go_sem, simprocAttr, h0, h1, h5, w] at hL
 exact next ρ hL
set_option maxRecDepth 100000 in
theorem seE8 (g : gV z t s i) (h : eV z t c i (s + 8) ρ) (next : ∀ ρ, eV z t c i (s + 9) ρ → awpL Tryz.prog 0 (cE Tryz.f84 18 :: cs) Q ρ []) :
 awpL Tryz.prog 0 (cE Tryz.f84 16 :: cs) Q ρ [] := by
 obtain ⟨h0, h1, h5⟩ := h; have hi := g.1; have hq := seeQ8 hi g.2.1
 refine awl_seq (awl_seq (awl_regS _ rfl fun K hK => ?_))
 simp only [go_sem, simprocAttr, h0, h1, h5, hi, hq]
 repeat' (refine And.intro (by first | rfl | omega) ?_)
 refine hK _ _ (.mk (awl_live' [0, 1, 5, 105] fun ρ hL => ?_))
 simp only [go_sem, simprocAttr, h0, h1, h5] at hL
 obtain ⟨h0, h1, h5, hx⟩ := hL
 refine awl_cond hx (fun c1 => absurd c1 (by simp)) (fun _ => awl_skip ?_)
 clear hx
 have w := stepV g (u := (s + 8)) (v := s + 9) (by omega) (by omega) (by omega)
 refine awl_seq (awl_regS _ rfl fun K hK => ?_)
 simp only [go_sem, simprocAttr, h0, h1, h5, w]
 refine hK _ _ (.mk (awl_live' [0, 1, 5] fun ρ hL => ?_))
 simp only [go_sem, simprocAttr, h0, h1, h5, w] at hL
 exact next ρ hL
set_option maxRecDepth 100000 in
theorem seE9 (g : gV z t s i) (h : eV z t c i (s + 9) ρ) (next : ∀ ρ, eV z t c i (s + 10) ρ → awpL Tryz.prog 0 (cE Tryz.f84 20 :: cs) Q ρ []) :
 awpL Tryz.prog 0 (cE Tryz.f84 18 :: cs) Q ρ [] := by
 obtain ⟨h0, h1, h5⟩ := h; have hi := g.1; have hq := seeQ9 hi g.2.1
 refine awl_seq (awl_seq (awl_regS _ rfl fun K hK => ?_))
 simp only [go_sem, simprocAttr, h0, h1, h5, hi, hq]
 repeat' (refine And.intro (by first | rfl | omega) ?_)
 refine hK _ _ (.mk (awl_live' [0, 1, 5, 115] fun ρ hL => ?_))
 simp only [go_sem, simprocAttr, h0, h1, h5] at hL
 obtain ⟨h0, h1, h5, hx⟩ := hL
 refine awl_cond hx (fun c1 => absurd c1 (by simp)) (fun _ => awl_skip ?_)
 clear hx
 have w := stepV g (u := (s + 9)) (v := s + 10) (by omega) (by omega) (by omega)
 refine awl_seq (awl_regS _ rfl fun K hK => ?_)
 simp only [go_sem, simprocAttr, h0, h1, h5, w]
 refine hK _ _ (.mk (awl_live' [0, 1, 5] fun ρ hL => ?_))
 simp only [go_sem, simprocAttr, h0, h1, h5, w] at hL
 exact next ρ hL
set_option maxRecDepth 100000 in
theorem seE10 (g : gV z t s i) (h : eV z t c i (s + 10) ρ) (next : ∀ ρ, eV z t c i (s + 11) ρ → awpL Tryz.prog 0 (cE Tryz.f84 22 :: cs) Q ρ []) :
 awpL Tryz.prog 0 (cE Tryz.f84 20 :: cs) Q ρ [] := by
 obtain ⟨h0, h1, h5⟩ := h; have hi := g.1; have hq := seeQ10 hi g.2.1
 refine awl_seq (awl_seq (awl_regS _ rfl fun K hK => ?_))
 simp only [go_sem, simprocAttr, h0, h1, h5, hi, hq]
 repeat' (refine And.intro (by first | rfl | omega) ?_)
 refine hK _ _ (.mk (awl_live' [0, 1, 5, 125] fun ρ hL => ?_))
 simp only [go_sem, simprocAttr, h0, h1, h5] at hL
 obtain ⟨h0, h1, h5, hx⟩ := hL
 refine awl_cond hx (fun c1 => absurd c1 (by simp)) (fun _ => awl_skip ?_)
 clear hx
 have w := stepV g (u := (s + 10)) (v := s + 11) (by omega) (by omega) (by omega)
 refine awl_seq (awl_regS _ rfl fun K hK => ?_)
 simp only [go_sem, simprocAttr, h0, h1, h5, w]
 refine hK _ _ (.mk (awl_live' [0, 1, 5] fun ρ hL => ?_))
 simp only [go_sem, simprocAttr, h0, h1, h5, w] at hL
 exact next ρ hL
set_option maxRecDepth 100000 in
theorem seE11 (g : gV z t s i) (h : eV z t c i (s + 11) ρ) (next : ∀ ρ, eV z t c i (s + 12) ρ → awpL Tryz.prog 0 (cE Tryz.f84 24 :: cs) Q ρ []) :
 awpL Tryz.prog 0 (cE Tryz.f84 22 :: cs) Q ρ [] := by
 obtain ⟨h0, h1, h5⟩ := h; have hi := g.1; have hq := seeQ11 hi g.2.1
 refine awl_seq (awl_seq (awl_regS _ rfl fun K hK => ?_))
 simp only [go_sem, simprocAttr, h0, h1, h5, hi, hq]
 repeat' (refine And.intro (by first | rfl | omega) ?_)
 refine hK _ _ (.mk (awl_live' [0, 1, 5, 136] fun ρ hL => ?_))
 simp only [go_sem, simprocAttr, h0, h1, h5] at hL
 obtain ⟨h0, h1, h5, hx⟩ := hL
 refine awl_cond hx (fun c1 => absurd c1 (by simp)) (fun _ => awl_skip ?_)
 clear hx
 have w := stepV g (u := (s + 11)) (v := s + 12) (by omega) (by omega) (by omega)
 refine awl_seq (awl_regS _ rfl fun K hK => ?_)
 simp only [go_sem, simprocAttr, h0, h1, h5, w]
 refine hK _ _ (.mk (awl_live' [0, 1, 5] fun ρ hL => ?_))
 simp only [go_sem, simprocAttr, h0, h1, h5, w] at hL
 exact next ρ hL
set_option maxRecDepth 100000 in
theorem seE12 (g : gV z t s i) (h : eV z t c i (s + 12) ρ) (next : ∀ ρ, eV z t c i (s + 13) ρ → awpL Tryz.prog 0 (cE Tryz.f84 26 :: cs) Q ρ []) :
 awpL Tryz.prog 0 (cE Tryz.f84 24 :: cs) Q ρ [] := by
 obtain ⟨h0, h1, h5⟩ := h; have hi := g.1; have hq := seeQ12 hi g.2.1
 refine awl_seq (awl_seq (awl_regS _ rfl fun K hK => ?_))
 simp only [go_sem, simprocAttr, h0, h1, h5, hi, hq]
 repeat' (refine And.intro (by first | rfl | omega) ?_)
 refine hK _ _ (.mk (awl_live' [0, 1, 5, 146] fun ρ hL => ?_))
 simp only [go_sem, simprocAttr, h0, h1, h5] at hL
 obtain ⟨h0, h1, h5, hx⟩ := hL
 refine awl_cond hx (fun c1 => absurd c1 (by simp)) (fun _ => awl_skip ?_)
 clear hx
 have w := stepV g (u := (s + 12)) (v := s + 13) (by omega) (by omega) (by omega)
 refine awl_seq (awl_regS _ rfl fun K hK => ?_)
 simp only [go_sem, simprocAttr, h0, h1, h5, w]
 refine hK _ _ (.mk (awl_live' [0, 1, 5] fun ρ hL => ?_))
 simp only [go_sem, simprocAttr, h0, h1, h5, w] at hL
 exact next ρ hL
set_option maxRecDepth 100000 in
theorem seE13 (g : gV z t s i) (h : eV z t c i (s + 13) ρ) (next : ∀ ρ, eV z t c i (s + 14) ρ → awpL Tryz.prog 0 (cE Tryz.f84 28 :: cs) Q ρ []) :
 awpL Tryz.prog 0 (cE Tryz.f84 26 :: cs) Q ρ [] := by
 obtain ⟨h0, h1, h5⟩ := h; have hi := g.1; have hq := seeQ13 hi g.2.1
 refine awl_seq (awl_seq (awl_regS _ rfl fun K hK => ?_))
 simp only [go_sem, simprocAttr, h0, h1, h5, hi, hq]
 repeat' (refine And.intro (by first | rfl | omega) ?_)
 refine hK _ _ (.mk (awl_live' [0, 1, 5, 156] fun ρ hL => ?_))
 simp only [go_sem, simprocAttr, h0, h1, h5] at hL
 obtain ⟨h0, h1, h5, hx⟩ := hL
 refine awl_cond hx (fun c1 => absurd c1 (by simp)) (fun _ => awl_skip ?_)
 clear hx
 have w := stepV g (u := (s + 13)) (v := s + 14) (by omega) (by omega) (by omega)
 refine awl_seq (awl_regS _ rfl fun K hK => ?_)
 simp only [go_sem, simprocAttr, h0, h1, h5, w]
 refine hK _ _ (.mk (awl_live' [0, 1, 5] fun ρ hL => ?_))
 simp only [go_sem, simprocAttr, h0, h1, h5, w] at hL
 exact next ρ hL
set_option maxRecDepth 100000 in
theorem seE14 (g : gV z t s i) (h : eV z t c i (s + 14) ρ) (next : ∀ ρ, eV z t c i (s + 15) ρ → awpL Tryz.prog 0 (cE Tryz.f84 30 :: cs) Q ρ []) :
 awpL Tryz.prog 0 (cE Tryz.f84 28 :: cs) Q ρ [] := by
 obtain ⟨h0, h1, h5⟩ := h; have hi := g.1; have hq := seeQ14 hi g.2.1
 refine awl_seq (awl_seq (awl_regS _ rfl fun K hK => ?_))
 simp only [go_sem, simprocAttr, h0, h1, h5, hi, hq]
 repeat' (refine And.intro (by first | rfl | omega) ?_)
 refine hK _ _ (.mk (awl_live' [0, 1, 5, 167] fun ρ hL => ?_))
 simp only [go_sem, simprocAttr, h0, h1, h5] at hL
 obtain ⟨h0, h1, h5, hx⟩ := hL
 refine awl_cond hx (fun c1 => absurd c1 (by simp)) (fun _ => awl_skip ?_)
 clear hx
 have w := stepV g (u := (s + 14)) (v := s + 15) (by omega) (by omega) (by omega)
 refine awl_seq (awl_regS _ rfl fun K hK => ?_)
 simp only [go_sem, simprocAttr, h0, h1, h5, w]
 refine hK _ _ (.mk (awl_live' [0, 1, 5] fun ρ hL => ?_))
 simp only [go_sem, simprocAttr, h0, h1, h5, w] at hL
 exact next ρ hL
set_option maxRecDepth 100000 in
theorem seE15 (g : gV z t s i) (h : eV z t c i (s + 15) ρ) (next : ∀ ρ, eV z t c i (s + 16) ρ → awpL Tryz.prog 0 (cE Tryz.f84 32 :: cs) Q ρ []) :
 awpL Tryz.prog 0 (cE Tryz.f84 30 :: cs) Q ρ [] := by
 obtain ⟨h0, h1, h5⟩ := h; have hi := g.1; have hq := seeQ15 hi g.2.1
 refine awl_seq (awl_seq (awl_regS _ rfl fun K hK => ?_))
 simp only [go_sem, simprocAttr, h0, h1, h5, hi, hq]
 repeat' (refine And.intro (by first | rfl | omega) ?_)
 refine hK _ _ (.mk (awl_live' [0, 1, 5, 180] fun ρ hL => ?_))
 simp only [go_sem, simprocAttr, h0, h1, h5] at hL
 obtain ⟨h0, h1, h5, hx⟩ := hL
 refine awl_cond hx (fun c1 => absurd c1 (by simp)) (fun _ => awl_skip ?_)
 clear hx
 have w := stepV g (u := (s + 15)) (v := s + 16) (by omega) (by omega) (by omega)
 refine awl_seq (awl_regS _ rfl fun K hK => ?_)
 simp only [go_sem, simprocAttr, h0, h1, h5, w]
 refine hK _ _ (.mk (awl_live' [0, 1, 5] fun ρ hL => ?_))
 simp only [go_sem, simprocAttr, h0, h1, h5, w] at hL
 exact next ρ hL
set_option maxRecDepth 100000 in
theorem seE16 (g : gV z t s i) (h : eV z t c i (s + 16) ρ) (next : ∀ ρ, eV z t c i (s + 17) ρ → awpL Tryz.prog 0 (cE Tryz.f84 34 :: cs) Q ρ []) :
 awpL Tryz.prog 0 (cE Tryz.f84 32 :: cs) Q ρ [] := by
 obtain ⟨h0, h1, h5⟩ := h; have hi := g.1; have hq := seeQ16 hi g.2.1
 refine awl_seq (awl_seq (awl_regS _ rfl fun K hK => ?_))
 simp only [go_sem, simprocAttr, h0, h1, h5, hi, hq]
 repeat' (refine And.intro (by first | rfl | omega) ?_)
 refine hK _ _ (.mk (awl_live' [0, 1, 5, 192] fun ρ hL => ?_))
 simp only [go_sem, simprocAttr, h0, h1, h5] at hL
 obtain ⟨h0, h1, h5, hx⟩ := hL
 refine awl_cond hx (fun c1 => absurd c1 (by simp)) (fun _ => awl_skip ?_)
 clear hx
 have w := stepV g (u := (s + 16)) (v := s + 17) (by omega) (by omega) (by omega)
 refine awl_seq (awl_regS _ rfl fun K hK => ?_)
 simp only [go_sem, simprocAttr, h0, h1, h5, w]
 refine hK _ _ (.mk (awl_live' [0, 1, 5] fun ρ hL => ?_))
 simp only [go_sem, simprocAttr, h0, h1, h5, w] at hL
 exact next ρ hL
set_option maxRecDepth 100000 in
theorem seE17 (g : gV z t s i) (h : eV z t c i (s + 17) ρ) (next : ∀ ρ, eV z t c i (s + 18) ρ → awpL Tryz.prog 0 (cE Tryz.f84 36 :: cs) Q ρ []) :
 awpL Tryz.prog 0 (cE Tryz.f84 34 :: cs) Q ρ [] := by
 obtain ⟨h0, h1, h5⟩ := h; have hi := g.1; have hq := seeQ17 hi g.2.1
 refine awl_seq (awl_seq (awl_regS _ rfl fun K hK => ?_))
 simp only [go_sem, simprocAttr, h0, h1, h5, hi, hq]
 repeat' (refine And.intro (by first | rfl | omega) ?_)
 refine hK _ _ (.mk (awl_live' [0, 1, 5, 204] fun ρ hL => ?_))
 simp only [go_sem, simprocAttr, h0, h1, h5] at hL
 obtain ⟨h0, h1, h5, hx⟩ := hL
 refine awl_cond hx (fun c1 => absurd c1 (by simp)) (fun _ => awl_skip ?_)
 clear hx
 have w := stepV g (u := (s + 17)) (v := s + 18) (by omega) (by omega) (by omega)
 refine awl_seq (awl_regS _ rfl fun K hK => ?_)
 simp only [go_sem, simprocAttr, h0, h1, h5, w]
 refine hK _ _ (.mk (awl_live' [0, 1, 5] fun ρ hL => ?_))
 simp only [go_sem, simprocAttr, h0, h1, h5, w] at hL
 exact next ρ hL
set_option maxRecDepth 100000 in
theorem seE18 (g : gV z t s i) (h : eV z t c i (s + 18) ρ) (next : ∀ ρ, eV z t c i (s + 19) ρ → awpL Tryz.prog 0 (cE Tryz.f84 38 :: cs) Q ρ []) :
 awpL Tryz.prog 0 (cE Tryz.f84 36 :: cs) Q ρ [] := by
 obtain ⟨h0, h1, h5⟩ := h; have hi := g.1; have hq := seeQ18 hi g.2.1
 refine awl_seq (awl_seq (awl_regS _ rfl fun K hK => ?_))
 simp only [go_sem, simprocAttr, h0, h1, h5, hi, hq]
 repeat' (refine And.intro (by first | rfl | omega) ?_)
 refine hK _ _ (.mk (awl_live' [0, 1, 5, 216] fun ρ hL => ?_))
 simp only [go_sem, simprocAttr, h0, h1, h5] at hL
 obtain ⟨h0, h1, h5, hx⟩ := hL
 refine awl_cond hx (fun c1 => absurd c1 (by simp)) (fun _ => awl_skip ?_)
 clear hx
 have w := stepV g (u := (s + 18)) (v := s + 19) (by omega) (by omega) (by omega)
 refine awl_seq (awl_regS _ rfl fun K hK => ?_)
 simp only [go_sem, simprocAttr, h0, h1, h5, w]
 refine hK _ _ (.mk (awl_live' [0, 1, 5] fun ρ hL => ?_))
 simp only [go_sem, simprocAttr, h0, h1, h5, w] at hL
 exact next ρ hL
set_option maxRecDepth 100000 in
theorem seE19 (g : gV z t s i) (h : eV z t c i (s + 19) ρ) (next : ∀ ρ, eV z t c i (s + 20) ρ → awpL Tryz.prog 0 (cE Tryz.f84 40 :: cs) Q ρ []) :
 awpL Tryz.prog 0 (cE Tryz.f84 38 :: cs) Q ρ [] := by
 obtain ⟨h0, h1, h5⟩ := h; have hi := g.1; have hq := seeQ19 hi g.2.1
 refine awl_seq (awl_seq (awl_regS _ rfl fun K hK => ?_))
 simp only [go_sem, simprocAttr, h0, h1, h5, hi, hq]
 repeat' (refine And.intro (by first | rfl | omega) ?_)
 refine hK _ _ (.mk (awl_live' [0, 1, 5, 228] fun ρ hL => ?_))
 simp only [go_sem, simprocAttr, h0, h1, h5] at hL
 obtain ⟨h0, h1, h5, hx⟩ := hL
 refine awl_cond hx (fun c1 => absurd c1 (by simp)) (fun _ => awl_skip ?_)
 clear hx
 have w := stepV g (u := (s + 19)) (v := s + 20) (by omega) (by omega) (by omega)
 refine awl_seq (awl_regS _ rfl fun K hK => ?_)
 simp only [go_sem, simprocAttr, h0, h1, h5, w]
 refine hK _ _ (.mk (awl_live' [0, 1, 5] fun ρ hL => ?_))
 simp only [go_sem, simprocAttr, h0, h1, h5, w] at hL
 exact next ρ hL
set_option maxRecDepth 100000 in
theorem seE20 (g : gV z t s i) (h : eV z t c i (s + 20) ρ) (next : ∀ ρ, eV z t c i (s + 21) ρ → awpL Tryz.prog 0 (cE Tryz.f84 42 :: cs) Q ρ []) :
 awpL Tryz.prog 0 (cE Tryz.f84 40 :: cs) Q ρ [] := by
 obtain ⟨h0, h1, h5⟩ := h; have hi := g.1; have hq := seeQ20 hi g.2.1
 refine awl_seq (awl_seq (awl_regS _ rfl fun K hK => ?_))
 simp only [go_sem, simprocAttr, h0, h1, h5, hi, hq]
 repeat' (refine And.intro (by first | rfl | omega) ?_)
 refine hK _ _ (.mk (awl_live' [0, 1, 5, 239] fun ρ hL => ?_))
 simp only [go_sem, simprocAttr, h0, h1, h5] at hL
 obtain ⟨h0, h1, h5, hx⟩ := hL
 refine awl_cond hx (fun c1 => absurd c1 (by simp)) (fun _ => awl_skip ?_)
 clear hx
 have w := stepV g (u := (s + 20)) (v := s + 21) (by omega) (by omega) (by omega)
 refine awl_seq (awl_regS _ rfl fun K hK => ?_)
 simp only [go_sem, simprocAttr, h0, h1, h5, w]
 refine hK _ _ (.mk (awl_live' [0, 1, 5] fun ρ hL => ?_))
 simp only [go_sem, simprocAttr, h0, h1, h5, w] at hL
 exact next ρ hL
set_option maxRecDepth 100000 in
theorem seE21 (g : gV z t s i) (h : eV z t c i (s + 21) ρ) (next : ∀ ρ, eV z t c i (s + 22) ρ → awpL Tryz.prog 0 (cE Tryz.f84 44 :: cs) Q ρ []) :
 awpL Tryz.prog 0 (cE Tryz.f84 42 :: cs) Q ρ [] := by
 obtain ⟨h0, h1, h5⟩ := h; have hi := g.1; have hq := seeQ21 hi g.2.1
 refine awl_seq (awl_seq (awl_regS _ rfl fun K hK => ?_))
 simp only [go_sem, simprocAttr, h0, h1, h5, hi, hq]
 repeat' (refine And.intro (by first | rfl | omega) ?_)
 refine hK _ _ (.mk (awl_live' [0, 1, 5, 252] fun ρ hL => ?_))
 simp only [go_sem, simprocAttr, h0, h1, h5] at hL
 obtain ⟨h0, h1, h5, hx⟩ := hL
 refine awl_cond hx (fun c1 => absurd c1 (by simp)) (fun _ => awl_skip ?_)
 clear hx
 have w := stepV g (u := (s + 21)) (v := s + 22) (by omega) (by omega) (by omega)
 refine awl_seq (awl_regS _ rfl fun K hK => ?_)
 simp only [go_sem, simprocAttr, h0, h1, h5, w]
 refine hK _ _ (.mk (awl_live' [0, 1, 5] fun ρ hL => ?_))
 simp only [go_sem, simprocAttr, h0, h1, h5, w] at hL
 exact next ρ hL
set_option maxRecDepth 100000 in
theorem seE22 (g : gV z t s i) (h : eV z t c i (s + 22) ρ) (next : ∀ ρ, eV z t c i (s + 23) ρ → awpL Tryz.prog 0 (cE Tryz.f84 46 :: cs) Q ρ []) :
 awpL Tryz.prog 0 (cE Tryz.f84 44 :: cs) Q ρ [] := by
 obtain ⟨h0, h1, h5⟩ := h; have hi := g.1; have hq := seeQ22 hi g.2.1
 refine awl_seq (awl_seq (awl_regS _ rfl fun K hK => ?_))
 simp only [go_sem, simprocAttr, h0, h1, h5, hi, hq]
 repeat' (refine And.intro (by first | rfl | omega) ?_)
 refine hK _ _ (.mk (awl_live' [0, 1, 5, 264] fun ρ hL => ?_))
 simp only [go_sem, simprocAttr, h0, h1, h5] at hL
 obtain ⟨h0, h1, h5, hx⟩ := hL
 refine awl_cond hx (fun c1 => absurd c1 (by simp)) (fun _ => awl_skip ?_)
 clear hx
 have w := stepV g (u := (s + 22)) (v := s + 23) (by omega) (by omega) (by omega)
 refine awl_seq (awl_regS _ rfl fun K hK => ?_)
 simp only [go_sem, simprocAttr, h0, h1, h5, w]
 refine hK _ _ (.mk (awl_live' [0, 1, 5] fun ρ hL => ?_))
 simp only [go_sem, simprocAttr, h0, h1, h5, w] at hL
 exact next ρ hL
set_option maxRecDepth 100000 in
theorem seE23 (g : gV z t s i) (h : eV z t c i (s + 23) ρ) (next : ∀ ρ, eV z t c i (s + 24) ρ → awpL Tryz.prog 0 (cE Tryz.f84 48 :: cs) Q ρ []) :
 awpL Tryz.prog 0 (cE Tryz.f84 46 :: cs) Q ρ [] := by
 obtain ⟨h0, h1, h5⟩ := h; have hi := g.1; have hq := seeQ23 hi g.2.1
 refine awl_seq (awl_seq (awl_regS _ rfl fun K hK => ?_))
 simp only [go_sem, simprocAttr, h0, h1, h5, hi, hq]
 repeat' (refine And.intro (by first | rfl | omega) ?_)
 refine hK _ _ (.mk (awl_live' [0, 1, 5, 276] fun ρ hL => ?_))
 simp only [go_sem, simprocAttr, h0, h1, h5] at hL
 obtain ⟨h0, h1, h5, hx⟩ := hL
 refine awl_cond hx (fun c1 => absurd c1 (by simp)) (fun _ => awl_skip ?_)
 clear hx
 have w := stepV g (u := (s + 23)) (v := s + 24) (by omega) (by omega) (by omega)
 refine awl_seq (awl_regS _ rfl fun K hK => ?_)
 simp only [go_sem, simprocAttr, h0, h1, h5, w]
 refine hK _ _ (.mk (awl_live' [0, 1, 5] fun ρ hL => ?_))
 simp only [go_sem, simprocAttr, h0, h1, h5, w] at hL
 exact next ρ hL
set_option maxRecDepth 100000 in
theorem seE24 (g : gV z t s i) (h : eV z t c i (s + 24) ρ) (next : ∀ ρ, eV z t c i (s + 25) ρ → awpL Tryz.prog 0 (cE Tryz.f84 50 :: cs) Q ρ []) :
 awpL Tryz.prog 0 (cE Tryz.f84 48 :: cs) Q ρ [] := by
 obtain ⟨h0, h1, h5⟩ := h; have hi := g.1; have hq := seeQ24 hi g.2.1
 refine awl_seq (awl_seq (awl_regS _ rfl fun K hK => ?_))
 simp only [go_sem, simprocAttr, h0, h1, h5, hi, hq]
 repeat' (refine And.intro (by first | rfl | omega) ?_)
 refine hK _ _ (.mk (awl_live' [0, 1, 5, 288] fun ρ hL => ?_))
 simp only [go_sem, simprocAttr, h0, h1, h5] at hL
 obtain ⟨h0, h1, h5, hx⟩ := hL
 refine awl_cond hx (fun c1 => absurd c1 (by simp)) (fun _ => awl_skip ?_)
 clear hx
 have w := stepV g (u := (s + 24)) (v := s + 25) (by omega) (by omega) (by omega)
 refine awl_seq (awl_regS _ rfl fun K hK => ?_)
 simp only [go_sem, simprocAttr, h0, h1, h5, w]
 refine hK _ _ (.mk (awl_live' [0, 1, 5] fun ρ hL => ?_))
 simp only [go_sem, simprocAttr, h0, h1, h5, w] at hL
 exact next ρ hL
set_option maxRecDepth 100000 in
theorem seE25 (g : gV z t s i) (h : eV z t c i (s + 25) ρ) (next : ∀ ρ, eV z t c i (s + 26) ρ → awpL Tryz.prog 0 (cE Tryz.f84 52 :: cs) Q ρ []) :
 awpL Tryz.prog 0 (cE Tryz.f84 50 :: cs) Q ρ [] := by
 obtain ⟨h0, h1, h5⟩ := h; have hi := g.1; have hq := seeQ25 hi g.2.1
 refine awl_seq (awl_seq (awl_regS _ rfl fun K hK => ?_))
 simp only [go_sem, simprocAttr, h0, h1, h5, hi, hq]
 repeat' (refine And.intro (by first | rfl | omega) ?_)
 refine hK _ _ (.mk (awl_live' [0, 1, 5, 300] fun ρ hL => ?_))
 simp only [go_sem, simprocAttr, h0, h1, h5] at hL
 obtain ⟨h0, h1, h5, hx⟩ := hL
 refine awl_cond hx (fun c1 => absurd c1 (by simp)) (fun _ => awl_skip ?_)
 clear hx
 have w := stepV g (u := (s + 25)) (v := s + 26) (by omega) (by omega) (by omega)
 refine awl_seq (awl_regS _ rfl fun K hK => ?_)
 simp only [go_sem, simprocAttr, h0, h1, h5, w]
 refine hK _ _ (.mk (awl_live' [0, 1, 5] fun ρ hL => ?_))
 simp only [go_sem, simprocAttr, h0, h1, h5, w] at hL
 exact next ρ hL
set_option maxRecDepth 100000 in
theorem seE26 (g : gV z t s i) (h : eV z t c i (s + 26) ρ) (next : ∀ ρ, eV z t c i (s + 27) ρ → awpL Tryz.prog 0 (cE Tryz.f84 54 :: cs) Q ρ []) :
 awpL Tryz.prog 0 (cE Tryz.f84 52 :: cs) Q ρ [] := by
 obtain ⟨h0, h1, h5⟩ := h; have hi := g.1; have hq := seeQ26 hi g.2.1
 refine awl_seq (awl_seq (awl_regS _ rfl fun K hK => ?_))
 simp only [go_sem, simprocAttr, h0, h1, h5, hi, hq]
 repeat' (refine And.intro (by first | rfl | omega) ?_)
 refine hK _ _ (.mk (awl_live' [0, 1, 5, 310] fun ρ hL => ?_))
 simp only [go_sem, simprocAttr, h0, h1, h5] at hL
 obtain ⟨h0, h1, h5, hx⟩ := hL
 refine awl_cond hx (fun c1 => absurd c1 (by simp)) (fun _ => awl_skip ?_)
 clear hx
 have w := stepV g (u := (s + 26)) (v := s + 27) (by omega) (by omega) (by omega)
 refine awl_seq (awl_regS _ rfl fun K hK => ?_)
 simp only [go_sem, simprocAttr, h0, h1, h5, w]
 refine hK _ _ (.mk (awl_live' [0, 1, 5] fun ρ hL => ?_))
 simp only [go_sem, simprocAttr, h0, h1, h5, w] at hL
 exact next ρ hL
set_option maxRecDepth 100000 in
theorem seE27 (g : gV z t s i) (h : eV z t c i (s + 27) ρ) (next : ∀ ρ, eV z t c i (s + 28) ρ → awpL Tryz.prog 0 (cE Tryz.f84 56 :: cs) Q ρ []) :
 awpL Tryz.prog 0 (cE Tryz.f84 54 :: cs) Q ρ [] := by
 obtain ⟨h0, h1, h5⟩ := h; have hi := g.1; have hq := seeQ27 hi g.2.1
 refine awl_seq (awl_seq (awl_regS _ rfl fun K hK => ?_))
 simp only [go_sem, simprocAttr, h0, h1, h5, hi, hq]
 repeat' (refine And.intro (by first | rfl | omega) ?_)
 refine hK _ _ (.mk (awl_live' [0, 1, 5, 321] fun ρ hL => ?_))
 simp only [go_sem, simprocAttr, h0, h1, h5] at hL
 obtain ⟨h0, h1, h5, hx⟩ := hL
 refine awl_cond hx (fun c1 => absurd c1 (by simp)) (fun _ => awl_skip ?_)
 clear hx
 have w := stepV g (u := (s + 27)) (v := s + 28) (by omega) (by omega) (by omega)
 refine awl_seq (awl_regS _ rfl fun K hK => ?_)
 simp only [go_sem, simprocAttr, h0, h1, h5, w]
 refine hK _ _ (.mk (awl_live' [0, 1, 5] fun ρ hL => ?_))
 simp only [go_sem, simprocAttr, h0, h1, h5, w] at hL
 exact next ρ hL
set_option maxRecDepth 100000 in
theorem seE28 (g : gV z t s i) (h : eV z t c i (s + 28) ρ) (next : ∀ ρ, eV z t c i (s + 29) ρ → awpL Tryz.prog 0 (cE Tryz.f84 58 :: cs) Q ρ []) :
 awpL Tryz.prog 0 (cE Tryz.f84 56 :: cs) Q ρ [] := by
 obtain ⟨h0, h1, h5⟩ := h; have hi := g.1; have hq := seeQ28 hi g.2.1
 refine awl_seq (awl_seq (awl_regS _ rfl fun K hK => ?_))
 simp only [go_sem, simprocAttr, h0, h1, h5, hi, hq]
 repeat' (refine And.intro (by first | rfl | omega) ?_)
 refine hK _ _ (.mk (awl_live' [0, 1, 5, 334] fun ρ hL => ?_))
 simp only [go_sem, simprocAttr, h0, h1, h5] at hL
 obtain ⟨h0, h1, h5, hx⟩ := hL
 refine awl_cond hx (fun c1 => absurd c1 (by simp)) (fun _ => awl_skip ?_)
 clear hx
 have w := stepV g (u := (s + 28)) (v := s + 29) (by omega) (by omega) (by omega)
 refine awl_seq (awl_regS _ rfl fun K hK => ?_)
 simp only [go_sem, simprocAttr, h0, h1, h5, w]
 refine hK _ _ (.mk (awl_live' [0, 1, 5] fun ρ hL => ?_))
 simp only [go_sem, simprocAttr, h0, h1, h5, w] at hL
 exact next ρ hL
set_option maxRecDepth 100000 in
theorem seE29 (g : gV z t s i) (h : eV z t c i (s + 29) ρ) (next : ∀ ρ, eV z t c i (s + 30) ρ → awpL Tryz.prog 0 (cE Tryz.f84 60 :: cs) Q ρ []) :
 awpL Tryz.prog 0 (cE Tryz.f84 58 :: cs) Q ρ [] := by
 obtain ⟨h0, h1, h5⟩ := h; have hi := g.1; have hq := seeQ29 hi g.2.1
 refine awl_seq (awl_seq (awl_regS _ rfl fun K hK => ?_))
 simp only [go_sem, simprocAttr, h0, h1, h5, hi, hq]
 repeat' (refine And.intro (by first | rfl | omega) ?_)
 refine hK _ _ (.mk (awl_live' [0, 1, 5, 346] fun ρ hL => ?_))
 simp only [go_sem, simprocAttr, h0, h1, h5] at hL
 obtain ⟨h0, h1, h5, hx⟩ := hL
 refine awl_cond hx (fun c1 => absurd c1 (by simp)) (fun _ => awl_skip ?_)
 clear hx
 have w := stepV g (u := (s + 29)) (v := s + 30) (by omega) (by omega) (by omega)
 refine awl_seq (awl_regS _ rfl fun K hK => ?_)
 simp only [go_sem, simprocAttr, h0, h1, h5, w]
 refine hK _ _ (.mk (awl_live' [0, 1, 5] fun ρ hL => ?_))
 simp only [go_sem, simprocAttr, h0, h1, h5, w] at hL
 exact next ρ hL
set_option maxRecDepth 100000 in
theorem seE30 (g : gV z t s i) (h : eV z t c i (s + 30) ρ) (next : ∀ ρ, eV z t c i (s + 31) ρ → awpL Tryz.prog 0 (cE Tryz.f84 62 :: cs) Q ρ []) :
 awpL Tryz.prog 0 (cE Tryz.f84 60 :: cs) Q ρ [] := by
 obtain ⟨h0, h1, h5⟩ := h; have hi := g.1; have hq := seeQ30 hi g.2.1
 refine awl_seq (awl_seq (awl_regS _ rfl fun K hK => ?_))
 simp only [go_sem, simprocAttr, h0, h1, h5, hi, hq]
 repeat' (refine And.intro (by first | rfl | omega) ?_)
 refine hK _ _ (.mk (awl_live' [0, 1, 5, 358] fun ρ hL => ?_))
 simp only [go_sem, simprocAttr, h0, h1, h5] at hL
 obtain ⟨h0, h1, h5, hx⟩ := hL
 refine awl_cond hx (fun c1 => absurd c1 (by simp)) (fun _ => awl_skip ?_)
 clear hx
 have w := stepV g (u := (s + 30)) (v := s + 31) (by omega) (by omega) (by omega)
 refine awl_seq (awl_regS _ rfl fun K hK => ?_)
 simp only [go_sem, simprocAttr, h0, h1, h5, w]
 refine hK _ _ (.mk (awl_live' [0, 1, 5] fun ρ hL => ?_))
 simp only [go_sem, simprocAttr, h0, h1, h5, w] at hL
 exact next ρ hL
set_option maxRecDepth 100000 in
theorem seE31 (g : gV z t s i) (h : eV z t c i (s + 31) ρ) (next : ∀ ρ, eV z t c i (s + 32) ρ → awpL Tryz.prog 0 (cE Tryz.f84 64 :: cs) Q ρ []) :
 awpL Tryz.prog 0 (cE Tryz.f84 62 :: cs) Q ρ [] := by
 obtain ⟨h0, h1, h5⟩ := h; have hi := g.1; have hq := seeQ31 hi g.2.1
 refine awl_seq (awl_seq (awl_regS _ rfl fun K hK => ?_))
 simp only [go_sem, simprocAttr, h0, h1, h5, hi, hq]
 repeat' (refine And.intro (by first | rfl | omega) ?_)
 refine hK _ _ (.mk (awl_live' [0, 1, 5, 370] fun ρ hL => ?_))
 simp only [go_sem, simprocAttr, h0, h1, h5] at hL
 obtain ⟨h0, h1, h5, hx⟩ := hL
 refine awl_cond hx (fun c1 => absurd c1 (by simp)) (fun _ => awl_skip ?_)
 clear hx
 have w := stepV g (u := (s + 31)) (v := s + 32) (by omega) (by omega) (by omega)
 refine awl_seq (awl_regS _ rfl fun K hK => ?_)
 simp only [go_sem, simprocAttr, h0, h1, h5, w]
 refine hK _ _ (.mk (awl_live' [0, 1, 5] fun ρ hL => ?_))
 simp only [go_sem, simprocAttr, h0, h1, h5, w] at hL
 exact next ρ hL
set_option maxRecDepth 100000 in
theorem seE32 (g : gV z t s i) (h : eV z t c i (s + 32) ρ) (next : ∀ ρ, eV z t c i (s + 33) ρ → awpL Tryz.prog 0 (cE Tryz.f84 66 :: cs) Q ρ []) :
 awpL Tryz.prog 0 (cE Tryz.f84 64 :: cs) Q ρ [] := by
 obtain ⟨h0, h1, h5⟩ := h; have hi := g.1; have hq := seeQ32 hi g.2.1
 refine awl_seq (awl_seq (awl_regS _ rfl fun K hK => ?_))
 simp only [go_sem, simprocAttr, h0, h1, h5, hi, hq]
 repeat' (refine And.intro (by first | rfl | omega) ?_)
 refine hK _ _ (.mk (awl_live' [0, 1, 5, 382] fun ρ hL => ?_))
 simp only [go_sem, simprocAttr, h0, h1, h5] at hL
 obtain ⟨h0, h1, h5, hx⟩ := hL
 refine awl_cond hx (fun c1 => absurd c1 (by simp)) (fun _ => awl_skip ?_)
 clear hx
 have w := stepV g (u := (s + 32)) (v := s + 33) (by omega) (by omega) (by omega)
 refine awl_seq (awl_regS _ rfl fun K hK => ?_)
 simp only [go_sem, simprocAttr, h0, h1, h5, w]
 refine hK _ _ (.mk (awl_live' [0, 1, 5] fun ρ hL => ?_))
 simp only [go_sem, simprocAttr, h0, h1, h5, w] at hL
 exact next ρ hL
set_option maxRecDepth 100000 in
theorem seE33 (g : gV z t s i) (h : eV z t c i (s + 33) ρ) (next : ∀ ρ, eV z t c i (s + 34) ρ → awpL Tryz.prog 0 (cE Tryz.f84 68 :: cs) Q ρ []) :
 awpL Tryz.prog 0 (cE Tryz.f84 66 :: cs) Q ρ [] := by
 obtain ⟨h0, h1, h5⟩ := h; have hi := g.1; have hq := seeQ33 hi g.2.1
 refine awl_seq (awl_seq (awl_regS _ rfl fun K hK => ?_))
 simp only [go_sem, simprocAttr, h0, h1, h5, hi, hq]
 repeat' (refine And.intro (by first | rfl | omega) ?_)
 refine hK _ _ (.mk (awl_live' [0, 1, 5, 392] fun ρ hL => ?_))
 simp only [go_sem, simprocAttr, h0, h1, h5] at hL
 obtain ⟨h0, h1, h5, hx⟩ := hL
 refine awl_cond hx (fun c1 => absurd c1 (by simp)) (fun _ => awl_skip ?_)
 clear hx
 have w := stepV g (u := (s + 33)) (v := s + 34) (by omega) (by omega) (by omega)
 refine awl_seq (awl_regS _ rfl fun K hK => ?_)
 simp only [go_sem, simprocAttr, h0, h1, h5, w]
 refine hK _ _ (.mk (awl_live' [0, 1, 5] fun ρ hL => ?_))
 simp only [go_sem, simprocAttr, h0, h1, h5, w] at hL
 exact next ρ hL
set_option maxRecDepth 100000 in
theorem seE34 (g : gV z t s i) (h : eV z t c i (s + 34) ρ) (next : ∀ ρ, eV z t c i (s + 35) ρ → awpL Tryz.prog 0 (cE Tryz.f84 70 :: cs) Q ρ []) :
 awpL Tryz.prog 0 (cE Tryz.f84 68 :: cs) Q ρ [] := by
 obtain ⟨h0, h1, h5⟩ := h; have hi := g.1; have hq := seeQ34 hi g.2.1
 refine awl_seq (awl_seq (awl_regS _ rfl fun K hK => ?_))
 simp only [go_sem, simprocAttr, h0, h1, h5, hi, hq]
 repeat' (refine And.intro (by first | rfl | omega) ?_)
 refine hK _ _ (.mk (awl_live' [0, 1, 5, 402] fun ρ hL => ?_))
 simp only [go_sem, simprocAttr, h0, h1, h5] at hL
 obtain ⟨h0, h1, h5, hx⟩ := hL
 refine awl_cond hx (fun c1 => absurd c1 (by simp)) (fun _ => awl_skip ?_)
 clear hx
 have w := stepV g (u := (s + 34)) (v := s + 35) (by omega) (by omega) (by omega)
 refine awl_seq (awl_regS _ rfl fun K hK => ?_)
 simp only [go_sem, simprocAttr, h0, h1, h5, w]
 refine hK _ _ (.mk (awl_live' [0, 1, 5] fun ρ hL => ?_))
 simp only [go_sem, simprocAttr, h0, h1, h5, w] at hL
 exact next ρ hL
set_option maxRecDepth 100000 in
theorem seE35 (g : gV z t s i) (h : eV z t c i (s + 35) ρ) (next : ∀ ρ, eV z t c i (s + 36) ρ → awpL Tryz.prog 0 (cE Tryz.f84 72 :: cs) Q ρ []) :
 awpL Tryz.prog 0 (cE Tryz.f84 70 :: cs) Q ρ [] := by
 obtain ⟨h0, h1, h5⟩ := h; have hi := g.1; have hq := seeQ35 hi g.2.1
 refine awl_seq (awl_seq (awl_regS _ rfl fun K hK => ?_))
 simp only [go_sem, simprocAttr, h0, h1, h5, hi, hq]
 repeat' (refine And.intro (by first | rfl | omega) ?_)
 refine hK _ _ (.mk (awl_live' [0, 1, 5, 414] fun ρ hL => ?_))
 simp only [go_sem, simprocAttr, h0, h1, h5] at hL
 obtain ⟨h0, h1, h5, hx⟩ := hL
 refine awl_cond hx (fun c1 => absurd c1 (by simp)) (fun _ => awl_skip ?_)
 clear hx
 have w := stepV g (u := (s + 35)) (v := s + 36) (by omega) (by omega) (by omega)
 refine awl_seq (awl_regS _ rfl fun K hK => ?_)
 simp only [go_sem, simprocAttr, h0, h1, h5, w]
 refine hK _ _ (.mk (awl_live' [0, 1, 5] fun ρ hL => ?_))
 simp only [go_sem, simprocAttr, h0, h1, h5, w] at hL
 exact next ρ hL
set_option maxRecDepth 100000 in
theorem seE36 (g : gV z t s i) (h : eV z t c i (s + 36) ρ) (next : ∀ ρ, eV z t c i (s + 37) ρ → awpL Tryz.prog 0 (cE Tryz.f84 74 :: cs) Q ρ []) :
 awpL Tryz.prog 0 (cE Tryz.f84 72 :: cs) Q ρ [] := by
 obtain ⟨h0, h1, h5⟩ := h; have hi := g.1; have hq := seeQ36 hi g.2.1
 refine awl_seq (awl_seq (awl_regS _ rfl fun K hK => ?_))
 simp only [go_sem, simprocAttr, h0, h1, h5, hi, hq]
 repeat' (refine And.intro (by first | rfl | omega) ?_)
 refine hK _ _ (.mk (awl_live' [0, 1, 5, 425] fun ρ hL => ?_))
 simp only [go_sem, simprocAttr, h0, h1, h5] at hL
 obtain ⟨h0, h1, h5, hx⟩ := hL
 refine awl_cond hx (fun c1 => absurd c1 (by simp)) (fun _ => awl_skip ?_)
 clear hx
 have w := stepV g (u := (s + 36)) (v := s + 37) (by omega) (by omega) (by omega)
 refine awl_seq (awl_regS _ rfl fun K hK => ?_)
 simp only [go_sem, simprocAttr, h0, h1, h5, w]
 refine hK _ _ (.mk (awl_live' [0, 1, 5] fun ρ hL => ?_))
 simp only [go_sem, simprocAttr, h0, h1, h5, w] at hL
 exact next ρ hL
set_option maxRecDepth 100000 in
theorem seE37 (g : gV z t s i) (h : eV z t c i (s + 37) ρ) (next : ∀ ρ, eV z t c i (s + 38) ρ → awpL Tryz.prog 0 (cE Tryz.f84 76 :: cs) Q ρ []) :
 awpL Tryz.prog 0 (cE Tryz.f84 74 :: cs) Q ρ [] := by
 obtain ⟨h0, h1, h5⟩ := h; have hi := g.1; have hq := seeQ37 hi g.2.1
 refine awl_seq (awl_seq (awl_regS _ rfl fun K hK => ?_))
 simp only [go_sem, simprocAttr, h0, h1, h5, hi, hq]
 repeat' (refine And.intro (by first | rfl | omega) ?_)
 refine hK _ _ (.mk (awl_live' [0, 1, 5, 436] fun ρ hL => ?_))
 simp only [go_sem, simprocAttr, h0, h1, h5] at hL
 obtain ⟨h0, h1, h5, hx⟩ := hL
 refine awl_cond hx (fun c1 => absurd c1 (by simp)) (fun _ => awl_skip ?_)
 clear hx
 have w := stepV g (u := (s + 37)) (v := s + 38) (by omega) (by omega) (by omega)
 refine awl_seq (awl_regS _ rfl fun K hK => ?_)
 simp only [go_sem, simprocAttr, h0, h1, h5, w]
 refine hK _ _ (.mk (awl_live' [0, 1, 5] fun ρ hL => ?_))
 simp only [go_sem, simprocAttr, h0, h1, h5, w] at hL
 exact next ρ hL
set_option maxRecDepth 100000 in
theorem seE38 (g : gV z t s i) (h : eV z t c i (s + 38) ρ) (next : ∀ ρ, eV z t c i (s + 39) ρ → awpL Tryz.prog 0 (cE Tryz.f84 78 :: cs) Q ρ []) :
 awpL Tryz.prog 0 (cE Tryz.f84 76 :: cs) Q ρ [] := by
 obtain ⟨h0, h1, h5⟩ := h; have hi := g.1; have hq := seeQ38 hi g.2.1
 refine awl_seq (awl_seq (awl_regS _ rfl fun K hK => ?_))
 simp only [go_sem, simprocAttr, h0, h1, h5, hi, hq]
 repeat' (refine And.intro (by first | rfl | omega) ?_)
 refine hK _ _ (.mk (awl_live' [0, 1, 5, 447] fun ρ hL => ?_))
 simp only [go_sem, simprocAttr, h0, h1, h5] at hL
 obtain ⟨h0, h1, h5, hx⟩ := hL
 refine awl_cond hx (fun c1 => absurd c1 (by simp)) (fun _ => awl_skip ?_)
 clear hx
 have w := stepV g (u := (s + 38)) (v := s + 39) (by omega) (by omega) (by omega)
 refine awl_seq (awl_regS _ rfl fun K hK => ?_)
 simp only [go_sem, simprocAttr, h0, h1, h5, w]
 refine hK _ _ (.mk (awl_live' [0, 1, 5] fun ρ hL => ?_))
 simp only [go_sem, simprocAttr, h0, h1, h5, w] at hL
 exact next ρ hL
set_option maxRecDepth 100000 in
theorem seE39 (g : gV z t s i) (h : eV z t c i (s + 39) ρ) (next : ∀ ρ, eV z t c i (s + 40) ρ → awpL Tryz.prog 0 cs Q ρ []) :
 awpL Tryz.prog 0 (cE Tryz.f84 78 :: cs) Q ρ [] := by
 obtain ⟨h0, h1, h5⟩ := h; have hi := g.1; have hq := seeQ39 hi g.2.1
 refine awl_seq (awl_seq (awl_regS _ rfl fun K hK => ?_))
 simp only [go_sem, simprocAttr, h0, h1, h5, hi, hq]
 repeat' (refine And.intro (by first | rfl | omega) ?_)
 refine hK _ _ (.mk (awl_live' [0, 1, 5, 458] fun ρ hL => ?_))
 simp only [go_sem, simprocAttr, h0, h1, h5] at hL
 obtain ⟨h0, h1, h5, hx⟩ := hL
 refine awl_cond hx (fun c1 => absurd c1 (by simp)) (fun _ => awl_skip ?_)
 clear hx
 have w := stepV g (u := (s + 39)) (v := s + 40) (by omega) (by omega) (by omega)
 refine awl_regS _ rfl fun K hK => ?_
 simp only [go_sem, simprocAttr, h0, h1, h5, w]
 refine hK _ _ (.mk (awl_live' [0, 1, 5] fun ρ hL => ?_))
 simp only [go_sem, simprocAttr, h0, h1, h5, w] at hL
 exact next ρ hL
end
theorem sat_laws_heldEntryS (z : Nat) (t : Int) (c : Nat) (hb : z ≤ 1099511627776) (ht : 0 ≤ t ∧ t ≤ 1099511627776) : Sat Tryz.prog 84 [.sl z c (rows (mrow markQ 40 t z)), .int .i64 t] [] (.int .i64 (t + (40 * z : Nat))) [] := by
 have hX := trivial
 refine sat_mk [.tmp 4] 0 462 Tryz.call84 Tryz.func84 Tryz.ntmps84 rfl rfl rfl rfl rfl ?_
 refine zI [0, 1] ?_
 refine zS [0, 1] ?_
 refine zS [0, 1, 5] ?_
 intro ρ hL
 have e1 := hL
 refine awl_loopH (fun H0 n σ G => ∃ (i : Nat), n = z - i ∧ (i ≤ z) ∧ (liveE [0] σ ρ ∧ σ 1 = .int .i64 (t + (40 * i : Nat)) ∧ σ 5 = .int .i64 (i : Int)) ∧ G = H0) (fun H0 σ G => (σ 1 = .int .i64 (t + (40 * z : Nat))) ∧ G = H0) ((fun (i : Nat) => z - i) 0) ?init1 (fun n ρ G hI => ?round1) (fun ρ G hJ => ?after1)
 case init1 => exact ⟨0, rfl, (Nat.zero_le _), ⟨liveE_refl _ _, (by rw [hL.2.1]; simp), (hL.2.2)⟩, rfl⟩
 case round1 =>
  clear hL
  obtain ⟨i, hn, i1_0, hL, hG⟩ := hI
  subst hG
  try simp only [go_sem, simprocAttr, e1, hX] at hL
  revert ρ hL
  refine zS [0, 1, 5, 9] ?_
  refine zC ?_ ?_
  · intro c1
    have hi1 : i < z := by omega
    replace hX := And.intro hi1 hX
    intro ρ hL
    refine awl_skip ?_
    refine awl_seq ?_
    refine awl_block fun R1 hw1 hR1 => ?_
    have h0 := hL.1
    have h1 := hL.2.1
    have h5 := hL.2.2.1
    have h9 := hL.2.2.2
    clear hL
    obtain ⟨s, hs⟩ : ∃ s : Int, s = t + (40 * i : Nat) := ⟨_, rfl⟩
    rw [← hs] at h1
    have gg : gV z t s i := ⟨hi1, hs, hb, ht⟩
    have he : eV z t c i s ρ := ⟨h0, h1, h5⟩
    refine seE0 gg he fun ρ he => ?_
    refine seE1 gg he fun ρ he => ?_
    refine seE2 gg he fun ρ he => ?_
    refine seE3 gg he fun ρ he => ?_
    refine seE4 gg he fun ρ he => ?_
    refine seE5 gg he fun ρ he => ?_
    refine seE6 gg he fun ρ he => ?_
    refine seE7 gg he fun ρ he => ?_
    refine seE8 gg he fun ρ he => ?_
    refine seE9 gg he fun ρ he => ?_
    refine seE10 gg he fun ρ he => ?_
    refine seE11 gg he fun ρ he => ?_
    refine seE12 gg he fun ρ he => ?_
    refine seE13 gg he fun ρ he => ?_
    refine seE14 gg he fun ρ he => ?_
    refine seE15 gg he fun ρ he => ?_
    refine seE16 gg he fun ρ he => ?_
    refine seE17 gg he fun ρ he => ?_
    refine seE18 gg he fun ρ he => ?_
    refine seE19 gg he fun ρ he => ?_
    refine seE20 gg he fun ρ he => ?_
    refine seE21 gg he fun ρ he => ?_
    refine seE22 gg he fun ρ he => ?_
    refine seE23 gg he fun ρ he => ?_
    refine seE24 gg he fun ρ he => ?_
    refine seE25 gg he fun ρ he => ?_
    refine seE26 gg he fun ρ he => ?_
    refine seE27 gg he fun ρ he => ?_
    refine seE28 gg he fun ρ he => ?_
    refine seE29 gg he fun ρ he => ?_
    refine seE30 gg he fun ρ he => ?_
    refine seE31 gg he fun ρ he => ?_
    refine seE32 gg he fun ρ he => ?_
    refine seE33 gg he fun ρ he => ?_
    refine seE34 gg he fun ρ he => ?_
    refine seE35 gg he fun ρ he => ?_
    refine seE36 gg he fun ρ he => ?_
    refine seE37 gg he fun ρ he => ?_
    refine seE38 gg he fun ρ he => ?_
    refine seE39 gg he fun ρ he => ?_
    obtain ⟨h0, h1, h5⟩ := he
    have hL := And.intro h0 (And.intro h1 h5)
    clear h0 h1 h5
    refine awl_nil ?_
    refine blk_normal (hR1 _ _ (.mk ?_))
    have w1 : IntKind.i64.wrap ((i : Int) + 1) = ((i + 1 : Nat) : Int) := by rw [wrap64 (by omega)]; omega
    replace hX := And.intro w1 hX
    revert ρ hL
    refine zS [0, 1, 5] ?_
    intro ρ hL
    refine awl_nil ?_
    have h1 := hL.2.1
    refine loop_again _ ?meas ⟨i + 1, rfl, (by omega), ⟨(by simp only [go_sem, simprocAttr, hL, hX, e1]), (by rw [h1]; congr 1; omega), (hL.2.2)⟩, rfl⟩
    case meas => subst hn; omega
  · intro c1
    intro ρ hL
    refine awl_exit ?_
    refine loop_break ?_
    have h1 := hL.2.1
    exact ⟨(by rw [h1, show i = z by omega]), rfl⟩
 case after1 =>
  clear hL
  obtain ⟨hL, hG⟩ := hJ
  subst hG
  revert ρ hL
  refine zS [4] ?_
  refine zR ?_
  try simp only [go_sem, simprocAttr]
  all_goals try clear hR1
  all_goals (first | done | rfl | (simp; done) | (simp [inR]; done) | (simp_all [inR]; done) | (simp [inR]; grind))
section
attribute [local go_sem] Mem.marked Stt.marked Cor.markedQ mrow_len marks_len
theorem sat_laws_heldCore (c : Cor) (t : Int) (hf : c.fit) (ht : 0 ≤ t ∧ t ≤ 1099300000000) : Sat Tryz.prog 37 [.agg (Cor.cells (c.markedQ t)), .int .i64 t] [] (.int .i64 (t + (c.cost : Nat))) [] := by
 have hX := trivial
 refine sat_mk [.tmp 4] 0 24 Tryz.call37 Tryz.func37 Tryz.ntmps37 rfl rfl rfl rfl rfl ?_
 refine zI [0, 1] ?_
 refine zS [1, 2] ?_
 refine zSF [1, 2] (sat_laws_heldState c.s t hf.1 (by omega)) ?_
 refine zS [1, 2, 10] ?_
 refine zQ ?_ ?_
 · intro c1
   try simp only [cnd] at c1
   omega
 · intro c1
   try simp only [cnd] at c1
   intro ρ hL
   refine awl_skip ?_
   revert ρ hL
   refine zSF [1, 2] (sat_laws_heldEntryS c.rob.length (t + (c.s.cost : Nat)) c.rob.length (Nat.le_trans hf.2.1 (by decide)) (by have := Stt.cost_le hf.1; omega)) ?_
   refine zS [1, 2, 16] ?_
   refine zQ ?_ ?_
   · intro c2
     try simp only [cnd] at c2
     omega
   · intro c2
     try simp only [cnd] at c2
     intro ρ hL
     refine awl_skip ?_
     revert ρ hL
     refine zSF [1] (sat_laws_heldIntS c.guesses.length (t + (c.s.cost : Nat) + (40 * c.rob.length : Nat)) c.guesses.length (Nat.le_trans hf.2.2 (by decide)) (by have := Stt.cost_le hf.1; have := hf.2.1; omega)) ?_
     refine zS [1, 22] ?_
     refine zQ ?_ ?_
     · intro c3
       try simp only [cnd] at c3
       omega
     · intro c3
       try simp only [cnd] at c3
       intro ρ hL
       refine awl_skip ?_
       revert ρ hL
       refine zS [4] ?_
       refine zR ?_
       try simp only [go_sem, simprocAttr]
       all_goals (first | done | rfl | (congr 1; simp only [Mem.cost, Stt.cost, Cor.cost]; omega))
end
end Go.Proofs.YtgpjgljgplngpaaGreatDoor.AM
