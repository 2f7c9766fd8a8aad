/- What the listed package variables hold when a law begins (the table, two errors; utf8.first is pinned). No conditions. -/
import Derived.Test.YtgpjgljgplngpaaGreatDoorRows
import Derived.Test.YtgpjgljgplngpaaGreatDoorM1
import Derived.Test.YtgpjgljgplngpaaGreatDoorM2
import Derived.Lib.LaidTab
import Derived.Lib.ItoaNum
import Derived.Stop.LaidErr
import Derived.MakeChecks
import Derived.ChangeMaps5
import Derived.LaidLaws
import Derived.LaidMore
import Derived.LaidHandle
import Derived.Lib.LaidU8
set_option linter.unusedVariables false
set_option linter.unusedSimpArgs false
namespace Go.Proofs.YtgpjgljgplngpaaGreatDoor.AM
open Go
theorem heap_of_var {P : Program} {W : World} {n : String} {g : Nat} {cs : Array Value} (hg : P.globalNamed n = some g) (h : W.var? P n = some cs) : g < W.heap.size ∧ ∃ e fz, W.heap[g]? = some (.cells cs e fz) := by
 simp only [World.var?, hg, Option.bind_some] at h
 split at h
 ·rename_i c e fz hc
  obtain rfl := Option.some.inj h
  refine ⟨?_, e, fz, hc⟩
  rcases Nat.lt_or_ge g W.heap.size with h' | h'
  ·exact h'
  ·rw [Array.getElem?_eq_none h'] at hc; cases hc
 ·cases h
theorem tab_is {rest : List (String × DataW Unit)} {W : World} (h : laidMet Tryz.prog (("internal/strconv.uint64pow10", Rows.laid_internal_strconv_uint64pow10) :: rest) W) : Lib.TabIs Tryz.prog W "internal/strconv.uint64pow10" .u64 Lib.pow10Tab := by
 have e : (Rows.laid_internal_strconv_uint64pow10 : DataW Unit) = Lib.tabData .u64 Lib.pow10Tab := by kernel_rfl
 rw [e] at h
 exact Lib.tabIs_of_head (g := 5) (t := 267) (e := 210) (n := 20) (by kernel_rfl) (by kernel_rfl) Tryz.underlying267 Tryz.underlying210 (by kernel_rfl) (by kernel_rfl) h
theorem err_is {n nm : String} {d : DataW Unit} {rest : List (String × DataW Unit)} {W : World} {g ti : Nat} {ms : Array (String × TypeId)} (h : laidMet Tryz.prog ((n, .iface nm d) :: rest) W) (hg : Tryz.prog.globalNamed n = some g) (ht : (Tryz.prog.globals[g]?).map (·.type) = some ti) (hi : Tryz.prog.underlying ti = some (.interface ms)) :
 g < W.heap.size ∧ ∃ cs e fz, W.heap[g]? = some (.cells cs e fz) ∧ ∃ t x, cs[0]? = some (.iface t x) := by
 obtain ⟨ps, ⟨g0, t0, cs0, f0, p0, q0, hg0, ht0, hv0, hd0, _, _⟩, _⟩ := h
 obtain rfl := Option.some.inj (hg.symm.trans hg0)
 obtain rfl := Option.some.inj (ht.symm.trans ht0)
 obtain ⟨f1, u, v, hc, _⟩ := iface_of_trod hi hd0
 obtain ⟨h1, e, fz, h2⟩ := heap_of_var hg hv0
 refine ⟨h1, _, e, fz, h2, u, v, ?_⟩
 obtain ⟨l⟩ := cs0
 simp only at hc
 subst hc
 rfl
abbrev laidF : List (String × DataW Unit) := [("math/bits.deBruijn32tab", Rows.laid_math_bits_deBruijn32tab), ("math/bits.deBruijn64tab", Rows.laid_math_bits_deBruijn64tab), ("internal/strconv.uint64pow10", Rows.laid_internal_strconv_uint64pow10), ("unicode/utf8.acceptRanges", Rows.laid_unicode_utf8_acceptRanges), ("strconv.ErrRange", Rows.laid_strconv_ErrRange), ("strconv.ErrSyntax", Rows.laid_strconv_ErrSyntax), ("unicode/utf8.first", Rows.laid_unicode_utf8_first)]
theorem gr_of {W : World} (h : laidMetH Tryz.prog laidF W) : GR (fun c => c < W.heap.size) W := by
 rw [MakeChecks.laidMetH_plain _ _ _ (by kernel_rfl)] at h
 obtain ⟨h1, e, fz, h2⟩ := heap_of_var (g := 5) (by kernel_rfl) (tab_is h.tail.tail)
 obtain ⟨r1, rc, re, rf, r2, r3⟩ := err_is (g := 2) (h.tail.tail.tail.tail) (by kernel_rfl) (by kernel_rfl) Tryz.underlying159
 obtain ⟨s1, sc, se, sf, s2, s3⟩ := err_is (g := 1) (h.tail.tail.tail.tail.tail) (by kernel_rfl) (by kernel_rfl) Tryz.underlying159
 intro x hx
 unfold gtab at hx
 rcases List.mem_cons.1 hx with rfl | hx
 ·exact ⟨h1, _, e, fz, h2, show (_ : Array Value) = _ by kernel_rfl⟩
 rcases List.mem_cons.1 hx with rfl | hx
 ·exact ⟨s1, _, se, sf, s2, s3⟩
 obtain rfl := List.mem_singleton.1 hx
 exact ⟨r1, _, re, rf, r2, r3⟩
noncomputable def doorW (os : Os) : World :=
 { World.doorLaid Tryz.prog 400 os with heap := (World.doorLaid Tryz.prog 400 os).heap.modify 3 fun
  | .cells _ t frozen => .cells (Lib.firstTab.map fun z => Value.int .u8 z).toArray t frozen
  | o => o }
theorem door_met (os : Os) (args : Array Value) : laidMetH Tryz.prog laidF ((doorW os).forCall (fun _ _ => 0) ⟨#[], args, []⟩).memory :=
 laidMetH_of_parts3 (fuel := 8) (laidMet_of_run' 8 (by kernel_rfl) (by kernel_rfl)) (by kernel_rfl) (by kernel_rfl)
end Go.Proofs.YtgpjgljgplngpaaGreatDoor.AM
