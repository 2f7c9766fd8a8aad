/- More on keys of states and cores. No conditions. -/
import Derived.Test.YtgddflnhibhacaaSp8
set_option linter.unusedVariables false
set_option linter.unusedSimpArgs false
namespace Go.Proofs.Ytgddflnhibhacaa.AM
open Go

theorem keys_len {s : Stt} (h : s.fit) : (keys s).length ≤ 4194304 := by
  rw [keys_eq]
  refine Nat.le_trans keysOf_len ?_
  have := h.1; have := h.2.1
  simp
  omega
section
variable {s n : Nat} {t : Int}
theorem mrow_takeW {f : Int → Word} : (rows (mrow f s t n)).take (n * 6) = rows (mrow f s t n) := words_takeL mrow_len.symm
theorem mrow_takeE {f : Int → Ent} : (rows (mrow f s t n)).take (n * 40) = rows (mrow f s t n) := by
  rw [ents_takeN, List.take_of_length_le (by rw [mrow_len]; exact Nat.le_refl _)]
theorem mrow_takeI {f : Int → Ins} : (rows (mrow f s t n)).take (n * 5) = rows (mrow f s t n) := by
  have := inss_take (xs := mrow f s t n)
  rwa [mrow_len] at this
theorem mrow_takeB {f : Int → Bool} : (rows (mrow f s t n)).take n = rows (mrow f s t n) := by
  have := bools_take (xs := mrow f s t n)
  rwa [mrow_len] at this
end
attribute [go_sem] mrow_takeW mrow_takeE mrow_takeI mrow_takeB
end Go.Proofs.Ytgddflnhibhacaa.AM
