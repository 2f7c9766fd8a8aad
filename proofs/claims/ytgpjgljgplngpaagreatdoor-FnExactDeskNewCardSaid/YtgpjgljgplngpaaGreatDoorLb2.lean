/- A number's text: what the library does, said of the abstract machine. No conditions. -/
import Derived.Test.YtgpjgljgplngpaaGreatDoorSh
import Derived.Test.YtgpjgljgplngpaaGreatDoorTx2
import Derived.Test.YtgpjgljgplngpaaGreatDoorLb1
set_option linter.unusedVariables false
set_option linter.unusedSimpArgs false
namespace Go.Proofs.YtgpjgljgplngpaaGreatDoor.AM
open Go

theorem gr_tab {F : Nat → Prop} {w : World} (hG : GR F w) : Lib.TabIs Tryz.prog w "internal/strconv.uint64pow10" .u64 Lib.pow10Tab := by
  obtain ⟨_, cs, e, fz, h2, h3⟩ := hG _ (by unfold gtab; exact List.mem_cons_self)
  have hn : Tryz.prog.globalNamed "internal/strconv.uint64pow10" = some 5 := by kernel_rfl
  simp only at h2 h3
  simp only [Lib.TabIs, World.var?, hn, Option.bind_some, h2]
  rw [h3]
  rfl
theorem sat_strconv_Itoa (n : Int) (h : -9223372036854775808 ≤ n ∧ n ≤ 9223372036854775807) : Sat Tryz.prog 98 [.int .i64 n] [] (.str (bt (itoa n))) [] :=
  sat_lib Tryz.call98 fun F ι w cargs hG ha => by
    obtain rfl := vrl_int ha
    refine ⟨.string (bt (itoa n)), by simp [VR], (Any.strconv_Itoa Tryz.laysM171 n h.1 h.2 w (gr_tab hG)).mono ?_⟩
    rintro e w' ⟨rfl, k, os, rfl⟩
    exact ⟨rfl, Lib.below_grow w.heap.size w (Nat.le_refl _) k os⟩
end Go.Proofs.YtgpjgljgplngpaaGreatDoor.AM
