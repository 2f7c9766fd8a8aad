/- A byte of what is given. No conditions but those each theorem bears. -/
import Derived.Test.YtdifphcihhbjlaaGreatFa
import Derived.Test.YtdifphcihhbjlaaGreatM7
import Derived.Test.YtdifphcihhbjlaaGreatCb1
import Derived.Test.YtdifphcihhbjlaaGreatCa60
set_option linter.unusedSimpArgs false
set_option linter.unusedVariables false
namespace Go.Proofs.YtdifphcihhbjlaaGreat.AM
open Go
set_option maxHeartbeats 8000000
set_option maxRecDepth 100000

theorem sat_laws_at (bs : List UInt8) (hb : bs.length ≤ 1048576) : ∃ (x : Int), (0 ≤ x) ∧ Sat Tryz.prog 36 [.sl bs.length bs.length (bytesV bs), .int .i64 1] [] (.int .i64 x) [] := by
 suffices hE : ∃ zv zh, (∃ (x : Int), (0 ≤ x) ∧ zv = (.int .i64 x) ∧ zh = []) ∧ Sat Tryz.prog 36 [.sl bs.length bs.length (bytesV bs), .int .i64 1] [] zv zh from by
   obtain ⟨_, _, ⟨x, hq, rfl, rfl⟩, hs⟩ := hE
   exact ⟨x, hq, hs⟩
 have hX := trivial
 refine sat_ex [.tmp 4] 0 20 Tryz.call36 Tryz.func36 Tryz.ntmps36 rfl rfl rfl rfl rfl ?_
 refine zI [0, 1] ?_
 refine zS [0, 1] ?_
 refine zS [0, 1, 8] ?_
 refine zC ?_ ?_
 · intro c1
   have hn : 1 < bs.length := by omega
   have hX0 := hX
   replace hX := And.intro hn hX
   refine zS [4] ?_
   clear hX
   have hX := hX0
   clear hX0
   refine zX [] [] ?_
   refine ⟨?y1_0, ?hq1, ?hv1, ?hh1⟩
   case hv1 => (try simp only [go_sem, simprocAttr, hX]); first | done | rfl
   case hh1 => (try simp only [go_sem, simprocAttr, hX]); first | done | rfl
   all_goals (rw [wrap64 (by have := (bs.getD 1 0).toNat_lt; omega)]; omega)
 · intro c1
   intro ρ hL
   refine awl_skip ?_
   have w7 : IntKind.i64.wrap (7 + (bs.length : Int)) = 7 + (bs.length : Int) := wrap64 (by omega)
   have w8 : IntKind.i64.wrap 7 = 7 := by decide
   have hX0 := hX
   replace hX := And.intro w7 (And.intro w8 hX)
   revert ρ hL
   refine zS [4] ?_
   clear hX
   have hX := hX0
   clear hX0
   refine zX [] [] ?_
   refine ⟨?y2_0, ?hq2, ?hv2, ?hh2⟩
   case hv2 => (try simp only [go_sem, simprocAttr, hX]); first | done | rfl
   case hh2 => (try simp only [go_sem, simprocAttr, hX]); first | done | rfl
   all_goals (exact Int.tmod_nonneg _ (by omega))
end Go.Proofs.YtdifphcihhbjlaaGreat.AM
