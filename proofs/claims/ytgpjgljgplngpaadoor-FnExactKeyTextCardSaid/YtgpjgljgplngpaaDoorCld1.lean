/- The law KeyText. No conditions but those each theorem bears. -/
import Derived.Test.YtgpjgljgplngpaaDoorFa
import Derived.Test.YtgpjgljgplngpaaDoorCa70
set_option linter.unusedSimpArgs false
set_option linter.unusedVariables false
namespace Go.Proofs.YtgpjgljgplngpaaDoor.AM
open Go
set_option maxHeartbeats 8000000
set_option maxRecDepth 100000

theorem sat_laws_FnExactKeyText (k : Key)  : Sat Tryd.prog 3 [.agg k.cells] [] (.bool true) [] := by
 have hX := trivial
 refine sat_mk [.tmp 2] 0 14 Tryd.call3 Tryd.func3 Tryd.ntmps3 rfl rfl rfl rfl rfl ?_
 refine zI [0] ?_
 refine zS [1] ?_
 intro ρ hL
 refine zA ?_
 intro K hK
 refine zF (sat_laws_toKey _) ?_
 refine zF (sat_spec_KeyText _) ?_
 refine zE [1, 3] ?_
 clear hK K hL
 intro ρ hL
 refine zA ?_
 intro K hK
 refine zF (sat_laws_toKey _) ?_
 refine zF (sat_impl_KeyText _) ?_
 refine zE [3, 4] ?_
 clear hK K hL
 refine zS [13] ?_
 refine zQ ?_ ?_
 · intro c1
   try simp only [cnd] at c1
   simp at c1
 · intro c1
   try simp only [cnd] at c1
   intro ρ hL
   refine awl_skip ?_
   revert ρ hL
   refine zS [2] ?_
   refine zR ?_
   try simp only [go_sem, simprocAttr]
   all_goals (rfl)
end Go.Proofs.YtgpjgljgplngpaaDoor.AM
