/- The law Session. No conditions but those each theorem bears. -/
import Derived.Test.YtgpjgljgplngpaaGreatDoorFa
import Derived.Test.YtgpjgljgplngpaaGreatDoorCa93
set_option linter.unusedSimpArgs false
set_option linter.unusedVariables false
namespace Go.Proofs.YtgpjgljgplngpaaGreatDoor.AM
open Go
set_option maxHeartbeats 8000000
set_option maxRecDepth 100000
section
attribute [local go_sem] bt_size
theorem sat_laws_FnExactSession (t : Bs) (l : Bs)  : Sat Tryz.prog 4 [.str (bt t), .str (bt l)] [] (.bool true) [] := by
 have hX := trivial
 refine sat_mk [.tmp 4] 0 35 Tryz.call4 Tryz.func4 Tryz.ntmps4 rfl rfl rfl rfl rfl ?_
 refine zI [0, 1] ?_
 refine zS [0, 1] ?_
 refine zS [0, 1, 11] ?_
 refine zC ?_ ?_
 ·intro c1
  refine zS [4] ?_
  refine zR ?_
  try simp only [go_sem, simprocAttr]
  all_goals (rfl)
 ·intro c1 ρ hL
  refine awl_skip ?_
  revert ρ hL
  refine zS [0, 1, 14] ?_
  refine zC ?_ ?_
  ·intro c2
   refine zS [4] ?_
   refine zR ?_
   try simp only [go_sem, simprocAttr]
   all_goals (rfl)
  ·intro c2 ρ hL
   refine awl_skip ?_
   revert ρ hL
   refine zSF [0, 1, 5, 6] (sat_spec_Session t l (by omega) (by omega)) ?_
   refine zSF [5, 6, 7, 8] (sat_impl_Session t l (by omega) (by omega)) ?_
   intro ρ hL
   refine zA ?_
   intro K hK
   refine zL [6, 8, 30] ?_
   clear hL
   intro ρ hL
   refine grp_orN (v := ?v1) 3 rfl [] hL.2.2 rfl (fun hb K1 hK1 => ?run) (fun hb => skA (want := false) (b := _) (by rw [hb]; rfl) hL.2.2 rfl) (fun ρ hP hM => ?_)
   case run => exact zR1
   simp only [List.drop_succ_cons, List.drop_zero]
   clear hM hL
   have hL := hP
   clear hP
   try simp only [go_sem, simprocAttr, hL, hX]
   repeat' refine And.intro (by first | rfl | omega | (simp; done)) ?_
   refine zE [34] ?_
   clear hK K hL
   refine zC ?_ ?_
   ·intro c3
    first | done | (simp at c3; done) | (simp at c3; omega) | omega
   ·intro c3 ρ hL
    refine awl_skip ?_
    revert ρ hL
    refine zS [4] ?_
    refine zR ?_
    try simp only [go_sem, simprocAttr]
    all_goals (rfl)
end
end Go.Proofs.YtgpjgljgplngpaaGreatDoor.AM
