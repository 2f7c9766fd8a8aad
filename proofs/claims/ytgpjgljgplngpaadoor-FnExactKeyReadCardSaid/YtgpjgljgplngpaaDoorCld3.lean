/- The law KeyRead. No conditions but those each theorem bears. -/
import Derived.Test.YtgpjgljgplngpaaDoorFa
import Derived.Test.YtgpjgljgplngpaaDoorCa73
import Derived.Test.YtgpjgljgplngpaaDoorCb1
set_option linter.unusedSimpArgs false
set_option linter.unusedVariables false
namespace Go.Proofs.YtgpjgljgplngpaaDoor.AM
open Go
set_option maxHeartbeats 8000000
set_option maxRecDepth 100000

section
attribute [local go_sem] bt_size
theorem sat_laws_FnExactKeyRead (l : Bs)  : Sat Tryd.prog 5 [.str (bt l)] [] (.bool true) [] := by
 have hX := trivial
 refine sat_mk [.tmp 2] 0 29 Tryd.call5 Tryd.func5 Tryd.ntmps5 rfl rfl rfl rfl rfl ?_
 refine zI [0] ?_
 refine zS [0] ?_
 refine zS [0, 9] ?_
 refine zC ?_ ?_
 · intro c1
   refine zS [2] ?_
   refine zR ?_
   try simp only [go_sem, simprocAttr]
   all_goals (rfl)
 · intro c1
   intro ρ hL
   refine awl_skip ?_
   revert ρ hL
   refine zSF [0, 3, 4] (sat_spec_KeyRead l (by omega)) ?_
   refine zSF [3, 4, 5, 6] (sat_impl_KeyRead l (by omega)) ?_
   intro ρ hL
   refine zA ?_
   intro K hK
   refine zF (sat_laws_eqKey (keyRead l).1 (keyRead l).1) ?_
   refine zL [4, 6, 24] ?_
   clear hL
   intro ρ hL
   refine grp_orN (tc := 24) (tv := 27) (td := 28) (v := ?v1) 3 rfl [] hL.2.2 rfl (fun hb K1 hK1 => ?run) (fun hb => ?skip) (fun ρ hP hM => ?_)
   case skip => exact skA (want := false) (b := _) (by rw [hb]; rfl) hL.2.2 rfl
   case run =>
    simp only [List.take_succ_cons, List.take_zero]
    rw [hb] at hL
    try simp only [go_sem, simprocAttr, hL, hX]
    repeat' refine And.intro (by first | rfl | omega | (simp; done)) ?_
    refine hK1 _ ?_ ?_ ?_ <;> simp only [go_sem, simprocAttr, hL, hX] <;> exact rfl
   simp only [List.drop_succ_cons, List.drop_zero]
   clear hM hL
   have hL := hP
   clear hP
   try simp only [go_sem, simprocAttr, hL, hX]
   repeat' refine And.intro (by first | rfl | omega | (simp; done)) ?_
   refine zE [28] ?_
   clear hK K hL
   refine zC ?_ ?_
   · intro c2
     first | done | (simp at c2; done) | (simp at c2; omega) | omega
   · intro c2
     intro ρ hL
     refine awl_skip ?_
     revert ρ hL
     refine zS [2] ?_
     refine zR ?_
     try simp only [go_sem, simprocAttr]
     all_goals (rfl)
end
end Go.Proofs.YtgpjgljgplngpaaDoor.AM
