/- What is drawn: numbers. What is drawn: keys and words. What is drawn: commands. What is drawn: memory and states. What is drawn: a state that steps have led to. No conditions but those each theorem bears. -/
import Derived.Test.YtgpjgljgplngpaaGreatDoorFa
import Derived.Test.YtgpjgljgplngpaaGreatDoorX3
import Derived.Test.YtgpjgljgplngpaaGreatDoorCb1
import Derived.Test.YtgpjgljgplngpaaGreatDoorCb2
import Derived.Test.YtgpjgljgplngpaaGreatDoorCb3
import Derived.Test.YtgpjgljgplngpaaGreatDoorCb5
set_option linter.unusedSimpArgs false
set_option linter.unusedVariables false
namespace Go.Proofs.YtgpjgljgplngpaaGreatDoor.AM
open Go
set_option maxHeartbeats 8000000
set_option maxRecDepth 100000
theorem sat_spec_KeyWord (k : Key) (n : Int)  : Sat Tryz.prog 69 [.agg k.cells, .int .i64 n] [] (.agg (keyWord k n).cells) [] := by
 have hX := trivial
 refine sat_mk [.cell 4 27] 0 14 Tryz.call69 Tryz.func69 Tryz.ntmps69 rfl rfl rfl rfl rfl ?_
 refine zI [0, 1] ?_
 refine zS [1, 2, 4] ?_
 refine zSF [2, 4, 5] (sat_spec_Plain _) ?_
 refine zSF [2, 4, 5, 9] (sat_spec_KeyOk _) ?_
 refine zC ?_ ?_
 ·intro c1
  refine zS [2, 4, 5] ?_
  refine zS [4, 5] ?_
  refine zS [4] ?_
  refine zR ?_
  try simp only [go_sem, simprocAttr]
  all_goals (rw [keyWord, if_pos c1] <;> rfl)
 ·intro c1 ρ hL
  refine awl_skip ?_
  revert ρ hL
  refine zS [4] ?_
  refine zR ?_
  try simp only [go_sem, simprocAttr]
  all_goals (rw [keyWord, if_neg (by rw [c1]; exact Bool.noConfusion)] <;> rfl)
theorem sat_spec_MemoryNew   : Sat Tryz.prog 68 [] [] (.agg (memNew.own 0 1)) memNew.blks := by
 have hX := trivial
 refine sat_mk [.cell 0 30] 0 4 Tryz.call68 Tryz.func68 Tryz.ntmps68 rfl rfl rfl rfl rfl ?_
 refine awl_live' [] fun ρ hL => ?_
 clear hL
 have hL := trivial
 refine zA ?_
 intro K hK
 refine zE [0] ?_
 clear hK K hL
 refine zD [0, 0, 3, 7] [0] ?_
 intro ρ hL
 refine awl_ret ?_
 refine retN (v := .agg [.slice 1 0 24 24, .slice 2 0 24 24]) [] [1, 2] [1, 2] rfl (by simp only [go_sem, simprocAttr, hL, hX]; exact rfl) (by first | rfl | (simp only [go_sem, simprocAttr, hL, hX]; first | done | rfl)) (Ref.agg (RefL.cons (Ref.cap _ _ _ _ 0 (Nat.zero_le _)) (RefL.cons (Ref.cap _ _ _ _ 0 (Nat.zero_le _)) (RefL.same [])))) rfl (by decide) rfl rfl ?_ ?_
 all_goals try simp only [go_sem, simprocAttr, hL, hX]
 all_goals (rfl)
end Go.Proofs.YtgpjgljgplngpaaGreatDoor.AM
