/- Keys read. No conditions but those each theorem bears. -/
import Derived.Test.YtgpjgljgplngpaaGreatDoorFa
import Derived.Test.YtgpjgljgplngpaaGreatDoorXL
import Derived.Test.YtgpjgljgplngpaaGreatDoorX1
import Derived.Test.YtgpjgljgplngpaaGreatDoorCa70
set_option linter.unusedSimpArgs false
set_option linter.unusedVariables false
namespace Go.Proofs.YtgpjgljgplngpaaGreatDoor.AM
open Go
set_option maxHeartbeats 8000000
set_option maxRecDepth 100000
section
attribute [local go_sem] mk_bt bt_app bt_fits bt_size bt_ext bt_bat List.length_cons List.length_nil List.take_length
theorem sat_internal_stringslite_Cut (l : Bs) (c : UInt8) (hl : l.length ≤ 1048576) : Sat Tryz.prog 129 [.str (bt l), .str (bt [c])] [] (.tuple [.str (bt (cutB l c).1), .str (bt (cutB l c).2.1), .bool (cutB l c).2.2]) [] := by
 have hX := trivial
 refine sat_mk [.tmp 4, .tmp 5, .tmp 6] 0 23 Tryz.call129 Tryz.func129 Tryz.ntmps129 rfl rfl rfl rfl rfl ?_
 refine zI [0, 1] ?_
 refine zS [0, 1] ?_
 refine zSF [0, 1, 7] (sat_slite_Index l c) ?_
 refine zS [0, 1, 7, 12] ?_
 refine zC ?_ ?_
 ·intro c1
  obtain ⟨q, hq⟩ := Int.eq_ofNat_of_zero_le (show 0 ≤ Lib.indexByte l c by simpa using c1)
  have hlt := index_lt (c := c) (l := l)
  intro ρ hL
  rw [hq] at hlt
  have s1 : (0 : Int) ≤ (q : Int) := by omega
  have s2 : (q : Int) ≤ (l.length : Int) := by omega
  have s3 : IntKind.i64.wrap ((q : Int) + 1) = ((q + 1 : Nat) : Int) := by rw [wrap64 (by omega)]; omega
  have s4 : (0 : Int) ≤ ((q + 1 : Nat) : Int) := by omega
  have s5 : ((q + 1 : Nat) : Int) ≤ (l.length : Int) := by omega
  revert ρ hL
  refine zDX [0, 0, 3, 0, 0, 0, 32, 112, 248, 7, 1023, 2047] [4, 5, 6] (And.intro hq (And.intro s1 (And.intro s2 (And.intro s3 (And.intro s4 (And.intro s5 hX)))))) ?_
  refine zR ?_
  try simp only [go_sem, simprocAttr]
  all_goals (rw [cutB, if_neg (by omega), hq]; try rfl)
 ·intro c1 ρ hL
  refine awl_skip ?_
  revert ρ hL
  refine zS [4, 5, 6] ?_
  refine zR ?_
  try simp only [go_sem, simprocAttr]
  all_goals (rw [cutB, if_pos (by simpa using c1)]; try rfl)
end
theorem sat_strings_Cut (l : Bs) (c : UInt8) (hl : l.length ≤ 1048576) : Sat Tryz.prog 70 [.str (bt l), .str (bt [c])] [] (.tuple [.str (bt (cutB l c).1), .str (bt (cutB l c).2.1), .bool (cutB l c).2.2]) [] := by
 have hX := trivial
 refine sat_mk [.tmp 4, .tmp 5, .tmp 6] 0 13 Tryz.call70 Tryz.func70 Tryz.ntmps70 rfl rfl rfl rfl rfl ?_
 refine zI [0, 1] ?_
 refine zS [0, 1] ?_
 refine zSF [4, 5, 6] (sat_internal_stringslite_Cut l c hl) ?_
 refine zR ?_
 try simp only [go_sem, simprocAttr]
 all_goals (rfl)
end Go.Proofs.YtgpjgljgplngpaaGreatDoor.AM
