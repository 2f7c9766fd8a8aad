/- What is drawn: commands. No conditions but those each theorem bears. -/
import Derived.Test.YteojcehneipgdaaGreatFa
import Derived.Test.YteojcehneipgdaaGreatM6
import Derived.Test.YteojcehneipgdaaGreatCa51
import Derived.Test.YteojcehneipgdaaGreatCa10
set_option linter.unusedSimpArgs false
set_option linter.unusedVariables false
namespace Go.Proofs.YteojcehneipgdaaGreat.AM
open Go
set_option maxHeartbeats 8000000
set_option maxRecDepth 100000

theorem sat_spec_l6DrawIns (c : Cu)  : ∃ (o r a b n : Int) (d : Cu), (True) ∧ Sat Tryz.prog 209 [.ptr 0 0] [⟨3, c.cells, true, false⟩] (.agg [.int .i64 o, .int .i64 r, .int .i64 a, .int .i64 b, .int .i64 n]) [⟨3, d.cells, true, false⟩] := by
 suffices hE : ∃ zv zh, (∃ (o r a b n : Int) (d : Cu), (True) ∧ zv = (.agg [.int .i64 o, .int .i64 r, .int .i64 a, .int .i64 b, .int .i64 n]) ∧ zh = [⟨3, d.cells, true, false⟩]) ∧ Sat Tryz.prog 209 [.ptr 0 0] [⟨3, c.cells, true, false⟩] zv zh from by
   obtain ⟨_, _, ⟨o, r, a, b, n, d, hq, rfl, rfl⟩, hs⟩ := hE
   exact ⟨o, r, a, b, n, d, hq, hs⟩
 have hX := trivial
 refine sat_ex [.cell 2 59] 1 47 Tryz.call209 Tryz.func209 Tryz.ntmps209 rfl rfl rfl rfl rfl ?_
 refine zI [0] ?_
 refine zS [0, 2] ?_
 obtain ⟨x1, c, hx1, hs1⟩ := sat_spec_l1Below c 4
 have hb1 := hx1.2.1 (by decide)
 obtain ⟨x2, c, hx2, hs2⟩ := sat_spec_l1Below c 4
 have hb2 := hx2.2.1 (by decide)
 obtain ⟨x3, c, hx3, hs3⟩ := sat_spec_l1Below c 4
 have hb3 := hx3.2.1 (by decide)
 obtain ⟨x4, c, hx4, hs4⟩ := sat_spec_l1PickInt c [0, 0, 1, 2, 3, -1, 20] (by simp)
 intro ρ hL
 refine zA ?_
 intro K hK
 refine zFJ [0] (hs1) ?_
 refine zFJ [0] (hs2) ?_
 refine zFJ [0] (hs3) ?_
 refine zFJ [0, 2] (hs4) ?_
 refine zE [0, 2, 3, 4, 5, 6] ?_
 clear hK K hL
 obtain ⟨x5, c, hx5, hs5⟩ := sat_spec_l1PickInt c [1, 1, 1, 2, 3, 4, 5, 5, 6, 6, 7, 8, 9, 10, 10, 10, 11, 11, 11, 12, 13, 13, 14, 15] (by simp)
 intro ρ hL
 refine zA ?_
 intro K hK
 refine zFJ [0, 3] (hs5) ?_
 refine zE [2, 3, 4, 5, 6, 7] ?_
 clear hK K hL
 refine zSF [2, 3, 4, 5, 6, 7, 8] (sat_spec_l6Has x5) ?_
 refine zS [2, 3, 4, 5, 6, 7, 8, 28] ?_
 refine zC ?_ ?_
 · intro c1
   refine zS [2, 4, 5, 6, 7, 8] ?_
   refine zS [2, 4, 5, 6, 7, 8, 33] ?_
   refine zC ?_ ?_
   · intro c2
     refine zS [2, 5, 6, 7, 8] ?_
     refine zS [2, 5, 6, 7, 8, 38] ?_
     refine zC ?_ ?_
     · intro c3
       refine zS [2, 6, 7, 8] ?_
       refine zS [2, 6, 7, 43] ?_
       refine zC ?_ ?_
       · intro c4
         refine zS [2, 7] ?_
         refine zS [2] ?_
         refine zX [] [0] ?_
         refine ⟨?y1_0, ?y1_1, ?y1_2, ?y1_3, ?y1_4, c, ?hq1, ?hv1, ?hh1⟩
         case hv1 => (try simp only [go_sem, simprocAttr, hX]); first | done | rfl
         case hh1 => (try simp only [go_sem, simprocAttr, hX]); first | done | rfl
         all_goals (first | trivial | assumption | omega | (simp; done))
       · intro c4
         intro ρ hL
         refine awl_skip ?_
         revert ρ hL
         refine zS [2] ?_
         refine zX [] [0] ?_
         refine ⟨?y2_0, ?y2_1, ?y2_2, ?y2_3, ?y2_4, c, ?hq2, ?hv2, ?hh2⟩
         case hv2 => (try simp only [go_sem, simprocAttr, hX]); first | done | rfl
         case hh2 => (try simp only [go_sem, simprocAttr, hX]); first | done | rfl
         all_goals (first | trivial | assumption | omega | (simp; done))
     · intro c3
       intro ρ hL
       refine awl_skip ?_
       revert ρ hL
       refine zS [2, 6, 7, 43] ?_
       refine zC ?_ ?_
       · intro c5
         refine zS [2, 7] ?_
         refine zS [2] ?_
         refine zX [] [0] ?_
         refine ⟨?y3_0, ?y3_1, ?y3_2, ?y3_3, ?y3_4, c, ?hq3, ?hv3, ?hh3⟩
         case hv3 => (try simp only [go_sem, simprocAttr, hX]); first | done | rfl
         case hh3 => (try simp only [go_sem, simprocAttr, hX]); first | done | rfl
         all_goals (first | trivial | assumption | omega | (simp; done))
       · intro c5
         intro ρ hL
         refine awl_skip ?_
         revert ρ hL
         refine zS [2] ?_
         refine zX [] [0] ?_
         refine ⟨?y4_0, ?y4_1, ?y4_2, ?y4_3, ?y4_4, c, ?hq4, ?hv4, ?hh4⟩
         case hv4 => (try simp only [go_sem, simprocAttr, hX]); first | done | rfl
         case hh4 => (try simp only [go_sem, simprocAttr, hX]); first | done | rfl
         all_goals (first | trivial | assumption | omega | (simp; done))
   · intro c2
     intro ρ hL
     refine awl_skip ?_
     revert ρ hL
     refine zS [2, 5, 6, 7, 8, 38] ?_
     refine zC ?_ ?_
     · intro c6
       refine zS [2, 6, 7, 8] ?_
       refine zS [2, 6, 7, 43] ?_
       refine zC ?_ ?_
       · intro c7
         refine zS [2, 7] ?_
         refine zS [2] ?_
         refine zX [] [0] ?_
         refine ⟨?y5_0, ?y5_1, ?y5_2, ?y5_3, ?y5_4, c, ?hq5, ?hv5, ?hh5⟩
         case hv5 => (try simp only [go_sem, simprocAttr, hX]); first | done | rfl
         case hh5 => (try simp only [go_sem, simprocAttr, hX]); first | done | rfl
         all_goals (first | trivial | assumption | omega | (simp; done))
       · intro c7
         intro ρ hL
         refine awl_skip ?_
         revert ρ hL
         refine zS [2] ?_
         refine zX [] [0] ?_
         refine ⟨?y6_0, ?y6_1, ?y6_2, ?y6_3, ?y6_4, c, ?hq6, ?hv6, ?hh6⟩
         case hv6 => (try simp only [go_sem, simprocAttr, hX]); first | done | rfl
         case hh6 => (try simp only [go_sem, simprocAttr, hX]); first | done | rfl
         all_goals (first | trivial | assumption | omega | (simp; done))
     · intro c6
       intro ρ hL
       refine awl_skip ?_
       revert ρ hL
       refine zS [2, 6, 7, 43] ?_
       refine zC ?_ ?_
       · intro c8
         refine zS [2, 7] ?_
         refine zS [2] ?_
         refine zX [] [0] ?_
         refine ⟨?y7_0, ?y7_1, ?y7_2, ?y7_3, ?y7_4, c, ?hq7, ?hv7, ?hh7⟩
         case hv7 => (try simp only [go_sem, simprocAttr, hX]); first | done | rfl
         case hh7 => (try simp only [go_sem, simprocAttr, hX]); first | done | rfl
         all_goals (first | trivial | assumption | omega | (simp; done))
       · intro c8
         intro ρ hL
         refine awl_skip ?_
         revert ρ hL
         refine zS [2] ?_
         refine zX [] [0] ?_
         refine ⟨?y8_0, ?y8_1, ?y8_2, ?y8_3, ?y8_4, c, ?hq8, ?hv8, ?hh8⟩
         case hv8 => (try simp only [go_sem, simprocAttr, hX]); first | done | rfl
         case hh8 => (try simp only [go_sem, simprocAttr, hX]); first | done | rfl
         all_goals (first | trivial | assumption | omega | (simp; done))
 · intro c1
   intro ρ hL
   refine awl_skip ?_
   revert ρ hL
   refine zS [2, 4, 5, 6, 7, 8, 33] ?_
   refine zC ?_ ?_
   · intro c9
     refine zS [2, 5, 6, 7, 8] ?_
     refine zS [2, 5, 6, 7, 8, 38] ?_
     refine zC ?_ ?_
     · intro c10
       refine zS [2, 6, 7, 8] ?_
       refine zS [2, 6, 7, 43] ?_
       refine zC ?_ ?_
       · intro c11
         refine zS [2, 7] ?_
         refine zS [2] ?_
         refine zX [] [0] ?_
         refine ⟨?y9_0, ?y9_1, ?y9_2, ?y9_3, ?y9_4, c, ?hq9, ?hv9, ?hh9⟩
         case hv9 => (try simp only [go_sem, simprocAttr, hX]); first | done | rfl
         case hh9 => (try simp only [go_sem, simprocAttr, hX]); first | done | rfl
         all_goals (first | trivial | assumption | omega | (simp; done))
       · intro c11
         intro ρ hL
         refine awl_skip ?_
         revert ρ hL
         refine zS [2] ?_
         refine zX [] [0] ?_
         refine ⟨?y10_0, ?y10_1, ?y10_2, ?y10_3, ?y10_4, c, ?hq10, ?hv10, ?hh10⟩
         case hv10 => (try simp only [go_sem, simprocAttr, hX]); first | done | rfl
         case hh10 => (try simp only [go_sem, simprocAttr, hX]); first | done | rfl
         all_goals (first | trivial | assumption | omega | (simp; done))
     · intro c10
       intro ρ hL
       refine awl_skip ?_
       revert ρ hL
       refine zS [2, 6, 7, 43] ?_
       refine zC ?_ ?_
       · intro c12
         refine zS [2, 7] ?_
         refine zS [2] ?_
         refine zX [] [0] ?_
         refine ⟨?y11_0, ?y11_1, ?y11_2, ?y11_3, ?y11_4, c, ?hq11, ?hv11, ?hh11⟩
         case hv11 => (try simp only [go_sem, simprocAttr, hX]); first | done | rfl
         case hh11 => (try simp only [go_sem, simprocAttr, hX]); first | done | rfl
         all_goals (first | trivial | assumption | omega | (simp; done))
       · intro c12
         intro ρ hL
         refine awl_skip ?_
         revert ρ hL
         refine zS [2] ?_
         refine zX [] [0] ?_
         refine ⟨?y12_0, ?y12_1, ?y12_2, ?y12_3, ?y12_4, c, ?hq12, ?hv12, ?hh12⟩
         case hv12 => (try simp only [go_sem, simprocAttr, hX]); first | done | rfl
         case hh12 => (try simp only [go_sem, simprocAttr, hX]); first | done | rfl
         all_goals (first | trivial | assumption | omega | (simp; done))
   · intro c9
     intro ρ hL
     refine awl_skip ?_
     revert ρ hL
     refine zS [2, 5, 6, 7, 8, 38] ?_
     refine zC ?_ ?_
     · intro c13
       refine zS [2, 6, 7, 8] ?_
       refine zS [2, 6, 7, 43] ?_
       refine zC ?_ ?_
       · intro c14
         refine zS [2, 7] ?_
         refine zS [2] ?_
         refine zX [] [0] ?_
         refine ⟨?y13_0, ?y13_1, ?y13_2, ?y13_3, ?y13_4, c, ?hq13, ?hv13, ?hh13⟩
         case hv13 => (try simp only [go_sem, simprocAttr, hX]); first | done | rfl
         case hh13 => (try simp only [go_sem, simprocAttr, hX]); first | done | rfl
         all_goals (first | trivial | assumption | omega | (simp; done))
       · intro c14
         intro ρ hL
         refine awl_skip ?_
         revert ρ hL
         refine zS [2] ?_
         refine zX [] [0] ?_
         refine ⟨?y14_0, ?y14_1, ?y14_2, ?y14_3, ?y14_4, c, ?hq14, ?hv14, ?hh14⟩
         case hv14 => (try simp only [go_sem, simprocAttr, hX]); first | done | rfl
         case hh14 => (try simp only [go_sem, simprocAttr, hX]); first | done | rfl
         all_goals (first | trivial | assumption | omega | (simp; done))
     · intro c13
       intro ρ hL
       refine awl_skip ?_
       revert ρ hL
       refine zS [2, 6, 7, 43] ?_
       refine zC ?_ ?_
       · intro c15
         refine zS [2, 7] ?_
         refine zS [2] ?_
         refine zX [] [0] ?_
         refine ⟨?y15_0, ?y15_1, ?y15_2, ?y15_3, ?y15_4, c, ?hq15, ?hv15, ?hh15⟩
         case hv15 => (try simp only [go_sem, simprocAttr, hX]); first | done | rfl
         case hh15 => (try simp only [go_sem, simprocAttr, hX]); first | done | rfl
         all_goals (first | trivial | assumption | omega | (simp; done))
       · intro c15
         intro ρ hL
         refine awl_skip ?_
         revert ρ hL
         refine zS [2] ?_
         refine zX [] [0] ?_
         refine ⟨?y16_0, ?y16_1, ?y16_2, ?y16_3, ?y16_4, c, ?hq16, ?hv16, ?hh16⟩
         case hv16 => (try simp only [go_sem, simprocAttr, hX]); first | done | rfl
         case hh16 => (try simp only [go_sem, simprocAttr, hX]); first | done | rfl
         all_goals (first | trivial | assumption | omega | (simp; done))
theorem sat_spec_l6Spoil (c : Cu) (o : Int) (r : Int) (a : Int) (b : Int) (n : Int)  : ∃ (o2 r2 a2 b2 n2 : Int) (d : Cu), (True) ∧ Sat Tryz.prog 139 [.ptr 0 0, .agg [.int .i64 o, .int .i64 r, .int .i64 a, .int .i64 b, .int .i64 n]] [⟨3, c.cells, true, false⟩] (.agg [.int .i64 o2, .int .i64 r2, .int .i64 a2, .int .i64 b2, .int .i64 n2]) [⟨3, d.cells, true, false⟩] := by
 suffices hE : ∃ zv zh, (∃ (o2 r2 a2 b2 n2 : Int) (d : Cu), (True) ∧ zv = (.agg [.int .i64 o2, .int .i64 r2, .int .i64 a2, .int .i64 b2, .int .i64 n2]) ∧ zh = [⟨3, d.cells, true, false⟩]) ∧ Sat Tryz.prog 139 [.ptr 0 0, .agg [.int .i64 o, .int .i64 r, .int .i64 a, .int .i64 b, .int .i64 n]] [⟨3, c.cells, true, false⟩] zv zh from by
   obtain ⟨_, _, ⟨o2, r2, a2, b2, n2, d, hq, rfl, rfl⟩, hs⟩ := hE
   exact ⟨o2, r2, a2, b2, n2, d, hq, hs⟩
 have hX := trivial
 refine sat_ex [.cell 4 59] 1 32 Tryz.call139 Tryz.func139 Tryz.ntmps139 rfl rfl rfl rfl rfl ?_
 refine zI [0, 1] ?_
 refine zS [0, 3, 4] ?_
 obtain ⟨x0, c, hx0, hs1⟩ := sat_spec_l1Below c 7
 have hb0 := hx0.2.1 (by decide)
 intro ρ hL
 refine zA ?_
 intro K hK
 refine zFJ [0] (hs1) ?_
 refine zE [0, 3, 4, 6] ?_
 clear hK K hL
 intro ρ hL
 refine awl_block fun R1 hw1 hR1 => ?_
 revert ρ hL
 refine zS [0, 3, 4, 6, 7] ?_
 refine zC ?_ ?_
 · intro c1
   obtain ⟨x1, c, hx1, hs2⟩ := sat_spec_l1Below c 18
   have hb1 := hx1.2.1 (by decide)
   intro ρ hL
   refine zA ?_
   intro K hK
   refine zFJ [0] (hs2) ?_
   refine zE [3, 4] ?_
   clear hK K hL
   intro ρ hL
   refine awl_nil ?_
   refine blk_normal (hR1 _ _ (.mk ?_))
   revert ρ hL
   refine zS [4] ?_
   refine zX [] [0] ?_
   refine ⟨?y1_0, ?y1_1, ?y1_2, ?y1_3, ?y1_4, c, ?hq1, ?hv1, ?hh1⟩
   case hv1 => (try simp only [go_sem, simprocAttr, hX]); first | done | rfl
   case hh1 => (try simp only [go_sem, simprocAttr, hX]); first | done | rfl
   all_goals try clear hR1
   all_goals (first | trivial | assumption | omega | (simp; done))
 · intro c1
   refine zS [0, 3, 4, 6, 13] ?_
   refine zC ?_ ?_
   · intro c2
     obtain ⟨x1, c, hx1, hs3⟩ := sat_spec_l1PickInt c [-1, 7, 8] (by simp)
     intro ρ hL
     refine zA ?_
     intro K hK
     refine zFJ [0, 3] (hs3) ?_
     refine zE [3, 4] ?_
     clear hK K hL
     intro ρ hL
     refine awl_nil ?_
     refine blk_normal (hR1 _ _ (.mk ?_))
     revert ρ hL
     refine zS [4] ?_
     refine zX [] [0] ?_
     refine ⟨?y2_0, ?y2_1, ?y2_2, ?y2_3, ?y2_4, c, ?hq2, ?hv2, ?hh2⟩
     case hv2 => (try simp only [go_sem, simprocAttr, hX]); first | done | rfl
     case hh2 => (try simp only [go_sem, simprocAttr, hX]); first | done | rfl
     all_goals try clear hR1
     all_goals (first | trivial | assumption | omega | (simp; done))
   · intro c2
     refine zS [0, 3, 4, 6, 19] ?_
     refine zC ?_ ?_
     · intro c3
       obtain ⟨x1, c, hx1, hs4⟩ := sat_spec_l1PickInt c [-1, 7, 8] (by simp)
       intro ρ hL
       refine zA ?_
       intro K hK
       refine zFJ [0, 3] (hs4) ?_
       refine zE [3, 4] ?_
       clear hK K hL
       intro ρ hL
       refine awl_nil ?_
       refine blk_normal (hR1 _ _ (.mk ?_))
       revert ρ hL
       refine zS [4] ?_
       refine zX [] [0] ?_
       refine ⟨?y3_0, ?y3_1, ?y3_2, ?y3_3, ?y3_4, c, ?hq3, ?hv3, ?hh3⟩
       case hv3 => (try simp only [go_sem, simprocAttr, hX]); first | done | rfl
       case hh3 => (try simp only [go_sem, simprocAttr, hX]); first | done | rfl
       all_goals try clear hR1
       all_goals (first | trivial | assumption | omega | (simp; done))
     · intro c3
       refine zS [0, 3, 4, 25] ?_
       refine zC ?_ ?_
       · intro c4
         obtain ⟨x1, c, hx1, hs5⟩ := sat_spec_l1PickInt c [-128, -129, 127, 128] (by simp)
         intro ρ hL
         refine zA ?_
         intro K hK
         refine zFJ [0, 3] (hs5) ?_
         refine zE [3, 4] ?_
         clear hK K hL
         intro ρ hL
         refine awl_nil ?_
         refine blk_normal (hR1 _ _ (.mk ?_))
         revert ρ hL
         refine zS [4] ?_
         refine zX [] [0] ?_
         refine ⟨?y4_0, ?y4_1, ?y4_2, ?y4_3, ?y4_4, c, ?hq4, ?hv4, ?hh4⟩
         case hv4 => (try simp only [go_sem, simprocAttr, hX]); first | done | rfl
         case hh4 => (try simp only [go_sem, simprocAttr, hX]); first | done | rfl
         all_goals try clear hR1
         all_goals (first | trivial | assumption | omega | (simp; done))
       · intro c4
         intro ρ hL
         refine awl_skip ?_
         refine awl_nil ?_
         refine blk_normal (hR1 _ _ (.mk ?_))
         revert ρ hL
         refine zS [4] ?_
         refine zX [] [0] ?_
         refine ⟨?y5_0, ?y5_1, ?y5_2, ?y5_3, ?y5_4, c, ?hq5, ?hv5, ?hh5⟩
         case hv5 => (try simp only [go_sem, simprocAttr, hX]); first | done | rfl
         case hh5 => (try simp only [go_sem, simprocAttr, hX]); first | done | rfl
         all_goals try clear hR1
         all_goals (first | trivial | assumption | omega | (simp; done))
theorem sat_spec_l6DrawCode (c : Cu)  : ∃ (l : List Ins) (d : Cu), (0 < l.length ∧ l.length ≤ 24) ∧ Sat Tryz.prog 182 [.ptr 0 0] [⟨3, c.cells, true, false⟩] (.slice 1 0 l.length 0) [⟨3, d.cells, true, false⟩, ⟨5, rows l, true, false⟩] := by
 suffices hE : ∃ zv zh, (∃ (l : List Ins) (d : Cu), (0 < l.length ∧ l.length ≤ 24) ∧ zv = (.slice 1 0 l.length 0) ∧ zh = [⟨3, d.cells, true, false⟩, ⟨5, rows l, true, false⟩]) ∧ Sat Tryz.prog 182 [.ptr 0 0] [⟨3, c.cells, true, false⟩] zv zh from by
   obtain ⟨_, _, ⟨l, d, hq, rfl, rfl⟩, hs⟩ := hE
   exact ⟨l, d, hq, hs⟩
 have hX := trivial
 refine sat_ex [.tmp 2] 1 53 Tryz.call182 Tryz.func182 Tryz.ntmps182 rfl rfl rfl rfl rfl ?_
 refine zI [0] ?_
 refine zS [0] ?_
 intro ρ hL
 refine zA ?_
 intro K hK
 refine hK _ _ ⟨_, _, (Wk.norm [5] (RefE.refl.upd (t := 3) (by simp only [go_sem, simprocAttr]; first | done | rfl) (Ref.esl 1 ⟨Nat.le_refl _, Nat.lt_succ_self _⟩))), awl_live' [0, 3] fun ρ hM => ?_⟩
 try simp only [go_sem, simprocAttr, hL, hX] at hM
 clear hK K hL
 try simp only [go_sem, simprocAttr]
 revert ρ hM
 obtain ⟨l0, hl0, hl5, e0⟩ : ∃ l0 : List Ins, l0.length = 0 ∧ l0.length ≤ 5 ∧ rows l0 = [] := ⟨[], rfl, by decide, rfl⟩
 intro ρ hL
 rw [show (⟨5, [], true, false⟩ : Blk) = ⟨5, rows l0, true, false⟩ by rw [e0]]
 obtain ⟨x0, c, hx0, hs1⟩ := sat_spec_l1Below c 4
 have hb0 := hx0.2.1 (by decide)
 refine zA ?_
 intro K hK
 refine zFJ [0] (hs1) ?_
 refine zE [0, 3, 8] ?_
 clear hK K hL
 intro ρ hL
 refine awl_block fun R1 hw1 hR1 => ?_
 revert ρ hL
 refine zS [0, 3, 8, 9] ?_
 refine zC ?_ ?_
 · intro c1
   intro ρ hL
   refine zA ?_
   intro K hK
   refine hK _ _ ⟨_, _, (Wk.keep [0, 3] rfl), awl_live' [0, 3] fun ρ hM => ?_⟩
   try simp only [go_sem, simprocAttr, hL, hX] at hM
   clear hK K hL
   try simp only [go_sem, simprocAttr]
   revert ρ hM
   obtain ⟨l0, hl0, hl5, hr_⟩ : ∃ l0 : List Ins, l0.length = 4 ∧ l0.length ≤ 5 ∧ rows l0 = [.int .i64 1, .int .i64 1, .int .i64 0, .int .i64 0, .int .i64 3, .int .i64 5, .int .i64 2, .int .i64 0, .int .i64 1, .int .i64 0, .int .i64 11, .int .i64 0, .int .i64 0, .int .i64 2, .int .i64 1, .int .i64 10, .int .i64 3, .int .i64 0, .int .i64 0, .int .i64 1] := ⟨[⟨1, 1, 0, 0, 3⟩, ⟨5, 2, 0, 1, 0⟩, ⟨11, 0, 0, 2, 1⟩, ⟨10, 3, 0, 0, 1⟩], rfl, by decide, rfl⟩
   intro ρ hL
   rw [← hr_]
   refine awl_nil ?_
   refine blk_normal (hR1 _ _ (.mk ?_))
   obtain ⟨x9, c, hx9, hs2⟩ := sat_spec_l1Below c 14
   have hb9 := hx9.2.1 (by decide)
   refine zA ?_
   intro K hK
   refine zFJ [0] (hs2) ?_
   refine zE [0, 3, 4] ?_
   clear hK K hL
   refine zS [0, 3, 4, 5] ?_
   intro ρ hL
   have e1 := hL
   refine awl_loopH (fun H0 n σ G => ∃ (l : List Ins) (c : Cu) (i : Nat), n = x9.toNat - i ∧ (i ≤ 14) ∧ (l.length ≤ 5 + i) ∧ (liveE [0, 4] σ ρ ∧ σ 3 = .slice 1 0 l.length 0 ∧ σ 5 = .int .i64 (i : Int)) ∧ G = [⟨3, c.cells, true, false⟩, ⟨5, rows l, true, false⟩]) (fun H0 σ G => ∃ (l : List Ins) (c : Cu), (l.length ≤ 20) ∧ (σ 3 = .slice 1 0 l.length 0) ∧ G = [⟨3, c.cells, true, false⟩, ⟨5, rows l, true, false⟩]) (x9.toNat - 0) ?init1 (fun n ρ G hI => ?round1) (fun ρ G hJ => ?after1)
   case init1 => exact ⟨l0, c, 0, rfl, (Nat.zero_le _), (by omega), ⟨liveE_refl _ _, (by rw [hL.2.1, hl0]), (hL.2.2.2)⟩, rfl⟩
   case round1 =>
    clear hL
    obtain ⟨l, c, i, hn, i1_0, i1_1, hL, hG⟩ := hI
    subst hG
    try simp only [go_sem, simprocAttr, e1, hX] at hL
    revert ρ hL
    refine zS [0, 3, 4, 5, 41] ?_
    refine zC ?_ ?_
    · intro c2
      intro ρ hL
      refine awl_skip ?_
      refine awl_seq ?_
      refine awl_block fun R2 hw2 hR2 => ?_
      obtain ⟨o, r, a, b, n, c, hi, hs3⟩ := sat_spec_l6DrawIns c
      refine zA ?_
      intro K hK
      refine zFJ [0] (hs3) ?_
      refine zE [0, 3, 4, 5] ?_
      clear hK K hL
      intro ρ hL
      refine awl_nil ?_
      refine blk_normal (hR2 _ _ (.mk ?_))
      have wi : IntKind.i64.wrap ((i : Int) + 1) = ((i + 1 : Nat) : Int) := by rw [wrap64 (by omega)]; omega
      have hX0 := hX
      replace hX := And.intro wi hX
      revert ρ hL
      refine zS [0, 3, 4, 5] ?_
      clear hX
      have hX := hX0
      clear hX0
      intro ρ hL
      refine awl_nil ?_
      refine loop_againW (Wk.keep [0, 3] rfl) _ ?meas ⟨(l ++ [⟨o, r, a, b, n⟩]), c, (i + 1), rfl, (by omega), (by rw [List.length_append]; simp; omega), ⟨(by simp only [go_sem, simprocAttr, hL, hX, e1]), (by simp only [go_sem, simprocAttr, hL, hX, e1]; rw [List.length_append]; rfl), (by simp only [go_sem, simprocAttr, hL, hX, e1]; first | done | rfl)⟩, (by simp only [go_sem, simprocAttr, hL, hX, e1]; rw [inss_snoc])⟩
      case meas => subst hn; omega
    · intro c2
      intro ρ hL
      refine awl_exit ?_
      refine loop_break ?_
      exact ⟨l, c, (by omega), (hL.2.1), rfl⟩
   case after1 =>
    clear hL
    obtain ⟨l, c, j1_0, hL, hG⟩ := hJ
    subst hG
    revert ρ hL
    refine zS [2] ?_
    refine zX [3] [0, 3] ?_
    refine ⟨l ++ [⟨15, 0, 0, 0, 0⟩], c, ?hq1, ?hv1, ?hh1⟩
    case hv1 => (try simp only [go_sem, simprocAttr, hX, List.length_append,  List.length_cons,  List.length_nil,  inss_snoc]); first | done | rfl
    case hh1 => (try simp only [go_sem, simprocAttr, hX, List.length_append,  List.length_cons,  List.length_nil,  inss_snoc]); first | done | rfl
    all_goals try clear hR1
    all_goals try clear hR2
    all_goals (rw [List.length_append]; simp; omega)
 · intro c1
   refine zS [0, 3, 8, 18] ?_
   refine zC ?_ ?_
   · intro c3
     intro ρ hL
     refine zA ?_
     intro K hK
     refine hK _ _ ⟨_, _, (Wk.keep [0, 3] rfl), awl_live' [0, 3] fun ρ hM => ?_⟩
     try simp only [go_sem, simprocAttr, hL, hX] at hM
     clear hK K hL
     try simp only [go_sem, simprocAttr]
     revert ρ hM
     obtain ⟨l0, hl0, hl5, hr_⟩ : ∃ l0 : List Ins, l0.length = 4 ∧ l0.length ≤ 5 ∧ rows l0 = [.int .i64 1, .int .i64 1, .int .i64 0, .int .i64 0, .int .i64 2, .int .i64 6, .int .i64 4, .int .i64 0, .int .i64 1, .int .i64 0, .int .i64 7, .int .i64 2, .int .i64 0, .int .i64 4, .int .i64 0, .int .i64 8, .int .i64 3, .int .i64 2, .int .i64 4, .int .i64 0] := ⟨[⟨1, 1, 0, 0, 2⟩, ⟨6, 4, 0, 1, 0⟩, ⟨7, 2, 0, 4, 0⟩, ⟨8, 3, 2, 4, 0⟩], rfl, by decide, rfl⟩
     intro ρ hL
     rw [← hr_]
     refine awl_nil ?_
     refine blk_normal (hR1 _ _ (.mk ?_))
     obtain ⟨x9, c, hx9, hs4⟩ := sat_spec_l1Below c 14
     have hb9 := hx9.2.1 (by decide)
     refine zA ?_
     intro K hK
     refine zFJ [0] (hs4) ?_
     refine zE [0, 3, 4] ?_
     clear hK K hL
     refine zS [0, 3, 4, 5] ?_
     intro ρ hL
     have e2 := hL
     refine awl_loopH (fun H0 n σ G => ∃ (l : List Ins) (c : Cu) (i : Nat), n = x9.toNat - i ∧ (i ≤ 14) ∧ (l.length ≤ 5 + i) ∧ (liveE [0, 4] σ ρ ∧ σ 3 = .slice 1 0 l.length 0 ∧ σ 5 = .int .i64 (i : Int)) ∧ G = [⟨3, c.cells, true, false⟩, ⟨5, rows l, true, false⟩]) (fun H0 σ G => ∃ (l : List Ins) (c : Cu), (l.length ≤ 20) ∧ (σ 3 = .slice 1 0 l.length 0) ∧ G = [⟨3, c.cells, true, false⟩, ⟨5, rows l, true, false⟩]) (x9.toNat - 0) ?init2 (fun n ρ G hI => ?round2) (fun ρ G hJ => ?after2)
     case init2 => exact ⟨l0, c, 0, rfl, (Nat.zero_le _), (by omega), ⟨liveE_refl _ _, (by rw [hL.2.1, hl0]), (hL.2.2.2)⟩, rfl⟩
     case round2 =>
      clear hL
      obtain ⟨l, c, i, hn, i2_0, i2_1, hL, hG⟩ := hI
      subst hG
      try simp only [go_sem, simprocAttr, e2, hX] at hL
      revert ρ hL
      refine zS [0, 3, 4, 5, 41] ?_
      refine zC ?_ ?_
      · intro c4
        intro ρ hL
        refine awl_skip ?_
        refine awl_seq ?_
        refine awl_block fun R3 hw3 hR3 => ?_
        obtain ⟨o, r, a, b, n, c, hi, hs5⟩ := sat_spec_l6DrawIns c
        refine zA ?_
        intro K hK
        refine zFJ [0] (hs5) ?_
        refine zE [0, 3, 4, 5] ?_
        clear hK K hL
        intro ρ hL
        refine awl_nil ?_
        refine blk_normal (hR3 _ _ (.mk ?_))
        have wi : IntKind.i64.wrap ((i : Int) + 1) = ((i + 1 : Nat) : Int) := by rw [wrap64 (by omega)]; omega
        have hX0 := hX
        replace hX := And.intro wi hX
        revert ρ hL
        refine zS [0, 3, 4, 5] ?_
        clear hX
        have hX := hX0
        clear hX0
        intro ρ hL
        refine awl_nil ?_
        refine loop_againW (Wk.keep [0, 3] rfl) _ ?meas ⟨(l ++ [⟨o, r, a, b, n⟩]), c, (i + 1), rfl, (by omega), (by rw [List.length_append]; simp; omega), ⟨(by simp only [go_sem, simprocAttr, hL, hX, e2]), (by simp only [go_sem, simprocAttr, hL, hX, e2]; rw [List.length_append]; rfl), (by simp only [go_sem, simprocAttr, hL, hX, e2]; first | done | rfl)⟩, (by simp only [go_sem, simprocAttr, hL, hX, e2]; rw [inss_snoc])⟩
        case meas => subst hn; omega
      · intro c4
        intro ρ hL
        refine awl_exit ?_
        refine loop_break ?_
        exact ⟨l, c, (by omega), (hL.2.1), rfl⟩
     case after2 =>
      clear hL
      obtain ⟨l, c, j2_0, hL, hG⟩ := hJ
      subst hG
      revert ρ hL
      refine zS [2] ?_
      refine zX [3] [0, 3] ?_
      refine ⟨l ++ [⟨15, 0, 0, 0, 0⟩], c, ?hq2, ?hv2, ?hh2⟩
      case hv2 => (try simp only [go_sem, simprocAttr, hX, List.length_append,  List.length_cons,  List.length_nil,  inss_snoc]); first | done | rfl
      case hh2 => (try simp only [go_sem, simprocAttr, hX, List.length_append,  List.length_cons,  List.length_nil,  inss_snoc]); first | done | rfl
      all_goals try clear hR1
      all_goals try clear hR2
      all_goals try clear hR3
      all_goals (rw [List.length_append]; simp; omega)
   · intro c3
     refine zS [0, 3, 27] ?_
     refine zC ?_ ?_
     · intro c5
       intro ρ hL
       refine zA ?_
       intro K hK
       refine hK _ _ ⟨_, _, (Wk.keep [0, 3] rfl), awl_live' [0, 3] fun ρ hM => ?_⟩
       try simp only [go_sem, simprocAttr, hL, hX] at hM
       clear hK K hL
       try simp only [go_sem, simprocAttr]
       revert ρ hM
       obtain ⟨l0, hl0, hl5, hr_⟩ : ∃ l0 : List Ins, l0.length = 5 ∧ l0.length ≤ 5 ∧ rows l0 = [.int .i64 1, .int .i64 1, .int .i64 0, .int .i64 0, .int .i64 5, .int .i64 1, .int .i64 2, .int .i64 0, .int .i64 0, .int .i64 (-1), .int .i64 2, .int .i64 1, .int .i64 1, .int .i64 2, .int .i64 0, .int .i64 13, .int .i64 0, .int .i64 1, .int .i64 0, .int .i64 2, .int .i64 13, .int .i64 0, .int .i64 5, .int .i64 0, .int .i64 (-2)] := ⟨[⟨1, 1, 0, 0, 5⟩, ⟨1, 2, 0, 0, -1⟩, ⟨2, 1, 1, 2, 0⟩, ⟨13, 0, 1, 0, 2⟩, ⟨13, 0, 5, 0, -2⟩], rfl, by decide, rfl⟩
       intro ρ hL
       rw [← hr_]
       refine awl_nil ?_
       refine blk_normal (hR1 _ _ (.mk ?_))
       obtain ⟨x9, c, hx9, hs6⟩ := sat_spec_l1Below c 14
       have hb9 := hx9.2.1 (by decide)
       refine zA ?_
       intro K hK
       refine zFJ [0] (hs6) ?_
       refine zE [0, 3, 4] ?_
       clear hK K hL
       refine zS [0, 3, 4, 5] ?_
       intro ρ hL
       have e3 := hL
       refine awl_loopH (fun H0 n σ G => ∃ (l : List Ins) (c : Cu) (i : Nat), n = x9.toNat - i ∧ (i ≤ 14) ∧ (l.length ≤ 5 + i) ∧ (liveE [0, 4] σ ρ ∧ σ 3 = .slice 1 0 l.length 0 ∧ σ 5 = .int .i64 (i : Int)) ∧ G = [⟨3, c.cells, true, false⟩, ⟨5, rows l, true, false⟩]) (fun H0 σ G => ∃ (l : List Ins) (c : Cu), (l.length ≤ 20) ∧ (σ 3 = .slice 1 0 l.length 0) ∧ G = [⟨3, c.cells, true, false⟩, ⟨5, rows l, true, false⟩]) (x9.toNat - 0) ?init3 (fun n ρ G hI => ?round3) (fun ρ G hJ => ?after3)
       case init3 => exact ⟨l0, c, 0, rfl, (Nat.zero_le _), (by omega), ⟨liveE_refl _ _, (by rw [hL.2.1, hl0]), (hL.2.2.2)⟩, rfl⟩
       case round3 =>
        clear hL
        obtain ⟨l, c, i, hn, i3_0, i3_1, hL, hG⟩ := hI
        subst hG
        try simp only [go_sem, simprocAttr, e3, hX] at hL
        revert ρ hL
        refine zS [0, 3, 4, 5, 41] ?_
        refine zC ?_ ?_
        · intro c6
          intro ρ hL
          refine awl_skip ?_
          refine awl_seq ?_
          refine awl_block fun R4 hw4 hR4 => ?_
          obtain ⟨o, r, a, b, n, c, hi, hs7⟩ := sat_spec_l6DrawIns c
          refine zA ?_
          intro K hK
          refine zFJ [0] (hs7) ?_
          refine zE [0, 3, 4, 5] ?_
          clear hK K hL
          intro ρ hL
          refine awl_nil ?_
          refine blk_normal (hR4 _ _ (.mk ?_))
          have wi : IntKind.i64.wrap ((i : Int) + 1) = ((i + 1 : Nat) : Int) := by rw [wrap64 (by omega)]; omega
          have hX0 := hX
          replace hX := And.intro wi hX
          revert ρ hL
          refine zS [0, 3, 4, 5] ?_
          clear hX
          have hX := hX0
          clear hX0
          intro ρ hL
          refine awl_nil ?_
          refine loop_againW (Wk.keep [0, 3] rfl) _ ?meas ⟨(l ++ [⟨o, r, a, b, n⟩]), c, (i + 1), rfl, (by omega), (by rw [List.length_append]; simp; omega), ⟨(by simp only [go_sem, simprocAttr, hL, hX, e3]), (by simp only [go_sem, simprocAttr, hL, hX, e3]; rw [List.length_append]; rfl), (by simp only [go_sem, simprocAttr, hL, hX, e3]; first | done | rfl)⟩, (by simp only [go_sem, simprocAttr, hL, hX, e3]; rw [inss_snoc])⟩
          case meas => subst hn; omega
        · intro c6
          intro ρ hL
          refine awl_exit ?_
          refine loop_break ?_
          exact ⟨l, c, (by omega), (hL.2.1), rfl⟩
       case after3 =>
        clear hL
        obtain ⟨l, c, j3_0, hL, hG⟩ := hJ
        subst hG
        revert ρ hL
        refine zS [2] ?_
        refine zX [3] [0, 3] ?_
        refine ⟨l ++ [⟨15, 0, 0, 0, 0⟩], c, ?hq3, ?hv3, ?hh3⟩
        case hv3 => (try simp only [go_sem, simprocAttr, hX, List.length_append,  List.length_cons,  List.length_nil,  inss_snoc]); first | done | rfl
        case hh3 => (try simp only [go_sem, simprocAttr, hX, List.length_append,  List.length_cons,  List.length_nil,  inss_snoc]); first | done | rfl
        all_goals try clear hR1
        all_goals try clear hR2
        all_goals try clear hR3
        all_goals try clear hR4
        all_goals (rw [List.length_append]; simp; omega)
     · intro c5
       intro ρ hL
       refine awl_skip ?_
       refine awl_nil ?_
       refine blk_normal (hR1 _ _ (.mk ?_))
       obtain ⟨x9, c, hx9, hs8⟩ := sat_spec_l1Below c 14
       have hb9 := hx9.2.1 (by decide)
       refine zA ?_
       intro K hK
       refine zFJ [0] (hs8) ?_
       refine zE [0, 3, 4] ?_
       clear hK K hL
       refine zS [0, 3, 4, 5] ?_
       intro ρ hL
       have e4 := hL
       refine awl_loopH (fun H0 n σ G => ∃ (l : List Ins) (c : Cu) (i : Nat), n = x9.toNat - i ∧ (i ≤ 14) ∧ (l.length ≤ 5 + i) ∧ (liveE [0, 4] σ ρ ∧ σ 3 = .slice 1 0 l.length 0 ∧ σ 5 = .int .i64 (i : Int)) ∧ G = [⟨3, c.cells, true, false⟩, ⟨5, rows l, true, false⟩]) (fun H0 σ G => ∃ (l : List Ins) (c : Cu), (l.length ≤ 20) ∧ (σ 3 = .slice 1 0 l.length 0) ∧ G = [⟨3, c.cells, true, false⟩, ⟨5, rows l, true, false⟩]) (x9.toNat - 0) ?init4 (fun n ρ G hI => ?round4) (fun ρ G hJ => ?after4)
       case init4 => exact ⟨l0, c, 0, rfl, (Nat.zero_le _), (by omega), ⟨liveE_refl _ _, (by rw [hL.2.1, hl0]), (hL.2.2.2)⟩, rfl⟩
       case round4 =>
        clear hL
        obtain ⟨l, c, i, hn, i4_0, i4_1, hL, hG⟩ := hI
        subst hG
        try simp only [go_sem, simprocAttr, e4, hX] at hL
        revert ρ hL
        refine zS [0, 3, 4, 5, 41] ?_
        refine zC ?_ ?_
        · intro c7
          intro ρ hL
          refine awl_skip ?_
          refine awl_seq ?_
          refine awl_block fun R5 hw5 hR5 => ?_
          obtain ⟨o, r, a, b, n, c, hi, hs9⟩ := sat_spec_l6DrawIns c
          refine zA ?_
          intro K hK
          refine zFJ [0] (hs9) ?_
          refine zE [0, 3, 4, 5] ?_
          clear hK K hL
          intro ρ hL
          refine awl_nil ?_
          refine blk_normal (hR5 _ _ (.mk ?_))
          have wi : IntKind.i64.wrap ((i : Int) + 1) = ((i + 1 : Nat) : Int) := by rw [wrap64 (by omega)]; omega
          have hX0 := hX
          replace hX := And.intro wi hX
          revert ρ hL
          refine zS [0, 3, 4, 5] ?_
          clear hX
          have hX := hX0
          clear hX0
          intro ρ hL
          refine awl_nil ?_
          refine loop_againW (Wk.keep [0, 3] rfl) _ ?meas ⟨(l ++ [⟨o, r, a, b, n⟩]), c, (i + 1), rfl, (by omega), (by rw [List.length_append]; simp; omega), ⟨(by simp only [go_sem, simprocAttr, hL, hX, e4]), (by simp only [go_sem, simprocAttr, hL, hX, e4]; rw [List.length_append]; rfl), (by simp only [go_sem, simprocAttr, hL, hX, e4]; first | done | rfl)⟩, (by simp only [go_sem, simprocAttr, hL, hX, e4]; rw [inss_snoc])⟩
          case meas => subst hn; omega
        · intro c7
          intro ρ hL
          refine awl_exit ?_
          refine loop_break ?_
          exact ⟨l, c, (by omega), (hL.2.1), rfl⟩
       case after4 =>
        clear hL
        obtain ⟨l, c, j4_0, hL, hG⟩ := hJ
        subst hG
        revert ρ hL
        refine zS [2] ?_
        refine zX [3] [0, 3] ?_
        refine ⟨l ++ [⟨15, 0, 0, 0, 0⟩], c, ?hq4, ?hv4, ?hh4⟩
        case hv4 => (try simp only [go_sem, simprocAttr, hX, List.length_append,  List.length_cons,  List.length_nil,  inss_snoc]); first | done | rfl
        case hh4 => (try simp only [go_sem, simprocAttr, hX, List.length_append,  List.length_cons,  List.length_nil,  inss_snoc]); first | done | rfl
        all_goals try clear hR1
        all_goals try clear hR2
        all_goals try clear hR3
        all_goals try clear hR4
        all_goals try clear hR5
        all_goals (rw [List.length_append]; simp; omega)
end Go.Proofs.YteojcehneipgdaaGreat.AM
