/- What is drawn: keys and words. No conditions but those each theorem bears. -/
import Derived.Test.YteojcehneipgdaaGreatFa
import Derived.Test.YteojcehneipgdaaGreatM6
import Derived.Test.YteojcehneipgdaaGreatCa50
import Derived.Test.YteojcehneipgdaaGreatCa5
set_option linter.unusedSimpArgs false
set_option linter.unusedVariables false
namespace Go.Proofs.YteojcehneipgdaaGreat.AM
open Go
set_option maxHeartbeats 8000000
set_option maxRecDepth 100000

theorem sat_spec_Root   : Sat Tryz.prog 224 [] [] (.agg [.int .i64 0, .int .i64 4096, .int .i64 63, .int .i64 0]) [] := by
 have hX := trivial
 refine sat_mk [.cell 0 27] 0 2 Tryz.call224 Tryz.func224 Tryz.ntmps224 rfl rfl rfl rfl rfl ?_
 refine awl_live' [] fun ρ hL => ?_
 clear hL
 have hL := trivial
 refine zA ?_
 intro K hK
 refine zE [0] ?_
 clear hK K hL
 refine zS [0] ?_
 refine zR ?_
 try simp only [go_sem, simprocAttr]
 all_goals (first | done | rfl | (simp; done) | (simp [inR]; done) | (simp_all [inR]; done) | (simp [inR]; grind))
theorem sat_spec_l2DrawRight (c : Cu)  : ∃ (b t p l : Int) (d : Cu), (keyOk ⟨b, t, p, l⟩ = true) ∧ Sat Tryz.prog 211 [.ptr 0 0] [⟨3, c.cells, true, false⟩] (.agg [.int .i64 b, .int .i64 t, .int .i64 p, .int .i64 l]) [⟨3, d.cells, true, false⟩] := by
 suffices hE : ∃ zv zh, (∃ (b t p l : Int) (d : Cu), (keyOk ⟨b, t, p, l⟩ = true) ∧ zv = (.agg [.int .i64 b, .int .i64 t, .int .i64 p, .int .i64 l]) ∧ zh = [⟨3, d.cells, true, false⟩]) ∧ Sat Tryz.prog 211 [.ptr 0 0] [⟨3, c.cells, true, false⟩] zv zh from by
   obtain ⟨_, _, ⟨b, t, p, l, d, hq, rfl, rfl⟩, hs⟩ := hE
   exact ⟨b, t, p, l, d, hq, hs⟩
 have hX := trivial
 refine sat_ex [.cell 2 27] 1 46 Tryz.call211 Tryz.func211 Tryz.ntmps211 rfl rfl rfl rfl rfl ?_
 refine zI [0] ?_
 refine zS [0, 2] ?_
 refine zSF [0, 2, 3] (sat_spec_Root) ?_
 obtain ⟨x0, c, hx0, hs1⟩ := sat_spec_l1Below c 4
 have hb0 := hx0.2.1 (by decide)
 intro ρ hL
 refine zA ?_
 intro K hK
 refine zFJ [0] (hs1) ?_
 refine zE [0, 2, 3, 6] ?_
 clear hK K hL
 intro ρ hL
 refine awl_block fun R1 hw1 hR1 => ?_
 revert ρ hL
 refine zS [0, 2, 3, 6, 7] ?_
 refine zC ?_ ?_
 · intro c1
   obtain ⟨x1, c, hx1, hs2⟩ := sat_spec_l1Below c 30
   have hb1 := hx1.2.1 (by decide)
   intro ρ hL
   refine zA ?_
   intro K hK
   refine zFJ [0] (hs2) ?_
   refine zE [0, 2, 3] ?_
   clear hK K hL
   obtain ⟨x2, c, hx2, hs3⟩ := sat_spec_l1Below c 33
   have hb2 := hx2.2.1 (by decide)
   have w1 : IntKind.i64.wrap (x1 + x2) = x1 + x2 := wrap64 (by omega)
   have hX0 := hX
   replace hX := And.intro w1 hX
   intro ρ hL
   refine zAD [0, 1, 0, 4, 15, 31, 63] ?_
   intro K hK
   refine zFDJ [0, 1, 0, 4, 15, 31, 63] [0] (hs3) ?_
   refine zE [0, 2, 3] ?_
   clear hK K hL
   clear hX
   have hX := hX0
   clear hX0
   intro ρ hL
   refine awl_nil ?_
   refine blk_normal (hR1 _ _ (.mk ?_))
   obtain ⟨q1, c, hq1, hs4⟩ := sat_spec_l1Once c 2
   refine zA ?_
   intro K hK
   refine zFJ [0] (hs4) ?_
   refine zE [0, 2, 3, 35] ?_
   clear hK K hL
   refine zC ?_ ?_
   · intro c2
     obtain ⟨x3, c, hx3, hs5⟩ := sat_spec_l1Below c 64
     have hb3 := hx3.2.1 (by decide)
     intro ρ hL
     refine zA ?_
     intro K hK
     refine zFJ [0] (hs5) ?_
     refine zE [0, 2, 3] ?_
     clear hK K hL
     obtain ⟨q2, c, hq2, hs6⟩ := sat_spec_l1Once c 5
     intro ρ hL
     refine zA ?_
     intro K hK
     refine zFJ [0] (hs6) ?_
     refine zE [0, 2, 3, 40] ?_
     clear hK K hL
     refine zC ?_ ?_
     · intro c3
       obtain ⟨x4, c, hx4, hs7⟩ := sat_spec_l1Below c 7
       have hb4 := hx4.2.1 (by decide)
       have w4 : IntKind.i64.wrap (1 + x4) = 1 + x4 := wrap64 (by omega)
       have hX0 := hX
       replace hX := And.intro w4 hX
       intro ρ hL
       refine zA ?_
       intro K hK
       refine zFJ [0] (hs7) ?_
       refine zE [2, 3] ?_
       clear hK K hL
       clear hX
       have hX := hX0
       clear hX0
       refine zS [2] ?_
       refine zX [] [0] ?_
       refine ⟨?y1_0, ?y1_1, ?y1_2, ?y1_3, c, ?hq1, ?hv1, ?hh1⟩
       case hv1 => (try simp only [go_sem, simprocAttr, hX]); first | done | rfl
       case hh1 => (try simp only [go_sem, simprocAttr, hX]); first | done | rfl
       all_goals try clear hR1
       all_goals (first | exact keyOk_mk exact_all (by omega) (by omega) | exact keyOk_mk (exact_small (by omega) (by omega) (by omega)) (by omega) (by omega) | exact keyOk_mk (exact_64 (B := x1) (L := x2) (by omega) (by omega) (by omega) (by omega)) (by omega) (by omega))
     · intro c3
       intro ρ hL
       refine awl_skip ?_
       revert ρ hL
       refine zS [2] ?_
       refine zX [] [0] ?_
       refine ⟨?y2_0, ?y2_1, ?y2_2, ?y2_3, c, ?hq2, ?hv2, ?hh2⟩
       case hv2 => (try simp only [go_sem, simprocAttr, hX]); first | done | rfl
       case hh2 => (try simp only [go_sem, simprocAttr, hX]); first | done | rfl
       all_goals try clear hR1
       all_goals (first | exact keyOk_mk exact_all (by omega) (by omega) | exact keyOk_mk (exact_small (by omega) (by omega) (by omega)) (by omega) (by omega) | exact keyOk_mk (exact_64 (B := x1) (L := x2) (by omega) (by omega) (by omega) (by omega)) (by omega) (by omega))
   · intro c2
     intro ρ hL
     refine awl_skip ?_
     obtain ⟨q2, c, hq2, hs8⟩ := sat_spec_l1Once c 5
     refine zA ?_
     intro K hK
     refine zFJ [0] (hs8) ?_
     refine zE [0, 2, 3, 40] ?_
     clear hK K hL
     refine zC ?_ ?_
     · intro c4
       obtain ⟨x4, c, hx4, hs9⟩ := sat_spec_l1Below c 7
       have hb4 := hx4.2.1 (by decide)
       have w4 : IntKind.i64.wrap (1 + x4) = 1 + x4 := wrap64 (by omega)
       have hX0 := hX
       replace hX := And.intro w4 hX
       intro ρ hL
       refine zA ?_
       intro K hK
       refine zFJ [0] (hs9) ?_
       refine zE [2, 3] ?_
       clear hK K hL
       clear hX
       have hX := hX0
       clear hX0
       refine zS [2] ?_
       refine zX [] [0] ?_
       refine ⟨?y3_0, ?y3_1, ?y3_2, ?y3_3, c, ?hq3, ?hv3, ?hh3⟩
       case hv3 => (try simp only [go_sem, simprocAttr, hX]); first | done | rfl
       case hh3 => (try simp only [go_sem, simprocAttr, hX]); first | done | rfl
       all_goals try clear hR1
       all_goals (first | exact keyOk_mk exact_all (by omega) (by omega) | exact keyOk_mk (exact_small (by omega) (by omega) (by omega)) (by omega) (by omega) | exact keyOk_mk (exact_64 (B := x1) (L := x2) (by omega) (by omega) (by omega) (by omega)) (by omega) (by omega))
     · intro c4
       intro ρ hL
       refine awl_skip ?_
       revert ρ hL
       refine zS [2] ?_
       refine zX [] [0] ?_
       refine ⟨?y4_0, ?y4_1, ?y4_2, ?y4_3, c, ?hq4, ?hv4, ?hh4⟩
       case hv4 => (try simp only [go_sem, simprocAttr, hX]); first | done | rfl
       case hh4 => (try simp only [go_sem, simprocAttr, hX]); first | done | rfl
       all_goals try clear hR1
       all_goals (first | exact keyOk_mk exact_all (by omega) (by omega) | exact keyOk_mk (exact_small (by omega) (by omega) (by omega)) (by omega) (by omega) | exact keyOk_mk (exact_64 (B := x1) (L := x2) (by omega) (by omega) (by omega) (by omega)) (by omega) (by omega))
 · intro c1
   refine zS [0, 2, 3, 6, 18] ?_
   refine zC ?_ ?_
   · intro c5
     obtain ⟨x1, c, hx1, hs10⟩ := sat_spec_l1Below c 20
     have hb1 := hx1.2.1 (by decide)
     have w1 : IntKind.i64.wrap (64 * x1) = 64 * x1 := wrap64 (by omega)
     have hX0 := hX
     replace hX := And.intro w1 hX
     intro ρ hL
     refine zA ?_
     intro K hK
     refine zFJ [0] (hs10) ?_
     refine zE [0, 2, 3] ?_
     clear hK K hL
     clear hX
     have hX := hX0
     clear hX0
     obtain ⟨x2, c, hx2, hs11⟩ := sat_spec_l1Below c 9
     have hb2 := hx2.2.1 (by decide)
     have w2 : IntKind.i64.wrap (64 * x2) = 64 * x2 := wrap64 (by omega)
     have w3 : IntKind.i64.wrap (64 * x1 + 64 * x2) = 64 * x1 + 64 * x2 := wrap64 (by omega)
     have hX0 := hX
     replace hX := And.intro w2 (And.intro w3 hX)
     intro ρ hL
     refine zAD [0, 1, 0, 4, 12, 31, 63, 127] ?_
     intro K hK
     refine zFDJ [0, 1, 0, 4, 12, 31, 63, 127] [0] (hs11) ?_
     refine zE [0, 2, 3] ?_
     clear hK K hL
     clear hX
     have hX := hX0
     clear hX0
     intro ρ hL
     refine awl_nil ?_
     refine blk_normal (hR1 _ _ (.mk ?_))
     obtain ⟨q1, c, hq1, hs12⟩ := sat_spec_l1Once c 2
     refine zA ?_
     intro K hK
     refine zFJ [0] (hs12) ?_
     refine zE [0, 2, 3, 35] ?_
     clear hK K hL
     refine zC ?_ ?_
     · intro c6
       obtain ⟨x3, c, hx3, hs13⟩ := sat_spec_l1Below c 64
       have hb3 := hx3.2.1 (by decide)
       intro ρ hL
       refine zA ?_
       intro K hK
       refine zFJ [0] (hs13) ?_
       refine zE [0, 2, 3] ?_
       clear hK K hL
       obtain ⟨q2, c, hq2, hs14⟩ := sat_spec_l1Once c 5
       intro ρ hL
       refine zA ?_
       intro K hK
       refine zFJ [0] (hs14) ?_
       refine zE [0, 2, 3, 40] ?_
       clear hK K hL
       refine zC ?_ ?_
       · intro c7
         obtain ⟨x4, c, hx4, hs15⟩ := sat_spec_l1Below c 7
         have hb4 := hx4.2.1 (by decide)
         have w4 : IntKind.i64.wrap (1 + x4) = 1 + x4 := wrap64 (by omega)
         have hX0 := hX
         replace hX := And.intro w4 hX
         intro ρ hL
         refine zA ?_
         intro K hK
         refine zFJ [0] (hs15) ?_
         refine zE [2, 3] ?_
         clear hK K hL
         clear hX
         have hX := hX0
         clear hX0
         refine zS [2] ?_
         refine zX [] [0] ?_
         refine ⟨?y5_0, ?y5_1, ?y5_2, ?y5_3, c, ?hq5, ?hv5, ?hh5⟩
         case hv5 => (try simp only [go_sem, simprocAttr, hX]); first | done | rfl
         case hh5 => (try simp only [go_sem, simprocAttr, hX]); first | done | rfl
         all_goals try clear hR1
         all_goals (first | exact keyOk_mk exact_all (by omega) (by omega) | exact keyOk_mk (exact_small (by omega) (by omega) (by omega)) (by omega) (by omega) | exact keyOk_mk (exact_64 (B := x1) (L := x2) (by omega) (by omega) (by omega) (by omega)) (by omega) (by omega))
       · intro c7
         intro ρ hL
         refine awl_skip ?_
         revert ρ hL
         refine zS [2] ?_
         refine zX [] [0] ?_
         refine ⟨?y6_0, ?y6_1, ?y6_2, ?y6_3, c, ?hq6, ?hv6, ?hh6⟩
         case hv6 => (try simp only [go_sem, simprocAttr, hX]); first | done | rfl
         case hh6 => (try simp only [go_sem, simprocAttr, hX]); first | done | rfl
         all_goals try clear hR1
         all_goals (first | exact keyOk_mk exact_all (by omega) (by omega) | exact keyOk_mk (exact_small (by omega) (by omega) (by omega)) (by omega) (by omega) | exact keyOk_mk (exact_64 (B := x1) (L := x2) (by omega) (by omega) (by omega) (by omega)) (by omega) (by omega))
     · intro c6
       intro ρ hL
       refine awl_skip ?_
       obtain ⟨q2, c, hq2, hs16⟩ := sat_spec_l1Once c 5
       refine zA ?_
       intro K hK
       refine zFJ [0] (hs16) ?_
       refine zE [0, 2, 3, 40] ?_
       clear hK K hL
       refine zC ?_ ?_
       · intro c8
         obtain ⟨x4, c, hx4, hs17⟩ := sat_spec_l1Below c 7
         have hb4 := hx4.2.1 (by decide)
         have w4 : IntKind.i64.wrap (1 + x4) = 1 + x4 := wrap64 (by omega)
         have hX0 := hX
         replace hX := And.intro w4 hX
         intro ρ hL
         refine zA ?_
         intro K hK
         refine zFJ [0] (hs17) ?_
         refine zE [2, 3] ?_
         clear hK K hL
         clear hX
         have hX := hX0
         clear hX0
         refine zS [2] ?_
         refine zX [] [0] ?_
         refine ⟨?y7_0, ?y7_1, ?y7_2, ?y7_3, c, ?hq7, ?hv7, ?hh7⟩
         case hv7 => (try simp only [go_sem, simprocAttr, hX]); first | done | rfl
         case hh7 => (try simp only [go_sem, simprocAttr, hX]); first | done | rfl
         all_goals try clear hR1
         all_goals (first | exact keyOk_mk exact_all (by omega) (by omega) | exact keyOk_mk (exact_small (by omega) (by omega) (by omega)) (by omega) (by omega) | exact keyOk_mk (exact_64 (B := x1) (L := x2) (by omega) (by omega) (by omega) (by omega)) (by omega) (by omega))
       · intro c8
         intro ρ hL
         refine awl_skip ?_
         revert ρ hL
         refine zS [2] ?_
         refine zX [] [0] ?_
         refine ⟨?y8_0, ?y8_1, ?y8_2, ?y8_3, c, ?hq8, ?hv8, ?hh8⟩
         case hv8 => (try simp only [go_sem, simprocAttr, hX]); first | done | rfl
         case hh8 => (try simp only [go_sem, simprocAttr, hX]); first | done | rfl
         all_goals try clear hR1
         all_goals (first | exact keyOk_mk exact_all (by omega) (by omega) | exact keyOk_mk (exact_small (by omega) (by omega) (by omega)) (by omega) (by omega) | exact keyOk_mk (exact_64 (B := x1) (L := x2) (by omega) (by omega) (by omega) (by omega)) (by omega) (by omega))
   · intro c5
     refine zS [0, 2, 3, 31] ?_
     refine zC ?_ ?_
     · intro c9
       refine zS [0, 2, 3] ?_
       intro ρ hL
       refine awl_nil ?_
       refine blk_normal (hR1 _ _ (.mk ?_))
       obtain ⟨q1, c, hq1, hs18⟩ := sat_spec_l1Once c 2
       refine zA ?_
       intro K hK
       refine zFJ [0] (hs18) ?_
       refine zE [0, 2, 3, 35] ?_
       clear hK K hL
       refine zC ?_ ?_
       · intro c10
         obtain ⟨x3, c, hx3, hs19⟩ := sat_spec_l1Below c 64
         have hb3 := hx3.2.1 (by decide)
         intro ρ hL
         refine zA ?_
         intro K hK
         refine zFJ [0] (hs19) ?_
         refine zE [0, 2, 3] ?_
         clear hK K hL
         obtain ⟨q2, c, hq2, hs20⟩ := sat_spec_l1Once c 5
         intro ρ hL
         refine zA ?_
         intro K hK
         refine zFJ [0] (hs20) ?_
         refine zE [0, 2, 3, 40] ?_
         clear hK K hL
         refine zC ?_ ?_
         · intro c11
           obtain ⟨x4, c, hx4, hs21⟩ := sat_spec_l1Below c 7
           have hb4 := hx4.2.1 (by decide)
           have w4 : IntKind.i64.wrap (1 + x4) = 1 + x4 := wrap64 (by omega)
           have hX0 := hX
           replace hX := And.intro w4 hX
           intro ρ hL
           refine zA ?_
           intro K hK
           refine zFJ [0] (hs21) ?_
           refine zE [2, 3] ?_
           clear hK K hL
           clear hX
           have hX := hX0
           clear hX0
           refine zS [2] ?_
           refine zX [] [0] ?_
           refine ⟨?y9_0, ?y9_1, ?y9_2, ?y9_3, c, ?hq9, ?hv9, ?hh9⟩
           case hv9 => (try simp only [go_sem, simprocAttr, hX]); first | done | rfl
           case hh9 => (try simp only [go_sem, simprocAttr, hX]); first | done | rfl
           all_goals try clear hR1
           all_goals (first | exact keyOk_mk exact_all (by omega) (by omega) | exact keyOk_mk (exact_small (by omega) (by omega) (by omega)) (by omega) (by omega) | exact keyOk_mk (exact_64 (B := x1) (L := x2) (by omega) (by omega) (by omega) (by omega)) (by omega) (by omega))
         · intro c11
           intro ρ hL
           refine awl_skip ?_
           revert ρ hL
           refine zS [2] ?_
           refine zX [] [0] ?_
           refine ⟨?y10_0, ?y10_1, ?y10_2, ?y10_3, c, ?hq10, ?hv10, ?hh10⟩
           case hv10 => (try simp only [go_sem, simprocAttr, hX]); first | done | rfl
           case hh10 => (try simp only [go_sem, simprocAttr, hX]); first | done | rfl
           all_goals try clear hR1
           all_goals (first | exact keyOk_mk exact_all (by omega) (by omega) | exact keyOk_mk (exact_small (by omega) (by omega) (by omega)) (by omega) (by omega) | exact keyOk_mk (exact_64 (B := x1) (L := x2) (by omega) (by omega) (by omega) (by omega)) (by omega) (by omega))
       · intro c10
         intro ρ hL
         refine awl_skip ?_
         obtain ⟨q2, c, hq2, hs22⟩ := sat_spec_l1Once c 5
         refine zA ?_
         intro K hK
         refine zFJ [0] (hs22) ?_
         refine zE [0, 2, 3, 40] ?_
         clear hK K hL
         refine zC ?_ ?_
         · intro c12
           obtain ⟨x4, c, hx4, hs23⟩ := sat_spec_l1Below c 7
           have hb4 := hx4.2.1 (by decide)
           have w4 : IntKind.i64.wrap (1 + x4) = 1 + x4 := wrap64 (by omega)
           have hX0 := hX
           replace hX := And.intro w4 hX
           intro ρ hL
           refine zA ?_
           intro K hK
           refine zFJ [0] (hs23) ?_
           refine zE [2, 3] ?_
           clear hK K hL
           clear hX
           have hX := hX0
           clear hX0
           refine zS [2] ?_
           refine zX [] [0] ?_
           refine ⟨?y11_0, ?y11_1, ?y11_2, ?y11_3, c, ?hq11, ?hv11, ?hh11⟩
           case hv11 => (try simp only [go_sem, simprocAttr, hX]); first | done | rfl
           case hh11 => (try simp only [go_sem, simprocAttr, hX]); first | done | rfl
           all_goals try clear hR1
           all_goals (first | exact keyOk_mk exact_all (by omega) (by omega) | exact keyOk_mk (exact_small (by omega) (by omega) (by omega)) (by omega) (by omega) | exact keyOk_mk (exact_64 (B := x1) (L := x2) (by omega) (by omega) (by omega) (by omega)) (by omega) (by omega))
         · intro c12
           intro ρ hL
           refine awl_skip ?_
           revert ρ hL
           refine zS [2] ?_
           refine zX [] [0] ?_
           refine ⟨?y12_0, ?y12_1, ?y12_2, ?y12_3, c, ?hq12, ?hv12, ?hh12⟩
           case hv12 => (try simp only [go_sem, simprocAttr, hX]); first | done | rfl
           case hh12 => (try simp only [go_sem, simprocAttr, hX]); first | done | rfl
           all_goals try clear hR1
           all_goals (first | exact keyOk_mk exact_all (by omega) (by omega) | exact keyOk_mk (exact_small (by omega) (by omega) (by omega)) (by omega) (by omega) | exact keyOk_mk (exact_64 (B := x1) (L := x2) (by omega) (by omega) (by omega) (by omega)) (by omega) (by omega))
     · intro c9
       intro ρ hL
       refine awl_skip ?_
       refine awl_nil ?_
       refine blk_normal (hR1 _ _ (.mk ?_))
       obtain ⟨q1, c, hq1, hs24⟩ := sat_spec_l1Once c 2
       refine zA ?_
       intro K hK
       refine zFJ [0] (hs24) ?_
       refine zE [0, 2, 3, 35] ?_
       clear hK K hL
       refine zC ?_ ?_
       · intro c13
         obtain ⟨x3, c, hx3, hs25⟩ := sat_spec_l1Below c 64
         have hb3 := hx3.2.1 (by decide)
         intro ρ hL
         refine zA ?_
         intro K hK
         refine zFJ [0] (hs25) ?_
         refine zE [0, 2, 3] ?_
         clear hK K hL
         obtain ⟨q2, c, hq2, hs26⟩ := sat_spec_l1Once c 5
         intro ρ hL
         refine zA ?_
         intro K hK
         refine zFJ [0] (hs26) ?_
         refine zE [0, 2, 3, 40] ?_
         clear hK K hL
         refine zC ?_ ?_
         · intro c14
           obtain ⟨x4, c, hx4, hs27⟩ := sat_spec_l1Below c 7
           have hb4 := hx4.2.1 (by decide)
           have w4 : IntKind.i64.wrap (1 + x4) = 1 + x4 := wrap64 (by omega)
           have hX0 := hX
           replace hX := And.intro w4 hX
           intro ρ hL
           refine zA ?_
           intro K hK
           refine zFJ [0] (hs27) ?_
           refine zE [2, 3] ?_
           clear hK K hL
           clear hX
           have hX := hX0
           clear hX0
           refine zS [2] ?_
           refine zX [] [0] ?_
           refine ⟨?y13_0, ?y13_1, ?y13_2, ?y13_3, c, ?hq13, ?hv13, ?hh13⟩
           case hv13 => (try simp only [go_sem, simprocAttr, hX]); first | done | rfl
           case hh13 => (try simp only [go_sem, simprocAttr, hX]); first | done | rfl
           all_goals try clear hR1
           all_goals (first | exact keyOk_mk exact_all (by omega) (by omega) | exact keyOk_mk (exact_small (by omega) (by omega) (by omega)) (by omega) (by omega) | exact keyOk_mk (exact_64 (B := x1) (L := x2) (by omega) (by omega) (by omega) (by omega)) (by omega) (by omega))
         · intro c14
           intro ρ hL
           refine awl_skip ?_
           revert ρ hL
           refine zS [2] ?_
           refine zX [] [0] ?_
           refine ⟨?y14_0, ?y14_1, ?y14_2, ?y14_3, c, ?hq14, ?hv14, ?hh14⟩
           case hv14 => (try simp only [go_sem, simprocAttr, hX]); first | done | rfl
           case hh14 => (try simp only [go_sem, simprocAttr, hX]); first | done | rfl
           all_goals try clear hR1
           all_goals (first | exact keyOk_mk exact_all (by omega) (by omega) | exact keyOk_mk (exact_small (by omega) (by omega) (by omega)) (by omega) (by omega) | exact keyOk_mk (exact_64 (B := x1) (L := x2) (by omega) (by omega) (by omega) (by omega)) (by omega) (by omega))
       · intro c13
         intro ρ hL
         refine awl_skip ?_
         obtain ⟨q2, c, hq2, hs28⟩ := sat_spec_l1Once c 5
         refine zA ?_
         intro K hK
         refine zFJ [0] (hs28) ?_
         refine zE [0, 2, 3, 40] ?_
         clear hK K hL
         refine zC ?_ ?_
         · intro c15
           obtain ⟨x4, c, hx4, hs29⟩ := sat_spec_l1Below c 7
           have hb4 := hx4.2.1 (by decide)
           have w4 : IntKind.i64.wrap (1 + x4) = 1 + x4 := wrap64 (by omega)
           have hX0 := hX
           replace hX := And.intro w4 hX
           intro ρ hL
           refine zA ?_
           intro K hK
           refine zFJ [0] (hs29) ?_
           refine zE [2, 3] ?_
           clear hK K hL
           clear hX
           have hX := hX0
           clear hX0
           refine zS [2] ?_
           refine zX [] [0] ?_
           refine ⟨?y15_0, ?y15_1, ?y15_2, ?y15_3, c, ?hq15, ?hv15, ?hh15⟩
           case hv15 => (try simp only [go_sem, simprocAttr, hX]); first | done | rfl
           case hh15 => (try simp only [go_sem, simprocAttr, hX]); first | done | rfl
           all_goals try clear hR1
           all_goals (first | exact keyOk_mk exact_all (by omega) (by omega) | exact keyOk_mk (exact_small (by omega) (by omega) (by omega)) (by omega) (by omega) | exact keyOk_mk (exact_64 (B := x1) (L := x2) (by omega) (by omega) (by omega) (by omega)) (by omega) (by omega))
         · intro c15
           intro ρ hL
           refine awl_skip ?_
           revert ρ hL
           refine zS [2] ?_
           refine zX [] [0] ?_
           refine ⟨?y16_0, ?y16_1, ?y16_2, ?y16_3, c, ?hq16, ?hv16, ?hh16⟩
           case hv16 => (try simp only [go_sem, simprocAttr, hX]); first | done | rfl
           case hh16 => (try simp only [go_sem, simprocAttr, hX]); first | done | rfl
           all_goals try clear hR1
           all_goals (first | exact keyOk_mk exact_all (by omega) (by omega) | exact keyOk_mk (exact_small (by omega) (by omega) (by omega)) (by omega) (by omega) | exact keyOk_mk (exact_64 (B := x1) (L := x2) (by omega) (by omega) (by omega) (by omega)) (by omega) (by omega))
theorem sat_spec_l2Draw (c : Cu)  : ∃ (b t p l : Int) (d : Cu), (True) ∧ Sat Tryz.prog 186 [.ptr 0 0] [⟨3, c.cells, true, false⟩] (.agg [.int .i64 b, .int .i64 t, .int .i64 p, .int .i64 l]) [⟨3, d.cells, true, false⟩] := by
 suffices hE : ∃ zv zh, (∃ (b t p l : Int) (d : Cu), (True) ∧ zv = (.agg [.int .i64 b, .int .i64 t, .int .i64 p, .int .i64 l]) ∧ zh = [⟨3, d.cells, true, false⟩]) ∧ Sat Tryz.prog 186 [.ptr 0 0] [⟨3, c.cells, true, false⟩] zv zh from by
   obtain ⟨_, _, ⟨b, t, p, l, d, hq, rfl, rfl⟩, hs⟩ := hE
   exact ⟨b, t, p, l, d, hq, hs⟩
 have hX := trivial
 refine sat_ex [.cell 2 27] 1 30 Tryz.call186 Tryz.func186 Tryz.ntmps186 rfl rfl rfl rfl rfl ?_
 refine zI [0] ?_
 refine zS [0, 2] ?_
 obtain ⟨b, t, p, l, c, hk, hs1⟩ := sat_spec_l2DrawRight c
 intro ρ hL
 refine zA ?_
 intro K hK
 refine zFJ [0] (hs1) ?_
 refine zE [0, 2, 3] ?_
 clear hK K hL
 obtain ⟨x0, c, hx0, hs2⟩ := sat_spec_l1Below c 12
 have hb0 := hx0.2.1 (by decide)
 intro ρ hL
 refine zA ?_
 intro K hK
 refine zFJ [0] (hs2) ?_
 refine zE [0, 2, 3, 7] ?_
 clear hK K hL
 intro ρ hL
 refine awl_block fun R1 hw1 hR1 => ?_
 revert ρ hL
 refine zS [0, 2, 3, 7, 8] ?_
 refine zC ?_ ?_
 · intro c1
   obtain ⟨x1, c, hx1, hs3⟩ := sat_spec_l1PickInt c [-1, 65, 97, 5000] (by simp)
   intro ρ hL
   refine zAD [0, 1, 0, 0, 12, 31, 63, 127] ?_
   intro K hK
   refine zFDJ [0, 1, 0, 0, 12, 31, 63, 127] [0, 3] (hs3) ?_
   refine zE [2, 3] ?_
   clear hK K hL
   intro ρ hL
   refine awl_nil ?_
   refine blk_normal (hR1 _ _ (.mk ?_))
   revert ρ hL
   refine zS [2] ?_
   refine zX [] [0] ?_
   refine ⟨?y1_0, ?y1_1, ?y1_2, ?y1_3, c, ?hq1, ?hv1, ?hh1⟩
   case hv1 => (try simp only [go_sem, simprocAttr, hX]); first | done | rfl
   case hh1 => (try simp only [go_sem, simprocAttr, hX]); first | done | rfl
   all_goals try clear hR1
   all_goals (first | trivial | assumption | omega | (simp; done))
 · intro c1
   refine zS [0, 2, 3, 7, 17] ?_
   refine zC ?_ ?_
   · intro c2
     obtain ⟨x1, c, hx1, hs4⟩ := sat_spec_l1PickInt c [-1, 64] (by simp)
     intro ρ hL
     refine zA ?_
     intro K hK
     refine zFJ [0, 3] (hs4) ?_
     refine zE [2, 3] ?_
     clear hK K hL
     intro ρ hL
     refine awl_nil ?_
     refine blk_normal (hR1 _ _ (.mk ?_))
     revert ρ hL
     refine zS [2] ?_
     refine zX [] [0] ?_
     refine ⟨?y2_0, ?y2_1, ?y2_2, ?y2_3, c, ?hq2, ?hv2, ?hh2⟩
     case hv2 => (try simp only [go_sem, simprocAttr, hX]); first | done | rfl
     case hh2 => (try simp only [go_sem, simprocAttr, hX]); first | done | rfl
     all_goals try clear hR1
     all_goals (first | trivial | assumption | omega | (simp; done))
   · intro c2
     refine zS [0, 2, 3, 23] ?_
     refine zC ?_ ?_
     · intro c3
       obtain ⟨x1, c, hx1, hs5⟩ := sat_spec_l1PickInt c [-1, 8] (by simp)
       intro ρ hL
       refine zA ?_
       intro K hK
       refine zFJ [0, 3] (hs5) ?_
       refine zE [2, 3] ?_
       clear hK K hL
       intro ρ hL
       refine awl_nil ?_
       refine blk_normal (hR1 _ _ (.mk ?_))
       revert ρ hL
       refine zS [2] ?_
       refine zX [] [0] ?_
       refine ⟨?y3_0, ?y3_1, ?y3_2, ?y3_3, c, ?hq3, ?hv3, ?hh3⟩
       case hv3 => (try simp only [go_sem, simprocAttr, hX]); first | done | rfl
       case hh3 => (try simp only [go_sem, simprocAttr, hX]); first | done | rfl
       all_goals try clear hR1
       all_goals (first | trivial | assumption | omega | (simp; done))
     · intro c3
       intro ρ hL
       refine awl_skip ?_
       refine awl_nil ?_
       refine blk_normal (hR1 _ _ (.mk ?_))
       revert ρ hL
       refine zS [2] ?_
       refine zX [] [0] ?_
       refine ⟨?y4_0, ?y4_1, ?y4_2, ?y4_3, c, ?hq4, ?hv4, ?hh4⟩
       case hv4 => (try simp only [go_sem, simprocAttr, hX]); first | done | rfl
       case hh4 => (try simp only [go_sem, simprocAttr, hX]); first | done | rfl
       all_goals try clear hR1
       all_goals (first | trivial | assumption | omega | (simp; done))
theorem sat_spec_KeyWord (k : Key) (n : Int)  : Sat Tryz.prog 177 [.agg k.cells, .int .i64 n] [] (.agg (keyWord k n).cells) [] := by
 have hX := trivial
 refine sat_mk [.cell 4 29] 0 14 Tryz.call177 Tryz.func177 Tryz.ntmps177 rfl rfl rfl rfl rfl ?_
 refine zI [0, 1] ?_
 refine zS [1, 2, 4] ?_
 refine zSF [2, 4, 5] (sat_spec_Plain _) ?_
 refine zSF [2, 4, 5, 9] (sat_spec_KeyOk _) ?_
 refine zC ?_ ?_
 · intro c1
   refine zS [2, 4, 5] ?_
   refine zS [4, 5] ?_
   refine zS [4] ?_
   refine zR ?_
   try simp only [go_sem, simprocAttr]
   all_goals (rw [keyWord, if_pos c1] <;> rfl)
 · intro c1
   intro ρ hL
   refine awl_skip ?_
   revert ρ hL
   refine zS [4] ?_
   refine zR ?_
   try simp only [go_sem, simprocAttr]
   all_goals (rw [keyWord, if_neg (by rw [c1]; exact Bool.noConfusion)] <;> rfl)
theorem sat_spec_l3DrawRight (c : Cu)  : ∃ (w : Word) (d : Cu), (wordOk w = true) ∧ Sat Tryz.prog 185 [.ptr 0 0] [⟨3, c.cells, true, false⟩] (.agg w.cells) [⟨3, d.cells, true, false⟩] := by
 suffices hE : ∃ zv zh, (∃ (w : Word) (d : Cu), (wordOk w = true) ∧ zv = (.agg w.cells) ∧ zh = [⟨3, d.cells, true, false⟩]) ∧ Sat Tryz.prog 185 [.ptr 0 0] [⟨3, c.cells, true, false⟩] zv zh from by
   obtain ⟨_, _, ⟨w, d, hq, rfl, rfl⟩, hs⟩ := hE
   exact ⟨w, d, hq, hs⟩
 have hX := trivial
 refine sat_ex [.cell 2 29] 1 26 Tryz.call185 Tryz.func185 Tryz.ntmps185 rfl rfl rfl rfl rfl ?_
 refine zI [0] ?_
 refine zS [0, 2] ?_
 obtain ⟨q1, c, hq1, hs1⟩ := sat_spec_l1Once c 3
 intro ρ hL
 refine zA ?_
 intro K hK
 refine zFJ [0] (hs1) ?_
 refine zE [0, 2, 5] ?_
 clear hK K hL
 refine zC ?_ ?_
 · intro c1
   obtain ⟨x1, c, hx1, hs2⟩ := sat_spec_l1PickInt c [0, 1, 2, 5, 31, 65535] (by simp)
   intro ρ hL
   refine zA ?_
   intro K hK
   refine zFJ [0, 2] (hs2) ?_
   refine zF (sat_spec_Plain _) ?_
   refine zE [2] ?_
   clear hK K hL
   refine zX [] [0] ?_
   refine ⟨plain x1, c, ?hq1, ?hv1, ?hh1⟩
   case hv1 => (try simp only [go_sem, simprocAttr, hX]); first | done | rfl
   case hh1 => (try simp only [go_sem, simprocAttr, hX]); first | done | rfl
   all_goals (exact plain_ok _)
 · intro c1
   intro ρ hL
   refine awl_skip ?_
   obtain ⟨b, t, p, l, c, hk, hs3⟩ := sat_spec_l2DrawRight c
   refine zA ?_
   intro K hK
   refine zFJ [0] (hs3) ?_
   refine zE [0, 2, 3] ?_
   clear hK K hL
   obtain ⟨x1, c, hx1, hs4⟩ := sat_spec_l1PickInt c [b, b, IntKind.i64.wrap (b + 1), t, 3, 1] (by simp)
   intro ρ hL
   refine zAD [0, 0, 0, 4, 0, 16, 0, 64, 192, 0, 512, 2044, 4094, 8191, 16383] ?_
   intro K hK
   refine zFDJ [0, 0, 0, 4, 0, 16, 0, 64, 192, 0, 512, 2044, 4094, 8191, 16383] [0, 3] (hs4) ?_
   refine zFD [0, 0, 0, 4, 0, 16, 0, 64, 192, 0, 512, 2044, 4094, 8191, 16383] (sat_spec_KeyWord ⟨b, t, p, l⟩ x1) ?_
   refine zE [2] ?_
   clear hK K hL
   refine zX [] [0] ?_
   refine ⟨keyWord ⟨b, t, p, l⟩ x1, c, ?hq2, ?hv2, ?hh2⟩
   case hv2 => (try simp only [go_sem, simprocAttr, hX]); first | done | rfl
   case hh2 => (try simp only [go_sem, simprocAttr, hX]); first | done | rfl
   all_goals (exact keyWord_ok)
theorem sat_spec_l3Draw (c : Cu)  : ∃ (w : Word) (d : Cu), (True) ∧ Sat Tryz.prog 137 [.ptr 0 0] [⟨3, c.cells, true, false⟩] (.agg w.cells) [⟨3, d.cells, true, false⟩] := by
 suffices hE : ∃ zv zh, (∃ (w : Word) (d : Cu), (True) ∧ zv = (.agg w.cells) ∧ zh = [⟨3, d.cells, true, false⟩]) ∧ Sat Tryz.prog 137 [.ptr 0 0] [⟨3, c.cells, true, false⟩] zv zh from by
   obtain ⟨_, _, ⟨w, d, hq, rfl, rfl⟩, hs⟩ := hE
   exact ⟨w, d, hq, hs⟩
 have hX := trivial
 refine sat_ex [.cell 2 29] 1 26 Tryz.call137 Tryz.func137 Tryz.ntmps137 rfl rfl rfl rfl rfl ?_
 refine zI [0] ?_
 refine zS [0, 2] ?_
 obtain ⟨w, c, hw, hs1⟩ := sat_spec_l3DrawRight c
 intro ρ hL
 refine zA ?_
 intro K hK
 refine zFJ [0] (hs1) ?_
 refine zE [0, 2, 3] ?_
 clear hK K hL
 obtain ⟨x0, c, hx0, hs2⟩ := sat_spec_l1Below c 12
 have hb0 := hx0.2.1 (by decide)
 intro ρ hL
 refine zA ?_
 intro K hK
 refine zFJ [0] (hs2) ?_
 refine zE [0, 2, 3, 7] ?_
 clear hK K hL
 intro ρ hL
 refine awl_block fun R1 hw1 hR1 => ?_
 revert ρ hL
 refine zS [0, 2, 3, 7, 8] ?_
 refine zC ?_ ?_
 · intro c1
   obtain ⟨x1, c, hx1, hs3⟩ := sat_spec_l1PickInt c [-1, 65536, 9223372036854775807] (by simp)
   intro ρ hL
   refine zA ?_
   intro K hK
   refine zFJ [0, 3] (hs3) ?_
   refine zE [2, 3] ?_
   clear hK K hL
   intro ρ hL
   refine awl_nil ?_
   refine blk_normal (hR1 _ _ (.mk ?_))
   revert ρ hL
   refine zS [2] ?_
   refine zX [] [0] ?_
   refine ⟨⟨x1, w.is, w.key⟩, c, ?hq1, ?hv1, ?hh1⟩
   case hv1 => (try simp only [go_sem, simprocAttr, hX]); first | done | rfl
   case hh1 => (try simp only [go_sem, simprocAttr, hX]); first | done | rfl
   all_goals try clear hR1
   all_goals (first | trivial | assumption | omega | (simp; done))
 · intro c1
   refine zS [0, 2, 3, 7, 14] ?_
   refine zC ?_ ?_
   · intro c2
     refine zS [2, 3] ?_
     intro ρ hL
     refine awl_nil ?_
     refine blk_normal (hR1 _ _ (.mk ?_))
     revert ρ hL
     refine zS [2] ?_
     refine zX [] [0] ?_
     refine ⟨⟨w.n, !w.is, w.key⟩, c, ?hq2, ?hv2, ?hh2⟩
     case hv2 => (try simp only [go_sem, simprocAttr, hX]); first | done | rfl
     case hh2 => (try simp only [go_sem, simprocAttr, hX]); first | done | rfl
     all_goals try clear hR1
     all_goals (first | trivial | assumption | omega | (simp; done))
   · intro c2
     refine zS [0, 2, 3, 20] ?_
     refine zC ?_ ?_
     · intro c3
       obtain ⟨b, t, p, l, c, hk, hs4⟩ := sat_spec_l2Draw c
       intro ρ hL
       refine zA ?_
       intro K hK
       refine zFJ [0] (hs4) ?_
       refine zE [2, 3] ?_
       clear hK K hL
       intro ρ hL
       refine awl_nil ?_
       refine blk_normal (hR1 _ _ (.mk ?_))
       revert ρ hL
       refine zS [2] ?_
       refine zX [] [0] ?_
       refine ⟨⟨w.n, w.is, ⟨b, t, p, l⟩⟩, c, ?hq3, ?hv3, ?hh3⟩
       case hv3 => (try simp only [go_sem, simprocAttr, hX]); first | done | rfl
       case hh3 => (try simp only [go_sem, simprocAttr, hX]); first | done | rfl
       all_goals try clear hR1
       all_goals (first | trivial | assumption | omega | (simp; done))
     · intro c3
       intro ρ hL
       refine awl_skip ?_
       refine awl_nil ?_
       refine blk_normal (hR1 _ _ (.mk ?_))
       revert ρ hL
       refine zS [2] ?_
       refine zX [] [0] ?_
       refine ⟨w, c, ?hq4, ?hv4, ?hh4⟩
       case hv4 => (try simp only [go_sem, simprocAttr, hX]); first | done | rfl
       case hh4 => (try simp only [go_sem, simprocAttr, hX]); first | done | rfl
       all_goals try clear hR1
       all_goals (first | trivial | assumption | omega | (simp; done))
end Go.Proofs.YteojcehneipgdaaGreat.AM
