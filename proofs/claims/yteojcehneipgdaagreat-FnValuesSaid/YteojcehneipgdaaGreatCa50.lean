/- What is drawn: numbers. No conditions but those each theorem bears. -/
import Derived.Test.YteojcehneipgdaaGreatFa
import Derived.Test.YteojcehneipgdaaGreatM6
import Derived.Test.YteojcehneipgdaaGreatCa3
set_option linter.unusedSimpArgs false
set_option linter.unusedVariables false
namespace Go.Proofs.YteojcehneipgdaaGreat.AM
open Go
set_option maxHeartbeats 8000000
set_option maxRecDepth 100000

theorem sat_spec_l1New (bs : List UInt8) (hb : bs.length ≤ 1048576) : ∃ (c : Cu), (True) ∧ Sat Tryz.prog 66 [.sl bs.length bs.length (bytesV bs)] [] (.ptr 0 0) [⟨3, c.cells, true, false⟩] := by
 suffices hE : ∃ zv zh, (∃ (c : Cu), (True) ∧ zv = (.ptr 0 0) ∧ zh = [⟨3, c.cells, true, false⟩]) ∧ Sat Tryz.prog 66 [.sl bs.length bs.length (bytesV bs)] [] zv zh from by
   obtain ⟨_, _, ⟨c, hq, rfl, rfl⟩, hs⟩ := hE
   exact ⟨c, hq, hs⟩
 have hX := trivial
 refine sat_ex [.tmp 2] 0 32 Tryz.call66 Tryz.func66 Tryz.ntmps66 rfl rfl rfl rfl rfl ?_
 refine zI [0] ?_
 refine zS [0] ?_
 refine zS [0, 3] ?_
 refine zS [0, 3, 4] ?_
 intro ρ hL
 have e1 := hL
 refine awl_loopH (fun H0 n σ G => ∃ (q : Int) (i : Nat), n = bs.length - i ∧ (i ≤ bs.length) ∧ (liveE [0] σ ρ ∧ σ 3 = .int .i64 q ∧ σ 4 = .int .i64 (i : Int)) ∧ G = H0) (fun H0 σ G => ∃ (q : Int), (liveE [0] σ ρ ∧ σ 3 = .int .i64 q) ∧ G = H0) ((fun (q : Int) (i : Nat) => bs.length - i) (IntKind.i64.wrap (19220 + (bs.length : Int)))  0) ?init1 (fun n ρ G hI => ?round1) (fun ρ G hJ => ?after1)
 case init1 => exact ⟨(IntKind.i64.wrap (19220 + (bs.length : Int))), 0, rfl, (Nat.zero_le _), ⟨liveE_refl _ _, (hL.2.1), (hL.2.2)⟩, rfl⟩
 case round1 =>
  clear hL
  obtain ⟨q, i, hn, i1_0, hL, hG⟩ := hI
  subst hG
  try simp only [go_sem, simprocAttr, e1, hX] at hL
  refine zA ?_
  intro K hK
  refine zL [0, 3, 4, 12] ?_
  clear hL
  intro ρ hL
  refine grp_andN (tc := 12) (tv := 14) (td := 15) (v := ?v1) 2 rfl [0, 3, 4] hL.2.2.2 rfl (fun hb K1 hK1 => ?run) (fun hb => ?skip) (fun ρ hP hM => ?_)
  case skip => exact skA (want := true) (b := _) (by rw [hb]; rfl) hL.2.2.2 rfl
  case run =>
   simp only [List.take_succ_cons, List.take_zero]
   rw [hb] at hL
   try simp only [go_sem, simprocAttr, hL, hX]
   repeat' refine And.intro (by first | rfl | omega | (simp; done)) ?_
   refine hK1 _ ?_ ?_ ?_ <;> simp only [go_sem, simprocAttr, hL, hX] <;> exact rfl
  simp only [List.drop_succ_cons, List.drop_zero]
  try simp only [go_sem, simprocAttr, hL, hX] at hM
  replace hL := And.intro hP hM
  clear hP hM
  try simp only [go_sem, simprocAttr, hL, hX]
  repeat' refine And.intro (by first | rfl | omega | (simp; done)) ?_
  refine zE [0, 3, 4, 15] ?_
  clear hK K hL
  refine zC ?_ ?_
  · intro c1
    have hi1 : i < bs.length := by omega
    replace hX := And.intro hi1 hX
    intro ρ hL
    refine awl_skip ?_
    refine awl_seq ?_
    refine awl_block fun R1 hw1 hR1 => ?_
    revert ρ hL
    refine zS [0, 3, 4] ?_
    intro ρ hL
    refine awl_nil ?_
    refine blk_normal (hR1 _ _ (.mk ?_))
    have w1 : IntKind.i64.wrap ((i : Int) + 1) = ((i + 1 : Nat) : Int) := by rw [wrap64 (by omega)]; omega
    replace hX := And.intro w1 hX
    revert ρ hL
    refine zS [0, 3, 4] ?_
    intro ρ hL
    refine awl_nil ?_
    refine loop_again _ ?meas ⟨_, (i + 1), rfl, (by omega), ⟨(by simp only [go_sem, simprocAttr, hL, hX, e1]), (hL.2.1), (hL.2.2)⟩, rfl⟩
    case meas => subst hn; omega
  · intro c1
    intro ρ hL
    refine awl_exit ?_
    refine loop_break ?_
    exact ⟨_, ⟨(by simp only [go_sem, simprocAttr, hL, hX, e1]), (hL.2.1)⟩, rfl⟩
 case after1 =>
  clear hL
  obtain ⟨q, hL, hG⟩ := hJ
  subst hG
  try simp only [go_sem, simprocAttr, e1, hX] at hL
  revert ρ hL
  refine zS [2] ?_
  refine zX [0] [0] ?_
  refine ⟨⟨bs, 0, ?y1_1, ⟨Int.le_refl _, hb⟩⟩, ?hq1, ?hv1, ?hh1⟩
  case hv1 => (try simp only [go_sem, simprocAttr, hX]); first | done | rfl
  case hh1 => (try simp only [go_sem, simprocAttr, hX]); first | done | rfl
  all_goals try clear hR1
  all_goals (first | trivial | assumption | omega | (simp; done))
theorem sat_spec_l1Byte (c : Cu)  : ∃ (x : Int) (d : Cu), (0 ≤ x ∧ x ≤ 255) ∧ Sat Tryz.prog 157 [.ptr 0 0] [⟨3, c.cells, true, false⟩] (.int .i64 x) [⟨3, d.cells, true, false⟩] := by
 suffices hE : ∃ zv zh, (∃ (x : Int) (d : Cu), (0 ≤ x ∧ x ≤ 255) ∧ zv = (.int .i64 x) ∧ zh = [⟨3, d.cells, true, false⟩]) ∧ Sat Tryz.prog 157 [.ptr 0 0] [⟨3, c.cells, true, false⟩] zv zh from by
   obtain ⟨_, _, ⟨x, d, hq, rfl, rfl⟩, hs⟩ := hE
   exact ⟨x, d, hq, hs⟩
 have hX := trivial
 refine sat_ex [.tmp 2] 1 58 Tryz.call157 Tryz.func157 Tryz.ntmps157 rfl rfl rfl rfl rfl ?_
 refine zI [0] ?_
 refine zS [0] ?_
 have hc := c.ok
 refine zS [0] ?_
 refine zD [0, 1, 3, 7, 15, 0, 32, 96, 224, 480, 1023, 2047, 4095] [0, 3] ?_
 refine zD [0, 1, 3, 7, 0, 16, 48, 112, 240, 511] [0, 3, 34] ?_
 refine zC ?_ ?_
 · intro c1
   have hn : c.i.toNat < c.b.length := by omega
   have hX0 := hX
   replace hX := And.intro hn hX
   refine zD [0, 0, 2, 6, 14, 0, 32, 96, 224, 510, 1022, 2046, 4095, 8191, 16383] [0, 3] ?_
   clear hX
   have hX := hX0
   clear hX0
   have wi : IntKind.i64.wrap (c.i + 1) = c.i + 1 := wrap64 (by omega)
   have hX0 := hX
   replace hX := And.intro wi hX
   refine zS [3] ?_
   clear hX
   have hX := hX0
   clear hX0
   refine zS [2] ?_
   refine zX [] [0] ?_
   refine ⟨?y1_0, ⟨c.b, c.i + 1, ?y1_2, ⟨by omega, hc.2⟩⟩, ?hq1, ?hv1, ?hh1⟩
   case hv1 => (try simp only [go_sem, simprocAttr, hX]); first | done | rfl
   case hh1 => (try simp only [go_sem, simprocAttr, hX]); first | done | rfl
   all_goals (exact band_le (m := 255) (by decide))
 · intro c1
   intro ρ hL
   refine awl_skip ?_
   revert ρ hL
   refine zS [2] ?_
   refine zX [] [0] ?_
   refine ⟨?y2_0, ⟨c.b, c.i, ?y2_2, c.ok⟩, ?hq2, ?hv2, ?hh2⟩
   case hv2 => (try simp only [go_sem, simprocAttr, hX]); first | done | rfl
   case hh2 => (try simp only [go_sem, simprocAttr, hX]); first | done | rfl
   all_goals (exact band_le (m := 255) (by decide))
theorem sat_spec_l1Below (c : Cu) (n : Int)  : ∃ (x : Int) (d : Cu), (0 ≤ x ∧ (0 < n → x < n) ∧ (n ≤ 0 → x = 0)) ∧ Sat Tryz.prog 87 [.ptr 0 0, .int .i64 n] [⟨3, c.cells, true, false⟩] (.int .i64 x) [⟨3, d.cells, true, false⟩] := by
 suffices hE : ∃ zv zh, (∃ (x : Int) (d : Cu), (0 ≤ x ∧ (0 < n → x < n) ∧ (n ≤ 0 → x = 0)) ∧ zv = (.int .i64 x) ∧ zh = [⟨3, d.cells, true, false⟩]) ∧ Sat Tryz.prog 87 [.ptr 0 0, .int .i64 n] [⟨3, c.cells, true, false⟩] zv zh from by
   obtain ⟨_, _, ⟨x, d, hq, rfl, rfl⟩, hs⟩ := hE
   exact ⟨x, d, hq, hs⟩
 have hX := trivial
 refine sat_ex [.tmp 4] 1 37 Tryz.call87 Tryz.func87 Tryz.ntmps87 rfl rfl rfl rfl rfl ?_
 refine zI [0, 1] ?_
 refine zS [0, 1] ?_
 refine zS [0, 1, 10] ?_
 refine zC ?_ ?_
 · intro c1
   refine zS [4] ?_
   refine zX [] [0] ?_
   refine ⟨0, c, ?hq1, ?hv1, ?hh1⟩
   case hv1 => (try simp only [go_sem, simprocAttr, hX]); first | done | rfl
   case hh1 => (try simp only [go_sem, simprocAttr, hX]); first | done | rfl
   all_goals (exact ⟨Int.le_refl 0, fun h => absurd h (by omega), fun _ => rfl⟩)
 · intro c1
   intro ρ hL
   refine awl_skip ?_
   revert ρ hL
   refine zS [0, 1, 12] ?_
   refine zC ?_ ?_
   · intro c2
     obtain ⟨x0, c, hx0, hs1⟩ := sat_spec_l1Byte c
     have hn0 : ¬ n = 0 := by omega
     have hX0 := hX
     replace hX := And.intro hn0 hX
     intro ρ hL
     refine zA ?_
     intro K hK
     refine zFJ [0] (hs1) ?_
     refine zE [4] ?_
     clear hK K hL
     clear hX
     have hX := hX0
     clear hX0
     refine zX [] [0] ?_
     refine ⟨?y2_0, c, ?hq2, ?hv2, ?hh2⟩
     case hv2 => (try simp only [go_sem, simprocAttr, hX]); first | done | rfl
     case hh2 => (try simp only [go_sem, simprocAttr, hX]); first | done | rfl
     all_goals (exact rem_rng hx0.1 (by omega))
   · intro c2
     intro ρ hL
     refine awl_skip ?_
     obtain ⟨x1, c, hx1, hs2⟩ := sat_spec_l1Byte c
     refine zA ?_
     intro K hK
     refine zFJ [0] (hs2) ?_
     refine zE [0, 1, 5] ?_
     clear hK K hL
     obtain ⟨x2, c, hx2, hs3⟩ := sat_spec_l1Byte c
     intro ρ hL
     refine zA ?_
     intro K hK
     refine zFJ [0] (hs3) ?_
     refine zE [0, 1, 5, 6] ?_
     clear hK K hL
     obtain ⟨x3, c, hx3, hs4⟩ := sat_spec_l1Byte c
     intro ρ hL
     refine zA ?_
     intro K hK
     refine zFJ [0] (hs4) ?_
     refine zE [0, 1, 5, 6, 7] ?_
     clear hK K hL
     obtain ⟨x4, c, hx4, hs5⟩ := sat_spec_l1Byte c
     intro ρ hL
     refine zA ?_
     intro K hK
     refine zFJ [0] (hs5) ?_
     refine zE [1, 5, 6, 7, 8] ?_
     clear hK K hL
     have hn0 : ¬ n = 0 := by omega
     have w1 : IntKind.i64.wrap (x1 * 16777216) = x1 * 16777216 := wrap64 (by omega)
     have w2 : IntKind.i64.wrap (x2 * 65536) = x2 * 65536 := wrap64 (by omega)
     have w3 : IntKind.i64.wrap (x1 * 16777216 + x2 * 65536) = x1 * 16777216 + x2 * 65536 := wrap64 (by omega)
     have w4 : IntKind.i64.wrap (x3 * 256) = x3 * 256 := wrap64 (by omega)
     have w5 : IntKind.i64.wrap (x1 * 16777216 + x2 * 65536 + x3 * 256) = x1 * 16777216 + x2 * 65536 + x3 * 256 := wrap64 (by omega)
     have w6 : IntKind.i64.wrap (x1 * 16777216 + x2 * 65536 + x3 * 256 + x4) = x1 * 16777216 + x2 * 65536 + x3 * 256 + x4 := wrap64 (by omega)
     have hX0 := hX
     replace hX := And.intro hn0 (And.intro w1 (And.intro w2 (And.intro w3 (And.intro w4 (And.intro w5 (And.intro w6 hX))))))
     refine zS [4] ?_
     clear hX
     have hX := hX0
     clear hX0
     refine zX [] [0] ?_
     refine ⟨?y3_0, c, ?hq3, ?hv3, ?hh3⟩
     case hv3 => (try simp only [go_sem, simprocAttr, hX]); first | done | rfl
     case hh3 => (try simp only [go_sem, simprocAttr, hX]); first | done | rfl
     all_goals (exact rem_rng (by omega) (by omega))
theorem sat_spec_l1Once (c : Cu) (n : Int)  : ∃ (q : Bool) (d : Cu), (True) ∧ Sat Tryz.prog 86 [.ptr 0 0, .int .i64 n] [⟨3, c.cells, true, false⟩] (.bool q) [⟨3, d.cells, true, false⟩] := by
 suffices hE : ∃ zv zh, (∃ (q : Bool) (d : Cu), (True) ∧ zv = (.bool q) ∧ zh = [⟨3, d.cells, true, false⟩]) ∧ Sat Tryz.prog 86 [.ptr 0 0, .int .i64 n] [⟨3, c.cells, true, false⟩] zv zh from by
   obtain ⟨_, _, ⟨q, d, hq, rfl, rfl⟩, hs⟩ := hE
   exact ⟨q, d, hq, hs⟩
 have hX := trivial
 refine sat_ex [.tmp 4] 1 9 Tryz.call86 Tryz.func86 Tryz.ntmps86 rfl rfl rfl rfl rfl ?_
 refine zI [0, 1] ?_
 refine zS [0, 1] ?_
 obtain ⟨x, c, hx, hs1⟩ := sat_spec_l1Below c n
 intro ρ hL
 refine zA ?_
 intro K hK
 refine zFJ [0] (hs1) ?_
 refine zE [4] ?_
 clear hK K hL
 refine zX [] [0] ?_
 refine ⟨?y1_0, c, ?hq1, ?hv1, ?hh1⟩
 case hv1 => (try simp only [go_sem, simprocAttr, hX]); first | done | rfl
 case hh1 => (try simp only [go_sem, simprocAttr, hX]); first | done | rfl
 all_goals (first | trivial | assumption | omega | (simp; done))
theorem sat_spec_l1PickInt (c : Cu) (xs : List Int) (h0 : 0 < xs.length) : ∃ (x : Int) (d : Cu), (x ∈ xs) ∧ Sat Tryz.prog 125 [.ptr 0 0, .slice 1 0 xs.length xs.length] [⟨3, c.cells, true, false⟩, ⟨1, ints xs, true, false⟩] (.int .i64 x) [⟨3, d.cells, true, false⟩, ⟨1, ints xs, true, false⟩] := by
 suffices hE : ∃ zv zh, (∃ (x : Int) (d : Cu), (x ∈ xs) ∧ zv = (.int .i64 x) ∧ zh = [⟨3, d.cells, true, false⟩, ⟨1, ints xs, true, false⟩]) ∧ Sat Tryz.prog 125 [.ptr 0 0, .slice 1 0 xs.length xs.length] [⟨3, c.cells, true, false⟩, ⟨1, ints xs, true, false⟩] zv zh from by
   obtain ⟨_, _, ⟨x, d, hq, rfl, rfl⟩, hs⟩ := hE
   exact ⟨x, d, hq, hs⟩
 have hX := trivial
 refine sat_ex [.tmp 4] 2 12 Tryz.call125 Tryz.func125 Tryz.ntmps125 rfl rfl rfl rfl rfl ?_
 refine zI [0, 1] ?_
 refine zS [0, 1] ?_
 obtain ⟨x, c, hx, hs1⟩ := sat_spec_l1Below c (xs.length : Int)
 have hx2 := hx.2.1 (by omega)
 have hn : x.toNat < xs.length := by omega
 have hX0 := hX
 replace hX := And.intro hn hX
 intro ρ hL
 refine zA ?_
 intro K hK
 refine zFJ [0] (hs1) ?_
 refine zE [4] ?_
 clear hK K hL
 clear hX
 have hX := hX0
 clear hX0
 refine zX [] [0, 1] ?_
 refine ⟨xs.getD x.toNat 0, c, ?hq1, ?hv1, ?hh1⟩
 case hv1 => (try simp only [go_sem, simprocAttr, hX]); first | done | rfl
 case hh1 => (try simp only [go_sem, simprocAttr, hX]); first | done | rfl
 all_goals (exact getD_mem hn)
end Go.Proofs.YteojcehneipgdaaGreat.AM
