/- What is drawn: numbers. What is drawn: keys and words. What is drawn: commands. What is drawn: memory and states. What is drawn: a state that steps have led to. No conditions but those each theorem bears. -/
import Derived.Test.YtgpjgljgplngpaaDoorFa
import Derived.Test.YtgpjgljgplngpaaDoorM6
import Derived.Test.YtgpjgljgplngpaaDoorCb1
import Derived.Test.YtgpjgljgplngpaaDoorCb2
import Derived.Test.YtgpjgljgplngpaaDoorCb3
import Derived.Test.YtgpjgljgplngpaaDoorCb5
set_option linter.unusedSimpArgs false
set_option linter.unusedVariables false
namespace Go.Proofs.YtgpjgljgplngpaaDoor.AM
open Go
set_option maxHeartbeats 8000000
set_option maxRecDepth 100000

theorem sat_spec_l1New (bs : List UInt8) (hb : bs.length ≤ 1048576) : ∃ (c : Cu), (True) ∧ Sat Tryd.prog 36 [.sl bs.length bs.length (bytesV bs)] [] (.ptr 0 0) [⟨3, c.cells, true, false⟩] := by
 suffices hE : ∃ zv zh, (∃ (c : Cu), (True) ∧ zv = (.ptr 0 0) ∧ zh = [⟨3, c.cells, true, false⟩]) ∧ Sat Tryd.prog 36 [.sl bs.length bs.length (bytesV bs)] [] zv zh from by
   obtain ⟨_, _, ⟨c, hq, rfl, rfl⟩, hs⟩ := hE
   exact ⟨c, hq, hs⟩
 have hX := trivial
 refine sat_ex [.tmp 2] 0 32 Tryd.call36 Tryd.func36 Tryd.ntmps36 rfl rfl rfl rfl rfl ?_
 refine zI [0] ?_
 refine zS [0] ?_
 refine zS [0, 3] ?_
 refine zS [0, 3, 4] ?_
 intro ρ hL
 have e1 := hL
 refine awl_loopH (fun H0 n σ G => ∃ (q : Int) (i : Nat), n = bs.length - i ∧ (i ≤ bs.length) ∧ (liveE [0] σ ρ ∧ σ 3 = .int .i64 q ∧ σ 4 = .int .i64 (i : Int)) ∧ G = H0) (fun H0 σ G => ∃ (q : Int), (liveE [0] σ ρ ∧ σ 3 = .int .i64 q) ∧ G = H0) ((fun (q : Int) (i : Nat) => bs.length - i) (IntKind.i64.wrap (19220 + (bs.length : Int)))  0) ?init1 (fun n ρ G hI => ?round1) (fun ρ G hJ => ?after1)
 case init1 => exact ⟨(IntKind.i64.wrap (19220 + (bs.length : Int))), 0, rfl, (Nat.zero_le _), ⟨liveE_refl _ _, (hL.2.1), (hL.2.2)⟩, rfl⟩
 case round1 =>
  clear hL
  obtain ⟨q, i, hn, i1_0, hL, hG⟩ := hI
  subst hG
  try simp only [go_sem, simprocAttr, e1, hX] at hL
  refine zA ?_
  intro K hK
  refine zL [0, 3, 4, 12] ?_
  clear hL
  intro ρ hL
  refine grp_andN (tc := 12) (tv := 14) (td := 15) (v := ?v1) 2 rfl [0, 3, 4] hL.2.2.2 rfl (fun hb K1 hK1 => ?run) (fun hb => ?skip) (fun ρ hP hM => ?_)
  case skip => exact skA (want := true) (b := _) (by rw [hb]; rfl) hL.2.2.2 rfl
  case run =>
   simp only [List.take_succ_cons, List.take_zero]
   rw [hb] at hL
   try simp only [go_sem, simprocAttr, hL, hX]
   repeat' refine And.intro (by first | rfl | omega | (simp; done)) ?_
   refine hK1 _ ?_ ?_ ?_ <;> simp only [go_sem, simprocAttr, hL, hX] <;> exact rfl
  simp only [List.drop_succ_cons, List.drop_zero]
  try simp only [go_sem, simprocAttr, hL, hX] at hM
  replace hL := And.intro hP hM
  clear hP hM
  try simp only [go_sem, simprocAttr, hL, hX]
  repeat' refine And.intro (by first | rfl | omega | (simp; done)) ?_
  refine zE [0, 3, 4, 15] ?_
  clear hK K hL
  refine zC ?_ ?_
  · intro c1
    have hi1 : i < bs.length := by omega
    replace hX := And.intro hi1 hX
    intro ρ hL
    refine awl_skip ?_
    refine awl_seq ?_
    refine awl_block fun R1 hw1 hR1 => ?_
    revert ρ hL
    refine zS [0, 3, 4] ?_
    intro ρ hL
    refine awl_nil ?_
    refine blk_normal (hR1 _ _ (.mk ?_))
    have w1 : IntKind.i64.wrap ((i : Int) + 1) = ((i + 1 : Nat) : Int) := by rw [wrap64 (by omega)]; omega
    replace hX := And.intro w1 hX
    revert ρ hL
    refine zS [0, 3, 4] ?_
    intro ρ hL
    refine awl_nil ?_
    refine loop_again _ ?meas ⟨_, (i + 1), rfl, (by omega), ⟨(by simp only [go_sem, simprocAttr, hL, hX, e1]), (hL.2.1), (hL.2.2)⟩, rfl⟩
    case meas => subst hn; omega
  · intro c1
    intro ρ hL
    refine awl_exit ?_
    refine loop_break ?_
    exact ⟨_, ⟨(by simp only [go_sem, simprocAttr, hL, hX, e1]), (hL.2.1)⟩, rfl⟩
 case after1 =>
  clear hL
  obtain ⟨q, hL, hG⟩ := hJ
  subst hG
  try simp only [go_sem, simprocAttr, e1, hX] at hL
  revert ρ hL
  refine zS [2] ?_
  refine zX [0] [0] ?_
  refine ⟨⟨bs, 0, ?y1_1, ⟨Int.le_refl _, hb⟩⟩, ?hq1, ?hv1, ?hh1⟩
  case hv1 => (try simp only [go_sem, simprocAttr, hX]); first | done | rfl
  case hh1 => (try simp only [go_sem, simprocAttr, hX]); first | done | rfl
  all_goals try clear hR1
  all_goals (first | trivial | assumption | omega | (simp; done))
theorem sat_spec_l1Byte (c : Cu)  : ∃ (x : Int) (d : Cu), (0 ≤ x ∧ x ≤ 255) ∧ Sat Tryd.prog 56 [.ptr 0 0] [⟨3, c.cells, true, false⟩] (.int .i64 x) [⟨3, d.cells, true, false⟩] := by
 suffices hE : ∃ zv zh, (∃ (x : Int) (d : Cu), (0 ≤ x ∧ x ≤ 255) ∧ zv = (.int .i64 x) ∧ zh = [⟨3, d.cells, true, false⟩]) ∧ Sat Tryd.prog 56 [.ptr 0 0] [⟨3, c.cells, true, false⟩] zv zh from by
   obtain ⟨_, _, ⟨x, d, hq, rfl, rfl⟩, hs⟩ := hE
   exact ⟨x, d, hq, hs⟩
 have hX := trivial
 refine sat_ex [.tmp 2] 1 58 Tryd.call56 Tryd.func56 Tryd.ntmps56 rfl rfl rfl rfl rfl ?_
 refine zI [0] ?_
 refine zS [0] ?_
 have hc := c.ok
 refine zS [0] ?_
 refine zD [0, 1, 3, 7, 15, 0, 32, 96, 224, 480, 1023, 2047, 4095] [0, 3] ?_
 refine zD [0, 1, 3, 7, 0, 16, 48, 112, 240, 511] [0, 3, 34] ?_
 refine zC ?_ ?_
 · intro c1
   have hn : c.i.toNat < c.b.length := by omega
   have hX0 := hX
   replace hX := And.intro hn hX
   refine zD [0, 0, 2, 6, 14, 0, 32, 96, 224, 510, 1022, 2046, 4095, 8191, 16383] [0, 3] ?_
   clear hX
   have hX := hX0
   clear hX0
   have wi : IntKind.i64.wrap (c.i + 1) = c.i + 1 := wrap64 (by omega)
   have hX0 := hX
   replace hX := And.intro wi hX
   refine zS [3] ?_
   clear hX
   have hX := hX0
   clear hX0
   refine zS [2] ?_
   refine zX [] [0] ?_
   refine ⟨?y1_0, ⟨c.b, c.i + 1, ?y1_2, ⟨by omega, hc.2⟩⟩, ?hq1, ?hv1, ?hh1⟩
   case hv1 => (try simp only [go_sem, simprocAttr, hX]); first | done | rfl
   case hh1 => (try simp only [go_sem, simprocAttr, hX]); first | done | rfl
   all_goals (exact band_le (m := 255) (by decide))
 · intro c1
   intro ρ hL
   refine awl_skip ?_
   revert ρ hL
   refine zS [2] ?_
   refine zX [] [0] ?_
   refine ⟨?y2_0, ⟨c.b, c.i, ?y2_2, c.ok⟩, ?hq2, ?hv2, ?hh2⟩
   case hv2 => (try simp only [go_sem, simprocAttr, hX]); first | done | rfl
   case hh2 => (try simp only [go_sem, simprocAttr, hX]); first | done | rfl
   all_goals (exact band_le (m := 255) (by decide))
theorem sat_spec_l1Below (c : Cu) (n : Int)  : ∃ (x : Int) (d : Cu), (0 ≤ x ∧ (0 < n → x < n) ∧ (n ≤ 0 → x = 0)) ∧ Sat Tryd.prog 40 [.ptr 0 0, .int .i64 n] [⟨3, c.cells, true, false⟩] (.int .i64 x) [⟨3, d.cells, true, false⟩] := by
 suffices hE : ∃ zv zh, (∃ (x : Int) (d : Cu), (0 ≤ x ∧ (0 < n → x < n) ∧ (n ≤ 0 → x = 0)) ∧ zv = (.int .i64 x) ∧ zh = [⟨3, d.cells, true, false⟩]) ∧ Sat Tryd.prog 40 [.ptr 0 0, .int .i64 n] [⟨3, c.cells, true, false⟩] zv zh from by
   obtain ⟨_, _, ⟨x, d, hq, rfl, rfl⟩, hs⟩ := hE
   exact ⟨x, d, hq, hs⟩
 have hX := trivial
 refine sat_ex [.tmp 4] 1 37 Tryd.call40 Tryd.func40 Tryd.ntmps40 rfl rfl rfl rfl rfl ?_
 refine zI [0, 1] ?_
 refine zS [0, 1] ?_
 refine zS [0, 1, 10] ?_
 refine zC ?_ ?_
 · intro c1
   refine zS [4] ?_
   refine zX [] [0] ?_
   refine ⟨0, c, ?hq1, ?hv1, ?hh1⟩
   case hv1 => (try simp only [go_sem, simprocAttr, hX]); first | done | rfl
   case hh1 => (try simp only [go_sem, simprocAttr, hX]); first | done | rfl
   all_goals (exact ⟨Int.le_refl 0, fun h => absurd h (by omega), fun _ => rfl⟩)
 · intro c1
   intro ρ hL
   refine awl_skip ?_
   revert ρ hL
   refine zS [0, 1, 12] ?_
   refine zC ?_ ?_
   · intro c2
     obtain ⟨x0, c, hx0, hs1⟩ := sat_spec_l1Byte c
     have hn0 : ¬ n = 0 := by omega
     have hX0 := hX
     replace hX := And.intro hn0 hX
     intro ρ hL
     refine zA ?_
     intro K hK
     refine zFJ [0] (hs1) ?_
     refine zE [4] ?_
     clear hK K hL
     clear hX
     have hX := hX0
     clear hX0
     refine zX [] [0] ?_
     refine ⟨?y2_0, c, ?hq2, ?hv2, ?hh2⟩
     case hv2 => (try simp only [go_sem, simprocAttr, hX]); first | done | rfl
     case hh2 => (try simp only [go_sem, simprocAttr, hX]); first | done | rfl
     all_goals (exact rem_rng hx0.1 (by omega))
   · intro c2
     intro ρ hL
     refine awl_skip ?_
     obtain ⟨x1, c, hx1, hs2⟩ := sat_spec_l1Byte c
     refine zA ?_
     intro K hK
     refine zFJ [0] (hs2) ?_
     refine zE [0, 1, 5] ?_
     clear hK K hL
     obtain ⟨x2, c, hx2, hs3⟩ := sat_spec_l1Byte c
     intro ρ hL
     refine zA ?_
     intro K hK
     refine zFJ [0] (hs3) ?_
     refine zE [0, 1, 5, 6] ?_
     clear hK K hL
     obtain ⟨x3, c, hx3, hs4⟩ := sat_spec_l1Byte c
     intro ρ hL
     refine zA ?_
     intro K hK
     refine zFJ [0] (hs4) ?_
     refine zE [0, 1, 5, 6, 7] ?_
     clear hK K hL
     obtain ⟨x4, c, hx4, hs5⟩ := sat_spec_l1Byte c
     intro ρ hL
     refine zA ?_
     intro K hK
     refine zFJ [0] (hs5) ?_
     refine zE [1, 5, 6, 7, 8] ?_
     clear hK K hL
     have hn0 : ¬ n = 0 := by omega
     have w1 : IntKind.i64.wrap (x1 * 16777216) = x1 * 16777216 := wrap64 (by omega)
     have w2 : IntKind.i64.wrap (x2 * 65536) = x2 * 65536 := wrap64 (by omega)
     have w3 : IntKind.i64.wrap (x1 * 16777216 + x2 * 65536) = x1 * 16777216 + x2 * 65536 := wrap64 (by omega)
     have w4 : IntKind.i64.wrap (x3 * 256) = x3 * 256 := wrap64 (by omega)
     have w5 : IntKind.i64.wrap (x1 * 16777216 + x2 * 65536 + x3 * 256) = x1 * 16777216 + x2 * 65536 + x3 * 256 := wrap64 (by omega)
     have w6 : IntKind.i64.wrap (x1 * 16777216 + x2 * 65536 + x3 * 256 + x4) = x1 * 16777216 + x2 * 65536 + x3 * 256 + x4 := wrap64 (by omega)
     have hX0 := hX
     replace hX := And.intro hn0 (And.intro w1 (And.intro w2 (And.intro w3 (And.intro w4 (And.intro w5 (And.intro w6 hX))))))
     refine zS [4] ?_
     clear hX
     have hX := hX0
     clear hX0
     refine zX [] [0] ?_
     refine ⟨?y3_0, c, ?hq3, ?hv3, ?hh3⟩
     case hv3 => (try simp only [go_sem, simprocAttr, hX]); first | done | rfl
     case hh3 => (try simp only [go_sem, simprocAttr, hX]); first | done | rfl
     all_goals (exact rem_rng (by omega) (by omega))
theorem sat_spec_l1Once (c : Cu) (n : Int)  : ∃ (q : Bool) (d : Cu), (True) ∧ Sat Tryd.prog 55 [.ptr 0 0, .int .i64 n] [⟨3, c.cells, true, false⟩] (.bool q) [⟨3, d.cells, true, false⟩] := by
 suffices hE : ∃ zv zh, (∃ (q : Bool) (d : Cu), (True) ∧ zv = (.bool q) ∧ zh = [⟨3, d.cells, true, false⟩]) ∧ Sat Tryd.prog 55 [.ptr 0 0, .int .i64 n] [⟨3, c.cells, true, false⟩] zv zh from by
   obtain ⟨_, _, ⟨q, d, hq, rfl, rfl⟩, hs⟩ := hE
   exact ⟨q, d, hq, hs⟩
 have hX := trivial
 refine sat_ex [.tmp 4] 1 9 Tryd.call55 Tryd.func55 Tryd.ntmps55 rfl rfl rfl rfl rfl ?_
 refine zI [0, 1] ?_
 refine zS [0, 1] ?_
 obtain ⟨x, c, hx, hs1⟩ := sat_spec_l1Below c n
 intro ρ hL
 refine zA ?_
 intro K hK
 refine zFJ [0] (hs1) ?_
 refine zE [4] ?_
 clear hK K hL
 refine zX [] [0] ?_
 refine ⟨?y1_0, c, ?hq1, ?hv1, ?hh1⟩
 case hv1 => (try simp only [go_sem, simprocAttr, hX]); first | done | rfl
 case hh1 => (try simp only [go_sem, simprocAttr, hX]); first | done | rfl
 all_goals (first | trivial | assumption | omega | (simp; done))
theorem sat_spec_l1PickInt (c : Cu) (xs : List Int) (h0 : 0 < xs.length) : ∃ (x : Int) (d : Cu), (x ∈ xs) ∧ Sat Tryd.prog 51 [.ptr 0 0, .slice 1 0 xs.length xs.length] [⟨3, c.cells, true, false⟩, ⟨1, ints xs, true, false⟩] (.int .i64 x) [⟨3, d.cells, true, false⟩, ⟨1, ints xs, true, false⟩] := by
 suffices hE : ∃ zv zh, (∃ (x : Int) (d : Cu), (x ∈ xs) ∧ zv = (.int .i64 x) ∧ zh = [⟨3, d.cells, true, false⟩, ⟨1, ints xs, true, false⟩]) ∧ Sat Tryd.prog 51 [.ptr 0 0, .slice 1 0 xs.length xs.length] [⟨3, c.cells, true, false⟩, ⟨1, ints xs, true, false⟩] zv zh from by
   obtain ⟨_, _, ⟨x, d, hq, rfl, rfl⟩, hs⟩ := hE
   exact ⟨x, d, hq, hs⟩
 have hX := trivial
 refine sat_ex [.tmp 4] 2 12 Tryd.call51 Tryd.func51 Tryd.ntmps51 rfl rfl rfl rfl rfl ?_
 refine zI [0, 1] ?_
 refine zS [0, 1] ?_
 obtain ⟨x, c, hx, hs1⟩ := sat_spec_l1Below c (xs.length : Int)
 have hx2 := hx.2.1 (by omega)
 have hn : x.toNat < xs.length := by omega
 have hX0 := hX
 replace hX := And.intro hn hX
 intro ρ hL
 refine zA ?_
 intro K hK
 refine zFJ [0] (hs1) ?_
 refine zE [4] ?_
 clear hK K hL
 clear hX
 have hX := hX0
 clear hX0
 refine zX [] [0, 1] ?_
 refine ⟨xs.getD x.toNat 0, c, ?hq1, ?hv1, ?hh1⟩
 case hv1 => (try simp only [go_sem, simprocAttr, hX]); first | done | rfl
 case hh1 => (try simp only [go_sem, simprocAttr, hX]); first | done | rfl
 all_goals (exact getD_mem hn)
theorem sat_spec_Root   : Sat Tryd.prog 54 [] [] (.agg [.int .i64 0, .int .i64 4096, .int .i64 63, .int .i64 0]) [] := by
 have hX := trivial
 refine sat_mk [.cell 0 25] 0 2 Tryd.call54 Tryd.func54 Tryd.ntmps54 rfl rfl rfl rfl rfl ?_
 refine awl_live' [] fun ρ hL => ?_
 clear hL
 have hL := trivial
 refine zA ?_
 intro K hK
 refine zE [0] ?_
 clear hK K hL
 refine zS [0] ?_
 refine zR ?_
 try simp only [go_sem, simprocAttr]
 all_goals (first | done | rfl | (simp; done) | (simp [inR]; done) | (simp_all [inR]; done) | (simp [inR]; grind))
theorem sat_spec_l2DrawRight (c : Cu)  : ∃ (b t p l : Int) (d : Cu), (keyOk ⟨b, t, p, l⟩ = true) ∧ Sat Tryd.prog 39 [.ptr 0 0] [⟨3, c.cells, true, false⟩] (.agg [.int .i64 b, .int .i64 t, .int .i64 p, .int .i64 l]) [⟨3, d.cells, true, false⟩] := by
 suffices hE : ∃ zv zh, (∃ (b t p l : Int) (d : Cu), (keyOk ⟨b, t, p, l⟩ = true) ∧ zv = (.agg [.int .i64 b, .int .i64 t, .int .i64 p, .int .i64 l]) ∧ zh = [⟨3, d.cells, true, false⟩]) ∧ Sat Tryd.prog 39 [.ptr 0 0] [⟨3, c.cells, true, false⟩] zv zh from by
   obtain ⟨_, _, ⟨b, t, p, l, d, hq, rfl, rfl⟩, hs⟩ := hE
   exact ⟨b, t, p, l, d, hq, hs⟩
 have hX := trivial
 refine sat_ex [.cell 2 25] 1 46 Tryd.call39 Tryd.func39 Tryd.ntmps39 rfl rfl rfl rfl rfl ?_
 refine zI [0] ?_
 refine zS [0, 2] ?_
 refine zSF [0, 2, 3] (sat_spec_Root) ?_
 obtain ⟨x0, c, hx0, hs1⟩ := sat_spec_l1Below c 4
 have hb0 := hx0.2.1 (by decide)
 intro ρ hL
 refine zA ?_
 intro K hK
 refine zFJ [0] (hs1) ?_
 refine zE [0, 2, 3, 6] ?_
 clear hK K hL
 intro ρ hL
 refine awl_block fun R1 hw1 hR1 => ?_
 revert ρ hL
 refine zS [0, 2, 3, 6, 7] ?_
 refine zC ?_ ?_
 · intro c1
   obtain ⟨x1, c, hx1, hs2⟩ := sat_spec_l1Below c 30
   have hb1 := hx1.2.1 (by decide)
   intro ρ hL
   refine zA ?_
   intro K hK
   refine zFJ [0] (hs2) ?_
   refine zE [0, 2, 3] ?_
   clear hK K hL
   obtain ⟨x2, c, hx2, hs3⟩ := sat_spec_l1Below c 33
   have hb2 := hx2.2.1 (by decide)
   have w1 : IntKind.i64.wrap (x1 + x2) = x1 + x2 := wrap64 (by omega)
   have hX0 := hX
   replace hX := And.intro w1 hX
   intro ρ hL
   refine zAD [0, 1, 0, 4, 15, 31, 63] ?_
   intro K hK
   refine zFDJ [0, 1, 0, 4, 15, 31, 63] [0] (hs3) ?_
   refine zE [0, 2, 3] ?_
   clear hK K hL
   clear hX
   have hX := hX0
   clear hX0
   intro ρ hL
   refine awl_nil ?_
   refine blk_normal (hR1 _ _ (.mk ?_))
   obtain ⟨q1, c, hq1, hs4⟩ := sat_spec_l1Once c 2
   refine zA ?_
   intro K hK
   refine zFJ [0] (hs4) ?_
   refine zE [0, 2, 3, 35] ?_
   clear hK K hL
   refine zC ?_ ?_
   · intro c2
     obtain ⟨x3, c, hx3, hs5⟩ := sat_spec_l1Below c 64
     have hb3 := hx3.2.1 (by decide)
     intro ρ hL
     refine zA ?_
     intro K hK
     refine zFJ [0] (hs5) ?_
     refine zE [0, 2, 3] ?_
     clear hK K hL
     obtain ⟨q2, c, hq2, hs6⟩ := sat_spec_l1Once c 5
     intro ρ hL
     refine zA ?_
     intro K hK
     refine zFJ [0] (hs6) ?_
     refine zE [0, 2, 3, 40] ?_
     clear hK K hL
     refine zC ?_ ?_
     · intro c3
       obtain ⟨x4, c, hx4, hs7⟩ := sat_spec_l1Below c 7
       have hb4 := hx4.2.1 (by decide)
       have w4 : IntKind.i64.wrap (1 + x4) = 1 + x4 := wrap64 (by omega)
       have hX0 := hX
       replace hX := And.intro w4 hX
       intro ρ hL
       refine zA ?_
       intro K hK
       refine zFJ [0] (hs7) ?_
       refine zE [2, 3] ?_
       clear hK K hL
       clear hX
       have hX := hX0
       clear hX0
       refine zS [2] ?_
       refine zX [] [0] ?_
       refine ⟨?y1_0, ?y1_1, ?y1_2, ?y1_3, c, ?hq1, ?hv1, ?hh1⟩
       case hv1 => (try simp only [go_sem, simprocAttr, hX]); first | done | rfl
       case hh1 => (try simp only [go_sem, simprocAttr, hX]); first | done | rfl
       all_goals try clear hR1
       all_goals (first | exact keyOk_mk exact_all (by omega) (by omega) | exact keyOk_mk (exact_small (by omega) (by omega) (by omega)) (by omega) (by omega) | exact keyOk_mk (exact_64 (B := x1) (L := x2) (by omega) (by omega) (by omega) (by omega)) (by omega) (by omega))
     · intro c3
       intro ρ hL
       refine awl_skip ?_
       revert ρ hL
       refine zS [2] ?_
       refine zX [] [0] ?_
       refine ⟨?y2_0, ?y2_1, ?y2_2, ?y2_3, c, ?hq2, ?hv2, ?hh2⟩
       case hv2 => (try simp only [go_sem, simprocAttr, hX]); first | done | rfl
       case hh2 => (try simp only [go_sem, simprocAttr, hX]); first | done | rfl
       all_goals try clear hR1
       all_goals (first | exact keyOk_mk exact_all (by omega) (by omega) | exact keyOk_mk (exact_small (by omega) (by omega) (by omega)) (by omega) (by omega) | exact keyOk_mk (exact_64 (B := x1) (L := x2) (by omega) (by omega) (by omega) (by omega)) (by omega) (by omega))
   · intro c2
     intro ρ hL
     refine awl_skip ?_
     obtain ⟨q2, c, hq2, hs8⟩ := sat_spec_l1Once c 5
     refine zA ?_
     intro K hK
     refine zFJ [0] (hs8) ?_
     refine zE [0, 2, 3, 40] ?_
     clear hK K hL
     refine zC ?_ ?_
     · intro c4
       obtain ⟨x4, c, hx4, hs9⟩ := sat_spec_l1Below c 7
       have hb4 := hx4.2.1 (by decide)
       have w4 : IntKind.i64.wrap (1 + x4) = 1 + x4 := wrap64 (by omega)
       have hX0 := hX
       replace hX := And.intro w4 hX
       intro ρ hL
       refine zA ?_
       intro K hK
       refine zFJ [0] (hs9) ?_
       refine zE [2, 3] ?_
       clear hK K hL
       clear hX
       have hX := hX0
       clear hX0
       refine zS [2] ?_
       refine zX [] [0] ?_
       refine ⟨?y3_0, ?y3_1, ?y3_2, ?y3_3, c, ?hq3, ?hv3, ?hh3⟩
       case hv3 => (try simp only [go_sem, simprocAttr, hX]); first | done | rfl
       case hh3 => (try simp only [go_sem, simprocAttr, hX]); first | done | rfl
       all_goals try clear hR1
       all_goals (first | exact keyOk_mk exact_all (by omega) (by omega) | exact keyOk_mk (exact_small (by omega) (by omega) (by omega)) (by omega) (by omega) | exact keyOk_mk (exact_64 (B := x1) (L := x2) (by omega) (by omega) (by omega) (by omega)) (by omega) (by omega))
     · intro c4
       intro ρ hL
       refine awl_skip ?_
       revert ρ hL
       refine zS [2] ?_
       refine zX [] [0] ?_
       refine ⟨?y4_0, ?y4_1, ?y4_2, ?y4_3, c, ?hq4, ?hv4, ?hh4⟩
       case hv4 => (try simp only [go_sem, simprocAttr, hX]); first | done | rfl
       case hh4 => (try simp only [go_sem, simprocAttr, hX]); first | done | rfl
       all_goals try clear hR1
       all_goals (first | exact keyOk_mk exact_all (by omega) (by omega) | exact keyOk_mk (exact_small (by omega) (by omega) (by omega)) (by omega) (by omega) | exact keyOk_mk (exact_64 (B := x1) (L := x2) (by omega) (by omega) (by omega) (by omega)) (by omega) (by omega))
 · intro c1
   refine zS [0, 2, 3, 6, 18] ?_
   refine zC ?_ ?_
   · intro c5
     obtain ⟨x1, c, hx1, hs10⟩ := sat_spec_l1Below c 20
     have hb1 := hx1.2.1 (by decide)
     have w1 : IntKind.i64.wrap (64 * x1) = 64 * x1 := wrap64 (by omega)
     have hX0 := hX
     replace hX := And.intro w1 hX
     intro ρ hL
     refine zA ?_
     intro K hK
     refine zFJ [0] (hs10) ?_
     refine zE [0, 2, 3] ?_
     clear hK K hL
     clear hX
     have hX := hX0
     clear hX0
     obtain ⟨x2, c, hx2, hs11⟩ := sat_spec_l1Below c 9
     have hb2 := hx2.2.1 (by decide)
     have w2 : IntKind.i64.wrap (64 * x2) = 64 * x2 := wrap64 (by omega)
     have w3 : IntKind.i64.wrap (64 * x1 + 64 * x2) = 64 * x1 + 64 * x2 := wrap64 (by omega)
     have hX0 := hX
     replace hX := And.intro w2 (And.intro w3 hX)
     intro ρ hL
     refine zAD [0, 1, 0, 4, 12, 31, 63, 127] ?_
     intro K hK
     refine zFDJ [0, 1, 0, 4, 12, 31, 63, 127] [0] (hs11) ?_
     refine zE [0, 2, 3] ?_
     clear hK K hL
     clear hX
     have hX := hX0
     clear hX0
     intro ρ hL
     refine awl_nil ?_
     refine blk_normal (hR1 _ _ (.mk ?_))
     obtain ⟨q1, c, hq1, hs12⟩ := sat_spec_l1Once c 2
     refine zA ?_
     intro K hK
     refine zFJ [0] (hs12) ?_
     refine zE [0, 2, 3, 35] ?_
     clear hK K hL
     refine zC ?_ ?_
     · intro c6
       obtain ⟨x3, c, hx3, hs13⟩ := sat_spec_l1Below c 64
       have hb3 := hx3.2.1 (by decide)
       intro ρ hL
       refine zA ?_
       intro K hK
       refine zFJ [0] (hs13) ?_
       refine zE [0, 2, 3] ?_
       clear hK K hL
       obtain ⟨q2, c, hq2, hs14⟩ := sat_spec_l1Once c 5
       intro ρ hL
       refine zA ?_
       intro K hK
       refine zFJ [0] (hs14) ?_
       refine zE [0, 2, 3, 40] ?_
       clear hK K hL
       refine zC ?_ ?_
       · intro c7
         obtain ⟨x4, c, hx4, hs15⟩ := sat_spec_l1Below c 7
         have hb4 := hx4.2.1 (by decide)
         have w4 : IntKind.i64.wrap (1 + x4) = 1 + x4 := wrap64 (by omega)
         have hX0 := hX
         replace hX := And.intro w4 hX
         intro ρ hL
         refine zA ?_
         intro K hK
         refine zFJ [0] (hs15) ?_
         refine zE [2, 3] ?_
         clear hK K hL
         clear hX
         have hX := hX0
         clear hX0
         refine zS [2] ?_
         refine zX [] [0] ?_
         refine ⟨?y5_0, ?y5_1, ?y5_2, ?y5_3, c, ?hq5, ?hv5, ?hh5⟩
         case hv5 => (try simp only [go_sem, simprocAttr, hX]); first | done | rfl
         case hh5 => (try simp only [go_sem, simprocAttr, hX]); first | done | rfl
         all_goals try clear hR1
         all_goals (first | exact keyOk_mk exact_all (by omega) (by omega) | exact keyOk_mk (exact_small (by omega) (by omega) (by omega)) (by omega) (by omega) | exact keyOk_mk (exact_64 (B := x1) (L := x2) (by omega) (by omega) (by omega) (by omega)) (by omega) (by omega))
       · intro c7
         intro ρ hL
         refine awl_skip ?_
         revert ρ hL
         refine zS [2] ?_
         refine zX [] [0] ?_
         refine ⟨?y6_0, ?y6_1, ?y6_2, ?y6_3, c, ?hq6, ?hv6, ?hh6⟩
         case hv6 => (try simp only [go_sem, simprocAttr, hX]); first | done | rfl
         case hh6 => (try simp only [go_sem, simprocAttr, hX]); first | done | rfl
         all_goals try clear hR1
         all_goals (first | exact keyOk_mk exact_all (by omega) (by omega) | exact keyOk_mk (exact_small (by omega) (by omega) (by omega)) (by omega) (by omega) | exact keyOk_mk (exact_64 (B := x1) (L := x2) (by omega) (by omega) (by omega) (by omega)) (by omega) (by omega))
     · intro c6
       intro ρ hL
       refine awl_skip ?_
       obtain ⟨q2, c, hq2, hs16⟩ := sat_spec_l1Once c 5
       refine zA ?_
       intro K hK
       refine zFJ [0] (hs16) ?_
       refine zE [0, 2, 3, 40] ?_
       clear hK K hL
       refine zC ?_ ?_
       · intro c8
         obtain ⟨x4, c, hx4, hs17⟩ := sat_spec_l1Below c 7
         have hb4 := hx4.2.1 (by decide)
         have w4 : IntKind.i64.wrap (1 + x4) = 1 + x4 := wrap64 (by omega)
         have hX0 := hX
         replace hX := And.intro w4 hX
         intro ρ hL
         refine zA ?_
         intro K hK
         refine zFJ [0] (hs17) ?_
         refine zE [2, 3] ?_
         clear hK K hL
         clear hX
         have hX := hX0
         clear hX0
         refine zS [2] ?_
         refine zX [] [0] ?_
         refine ⟨?y7_0, ?y7_1, ?y7_2, ?y7_3, c, ?hq7, ?hv7, ?hh7⟩
         case hv7 => (try simp only [go_sem, simprocAttr, hX]); first | done | rfl
         case hh7 => (try simp only [go_sem, simprocAttr, hX]); first | done | rfl
         all_goals try clear hR1
         all_goals (first | exact keyOk_mk exact_all (by omega) (by omega) | exact keyOk_mk (exact_small (by omega) (by omega) (by omega)) (by omega) (by omega) | exact keyOk_mk (exact_64 (B := x1) (L := x2) (by omega) (by omega) (by omega) (by omega)) (by omega) (by omega))
       · intro c8
         intro ρ hL
         refine awl_skip ?_
         revert ρ hL
         refine zS [2] ?_
         refine zX [] [0] ?_
         refine ⟨?y8_0, ?y8_1, ?y8_2, ?y8_3, c, ?hq8, ?hv8, ?hh8⟩
         case hv8 => (try simp only [go_sem, simprocAttr, hX]); first | done | rfl
         case hh8 => (try simp only [go_sem, simprocAttr, hX]); first | done | rfl
         all_goals try clear hR1
         all_goals (first | exact keyOk_mk exact_all (by omega) (by omega) | exact keyOk_mk (exact_small (by omega) (by omega) (by omega)) (by omega) (by omega) | exact keyOk_mk (exact_64 (B := x1) (L := x2) (by omega) (by omega) (by omega) (by omega)) (by omega) (by omega))
   · intro c5
     refine zS [0, 2, 3, 31] ?_
     refine zC ?_ ?_
     · intro c9
       refine zS [0, 2, 3] ?_
       intro ρ hL
       refine awl_nil ?_
       refine blk_normal (hR1 _ _ (.mk ?_))
       obtain ⟨q1, c, hq1, hs18⟩ := sat_spec_l1Once c 2
       refine zA ?_
       intro K hK
       refine zFJ [0] (hs18) ?_
       refine zE [0, 2, 3, 35] ?_
       clear hK K hL
       refine zC ?_ ?_
       · intro c10
         obtain ⟨x3, c, hx3, hs19⟩ := sat_spec_l1Below c 64
         have hb3 := hx3.2.1 (by decide)
         intro ρ hL
         refine zA ?_
         intro K hK
         refine zFJ [0] (hs19) ?_
         refine zE [0, 2, 3] ?_
         clear hK K hL
         obtain ⟨q2, c, hq2, hs20⟩ := sat_spec_l1Once c 5
         intro ρ hL
         refine zA ?_
         intro K hK
         refine zFJ [0] (hs20) ?_
         refine zE [0, 2, 3, 40] ?_
         clear hK K hL
         refine zC ?_ ?_
         · intro c11
           obtain ⟨x4, c, hx4, hs21⟩ := sat_spec_l1Below c 7
           have hb4 := hx4.2.1 (by decide)
           have w4 : IntKind.i64.wrap (1 + x4) = 1 + x4 := wrap64 (by omega)
           have hX0 := hX
           replace hX := And.intro w4 hX
           intro ρ hL
           refine zA ?_
           intro K hK
           refine zFJ [0] (hs21) ?_
           refine zE [2, 3] ?_
           clear hK K hL
           clear hX
           have hX := hX0
           clear hX0
           refine zS [2] ?_
           refine zX [] [0] ?_
           refine ⟨?y9_0, ?y9_1, ?y9_2, ?y9_3, c, ?hq9, ?hv9, ?hh9⟩
           case hv9 => (try simp only [go_sem, simprocAttr, hX]); first | done | rfl
           case hh9 => (try simp only [go_sem, simprocAttr, hX]); first | done | rfl
           all_goals try clear hR1
           all_goals (first | exact keyOk_mk exact_all (by omega) (by omega) | exact keyOk_mk (exact_small (by omega) (by omega) (by omega)) (by omega) (by omega) | exact keyOk_mk (exact_64 (B := x1) (L := x2) (by omega) (by omega) (by omega) (by omega)) (by omega) (by omega))
         · intro c11
           intro ρ hL
           refine awl_skip ?_
           revert ρ hL
           refine zS [2] ?_
           refine zX [] [0] ?_
           refine ⟨?y10_0, ?y10_1, ?y10_2, ?y10_3, c, ?hq10, ?hv10, ?hh10⟩
           case hv10 => (try simp only [go_sem, simprocAttr, hX]); first | done | rfl
           case hh10 => (try simp only [go_sem, simprocAttr, hX]); first | done | rfl
           all_goals try clear hR1
           all_goals (first | exact keyOk_mk exact_all (by omega) (by omega) | exact keyOk_mk (exact_small (by omega) (by omega) (by omega)) (by omega) (by omega) | exact keyOk_mk (exact_64 (B := x1) (L := x2) (by omega) (by omega) (by omega) (by omega)) (by omega) (by omega))
       · intro c10
         intro ρ hL
         refine awl_skip ?_
         obtain ⟨q2, c, hq2, hs22⟩ := sat_spec_l1Once c 5
         refine zA ?_
         intro K hK
         refine zFJ [0] (hs22) ?_
         refine zE [0, 2, 3, 40] ?_
         clear hK K hL
         refine zC ?_ ?_
         · intro c12
           obtain ⟨x4, c, hx4, hs23⟩ := sat_spec_l1Below c 7
           have hb4 := hx4.2.1 (by decide)
           have w4 : IntKind.i64.wrap (1 + x4) = 1 + x4 := wrap64 (by omega)
           have hX0 := hX
           replace hX := And.intro w4 hX
           intro ρ hL
           refine zA ?_
           intro K hK
           refine zFJ [0] (hs23) ?_
           refine zE [2, 3] ?_
           clear hK K hL
           clear hX
           have hX := hX0
           clear hX0
           refine zS [2] ?_
           refine zX [] [0] ?_
           refine ⟨?y11_0, ?y11_1, ?y11_2, ?y11_3, c, ?hq11, ?hv11, ?hh11⟩
           case hv11 => (try simp only [go_sem, simprocAttr, hX]); first | done | rfl
           case hh11 => (try simp only [go_sem, simprocAttr, hX]); first | done | rfl
           all_goals try clear hR1
           all_goals (first | exact keyOk_mk exact_all (by omega) (by omega) | exact keyOk_mk (exact_small (by omega) (by omega) (by omega)) (by omega) (by omega) | exact keyOk_mk (exact_64 (B := x1) (L := x2) (by omega) (by omega) (by omega) (by omega)) (by omega) (by omega))
         · intro c12
           intro ρ hL
           refine awl_skip ?_
           revert ρ hL
           refine zS [2] ?_
           refine zX [] [0] ?_
           refine ⟨?y12_0, ?y12_1, ?y12_2, ?y12_3, c, ?hq12, ?hv12, ?hh12⟩
           case hv12 => (try simp only [go_sem, simprocAttr, hX]); first | done | rfl
           case hh12 => (try simp only [go_sem, simprocAttr, hX]); first | done | rfl
           all_goals try clear hR1
           all_goals (first | exact keyOk_mk exact_all (by omega) (by omega) | exact keyOk_mk (exact_small (by omega) (by omega) (by omega)) (by omega) (by omega) | exact keyOk_mk (exact_64 (B := x1) (L := x2) (by omega) (by omega) (by omega) (by omega)) (by omega) (by omega))
     · intro c9
       intro ρ hL
       refine awl_skip ?_
       refine awl_nil ?_
       refine blk_normal (hR1 _ _ (.mk ?_))
       obtain ⟨q1, c, hq1, hs24⟩ := sat_spec_l1Once c 2
       refine zA ?_
       intro K hK
       refine zFJ [0] (hs24) ?_
       refine zE [0, 2, 3, 35] ?_
       clear hK K hL
       refine zC ?_ ?_
       · intro c13
         obtain ⟨x3, c, hx3, hs25⟩ := sat_spec_l1Below c 64
         have hb3 := hx3.2.1 (by decide)
         intro ρ hL
         refine zA ?_
         intro K hK
         refine zFJ [0] (hs25) ?_
         refine zE [0, 2, 3] ?_
         clear hK K hL
         obtain ⟨q2, c, hq2, hs26⟩ := sat_spec_l1Once c 5
         intro ρ hL
         refine zA ?_
         intro K hK
         refine zFJ [0] (hs26) ?_
         refine zE [0, 2, 3, 40] ?_
         clear hK K hL
         refine zC ?_ ?_
         · intro c14
           obtain ⟨x4, c, hx4, hs27⟩ := sat_spec_l1Below c 7
           have hb4 := hx4.2.1 (by decide)
           have w4 : IntKind.i64.wrap (1 + x4) = 1 + x4 := wrap64 (by omega)
           have hX0 := hX
           replace hX := And.intro w4 hX
           intro ρ hL
           refine zA ?_
           intro K hK
           refine zFJ [0] (hs27) ?_
           refine zE [2, 3] ?_
           clear hK K hL
           clear hX
           have hX := hX0
           clear hX0
           refine zS [2] ?_
           refine zX [] [0] ?_
           refine ⟨?y13_0, ?y13_1, ?y13_2, ?y13_3, c, ?hq13, ?hv13, ?hh13⟩
           case hv13 => (try simp only [go_sem, simprocAttr, hX]); first | done | rfl
           case hh13 => (try simp only [go_sem, simprocAttr, hX]); first | done | rfl
           all_goals try clear hR1
           all_goals (first | exact keyOk_mk exact_all (by omega) (by omega) | exact keyOk_mk (exact_small (by omega) (by omega) (by omega)) (by omega) (by omega) | exact keyOk_mk (exact_64 (B := x1) (L := x2) (by omega) (by omega) (by omega) (by omega)) (by omega) (by omega))
         · intro c14
           intro ρ hL
           refine awl_skip ?_
           revert ρ hL
           refine zS [2] ?_
           refine zX [] [0] ?_
           refine ⟨?y14_0, ?y14_1, ?y14_2, ?y14_3, c, ?hq14, ?hv14, ?hh14⟩
           case hv14 => (try simp only [go_sem, simprocAttr, hX]); first | done | rfl
           case hh14 => (try simp only [go_sem, simprocAttr, hX]); first | done | rfl
           all_goals try clear hR1
           all_goals (first | exact keyOk_mk exact_all (by omega) (by omega) | exact keyOk_mk (exact_small (by omega) (by omega) (by omega)) (by omega) (by omega) | exact keyOk_mk (exact_64 (B := x1) (L := x2) (by omega) (by omega) (by omega) (by omega)) (by omega) (by omega))
       · intro c13
         intro ρ hL
         refine awl_skip ?_
         obtain ⟨q2, c, hq2, hs28⟩ := sat_spec_l1Once c 5
         refine zA ?_
         intro K hK
         refine zFJ [0] (hs28) ?_
         refine zE [0, 2, 3, 40] ?_
         clear hK K hL
         refine zC ?_ ?_
         · intro c15
           obtain ⟨x4, c, hx4, hs29⟩ := sat_spec_l1Below c 7
           have hb4 := hx4.2.1 (by decide)
           have w4 : IntKind.i64.wrap (1 + x4) = 1 + x4 := wrap64 (by omega)
           have hX0 := hX
           replace hX := And.intro w4 hX
           intro ρ hL
           refine zA ?_
           intro K hK
           refine zFJ [0] (hs29) ?_
           refine zE [2, 3] ?_
           clear hK K hL
           clear hX
           have hX := hX0
           clear hX0
           refine zS [2] ?_
           refine zX [] [0] ?_
           refine ⟨?y15_0, ?y15_1, ?y15_2, ?y15_3, c, ?hq15, ?hv15, ?hh15⟩
           case hv15 => (try simp only [go_sem, simprocAttr, hX]); first | done | rfl
           case hh15 => (try simp only [go_sem, simprocAttr, hX]); first | done | rfl
           all_goals try clear hR1
           all_goals (first | exact keyOk_mk exact_all (by omega) (by omega) | exact keyOk_mk (exact_small (by omega) (by omega) (by omega)) (by omega) (by omega) | exact keyOk_mk (exact_64 (B := x1) (L := x2) (by omega) (by omega) (by omega) (by omega)) (by omega) (by omega))
         · intro c15
           intro ρ hL
           refine awl_skip ?_
           revert ρ hL
           refine zS [2] ?_
           refine zX [] [0] ?_
           refine ⟨?y16_0, ?y16_1, ?y16_2, ?y16_3, c, ?hq16, ?hv16, ?hh16⟩
           case hv16 => (try simp only [go_sem, simprocAttr, hX]); first | done | rfl
           case hh16 => (try simp only [go_sem, simprocAttr, hX]); first | done | rfl
           all_goals try clear hR1
           all_goals (first | exact keyOk_mk exact_all (by omega) (by omega) | exact keyOk_mk (exact_small (by omega) (by omega) (by omega)) (by omega) (by omega) | exact keyOk_mk (exact_64 (B := x1) (L := x2) (by omega) (by omega) (by omega) (by omega)) (by omega) (by omega))
theorem sat_spec_l2Draw (c : Cu)  : ∃ (b t p l : Int) (d : Cu), (True) ∧ Sat Tryd.prog 35 [.ptr 0 0] [⟨3, c.cells, true, false⟩] (.agg [.int .i64 b, .int .i64 t, .int .i64 p, .int .i64 l]) [⟨3, d.cells, true, false⟩] := by
 suffices hE : ∃ zv zh, (∃ (b t p l : Int) (d : Cu), (True) ∧ zv = (.agg [.int .i64 b, .int .i64 t, .int .i64 p, .int .i64 l]) ∧ zh = [⟨3, d.cells, true, false⟩]) ∧ Sat Tryd.prog 35 [.ptr 0 0] [⟨3, c.cells, true, false⟩] zv zh from by
   obtain ⟨_, _, ⟨b, t, p, l, d, hq, rfl, rfl⟩, hs⟩ := hE
   exact ⟨b, t, p, l, d, hq, hs⟩
 have hX := trivial
 refine sat_ex [.cell 2 25] 1 30 Tryd.call35 Tryd.func35 Tryd.ntmps35 rfl rfl rfl rfl rfl ?_
 refine zI [0] ?_
 refine zS [0, 2] ?_
 obtain ⟨b, t, p, l, c, hk, hs1⟩ := sat_spec_l2DrawRight c
 intro ρ hL
 refine zA ?_
 intro K hK
 refine zFJ [0] (hs1) ?_
 refine zE [0, 2, 3] ?_
 clear hK K hL
 obtain ⟨x0, c, hx0, hs2⟩ := sat_spec_l1Below c 12
 have hb0 := hx0.2.1 (by decide)
 intro ρ hL
 refine zA ?_
 intro K hK
 refine zFJ [0] (hs2) ?_
 refine zE [0, 2, 3, 7] ?_
 clear hK K hL
 intro ρ hL
 refine awl_block fun R1 hw1 hR1 => ?_
 revert ρ hL
 refine zS [0, 2, 3, 7, 8] ?_
 refine zC ?_ ?_
 · intro c1
   obtain ⟨x1, c, hx1, hs3⟩ := sat_spec_l1PickInt c [-1, 65, 97, 5000] (by simp)
   intro ρ hL
   refine zAD [0, 1, 0, 0, 12, 31, 63, 127] ?_
   intro K hK
   refine zFDJ [0, 1, 0, 0, 12, 31, 63, 127] [0, 3] (hs3) ?_
   refine zE [2, 3] ?_
   clear hK K hL
   intro ρ hL
   refine awl_nil ?_
   refine blk_normal (hR1 _ _ (.mk ?_))
   revert ρ hL
   refine zS [2] ?_
   refine zX [] [0] ?_
   refine ⟨?y1_0, ?y1_1, ?y1_2, ?y1_3, c, ?hq1, ?hv1, ?hh1⟩
   case hv1 => (try simp only [go_sem, simprocAttr, hX]); first | done | rfl
   case hh1 => (try simp only [go_sem, simprocAttr, hX]); first | done | rfl
   all_goals try clear hR1
   all_goals (first | trivial | assumption | omega | (simp; done))
 · intro c1
   refine zS [0, 2, 3, 7, 17] ?_
   refine zC ?_ ?_
   · intro c2
     obtain ⟨x1, c, hx1, hs4⟩ := sat_spec_l1PickInt c [-1, 64] (by simp)
     intro ρ hL
     refine zA ?_
     intro K hK
     refine zFJ [0, 3] (hs4) ?_
     refine zE [2, 3] ?_
     clear hK K hL
     intro ρ hL
     refine awl_nil ?_
     refine blk_normal (hR1 _ _ (.mk ?_))
     revert ρ hL
     refine zS [2] ?_
     refine zX [] [0] ?_
     refine ⟨?y2_0, ?y2_1, ?y2_2, ?y2_3, c, ?hq2, ?hv2, ?hh2⟩
     case hv2 => (try simp only [go_sem, simprocAttr, hX]); first | done | rfl
     case hh2 => (try simp only [go_sem, simprocAttr, hX]); first | done | rfl
     all_goals try clear hR1
     all_goals (first | trivial | assumption | omega | (simp; done))
   · intro c2
     refine zS [0, 2, 3, 23] ?_
     refine zC ?_ ?_
     · intro c3
       obtain ⟨x1, c, hx1, hs5⟩ := sat_spec_l1PickInt c [-1, 8] (by simp)
       intro ρ hL
       refine zA ?_
       intro K hK
       refine zFJ [0, 3] (hs5) ?_
       refine zE [2, 3] ?_
       clear hK K hL
       intro ρ hL
       refine awl_nil ?_
       refine blk_normal (hR1 _ _ (.mk ?_))
       revert ρ hL
       refine zS [2] ?_
       refine zX [] [0] ?_
       refine ⟨?y3_0, ?y3_1, ?y3_2, ?y3_3, c, ?hq3, ?hv3, ?hh3⟩
       case hv3 => (try simp only [go_sem, simprocAttr, hX]); first | done | rfl
       case hh3 => (try simp only [go_sem, simprocAttr, hX]); first | done | rfl
       all_goals try clear hR1
       all_goals (first | trivial | assumption | omega | (simp; done))
     · intro c3
       intro ρ hL
       refine awl_skip ?_
       refine awl_nil ?_
       refine blk_normal (hR1 _ _ (.mk ?_))
       revert ρ hL
       refine zS [2] ?_
       refine zX [] [0] ?_
       refine ⟨?y4_0, ?y4_1, ?y4_2, ?y4_3, c, ?hq4, ?hv4, ?hh4⟩
       case hv4 => (try simp only [go_sem, simprocAttr, hX]); first | done | rfl
       case hh4 => (try simp only [go_sem, simprocAttr, hX]); first | done | rfl
       all_goals try clear hR1
       all_goals (first | trivial | assumption | omega | (simp; done))
theorem sat_spec_KeyWord (k : Key) (n : Int)  : Sat Tryd.prog 71 [.agg k.cells, .int .i64 n] [] (.agg (keyWord k n).cells) [] := by
 have hX := trivial
 refine sat_mk [.cell 4 32] 0 14 Tryd.call71 Tryd.func71 Tryd.ntmps71 rfl rfl rfl rfl rfl ?_
 refine zI [0, 1] ?_
 refine zS [1, 2, 4] ?_
 refine zSF [2, 4, 5] (sat_spec_Plain _) ?_
 refine zSF [2, 4, 5, 9] (sat_spec_KeyOk _) ?_
 refine zC ?_ ?_
 · intro c1
   refine zS [2, 4, 5] ?_
   refine zS [4, 5] ?_
   refine zS [4] ?_
   refine zR ?_
   try simp only [go_sem, simprocAttr]
   all_goals (rw [keyWord, if_pos c1] <;> rfl)
 · intro c1
   intro ρ hL
   refine awl_skip ?_
   revert ρ hL
   refine zS [4] ?_
   refine zR ?_
   try simp only [go_sem, simprocAttr]
   all_goals (rw [keyWord, if_neg (by rw [c1]; exact Bool.noConfusion)] <;> rfl)
theorem sat_spec_l3DrawRight (c : Cu)  : ∃ (w : Word) (d : Cu), (wordOk w = true) ∧ Sat Tryd.prog 57 [.ptr 0 0] [⟨3, c.cells, true, false⟩] (.agg w.cells) [⟨3, d.cells, true, false⟩] := by
 suffices hE : ∃ zv zh, (∃ (w : Word) (d : Cu), (wordOk w = true) ∧ zv = (.agg w.cells) ∧ zh = [⟨3, d.cells, true, false⟩]) ∧ Sat Tryd.prog 57 [.ptr 0 0] [⟨3, c.cells, true, false⟩] zv zh from by
   obtain ⟨_, _, ⟨w, d, hq, rfl, rfl⟩, hs⟩ := hE
   exact ⟨w, d, hq, hs⟩
 have hX := trivial
 refine sat_ex [.cell 2 32] 1 26 Tryd.call57 Tryd.func57 Tryd.ntmps57 rfl rfl rfl rfl rfl ?_
 refine zI [0] ?_
 refine zS [0, 2] ?_
 obtain ⟨q1, c, hq1, hs1⟩ := sat_spec_l1Once c 3
 intro ρ hL
 refine zA ?_
 intro K hK
 refine zFJ [0] (hs1) ?_
 refine zE [0, 2, 5] ?_
 clear hK K hL
 refine zC ?_ ?_
 · intro c1
   obtain ⟨x1, c, hx1, hs2⟩ := sat_spec_l1PickInt c [0, 1, 2, 5, 31, 65535] (by simp)
   intro ρ hL
   refine zA ?_
   intro K hK
   refine zFJ [0, 2] (hs2) ?_
   refine zF (sat_spec_Plain _) ?_
   refine zE [2] ?_
   clear hK K hL
   refine zX [] [0] ?_
   refine ⟨plain x1, c, ?hq1, ?hv1, ?hh1⟩
   case hv1 => (try simp only [go_sem, simprocAttr, hX]); first | done | rfl
   case hh1 => (try simp only [go_sem, simprocAttr, hX]); first | done | rfl
   all_goals (exact plain_ok _)
 · intro c1
   intro ρ hL
   refine awl_skip ?_
   obtain ⟨b, t, p, l, c, hk, hs3⟩ := sat_spec_l2DrawRight c
   refine zA ?_
   intro K hK
   refine zFJ [0] (hs3) ?_
   refine zE [0, 2, 3] ?_
   clear hK K hL
   obtain ⟨x1, c, hx1, hs4⟩ := sat_spec_l1PickInt c [b, b, IntKind.i64.wrap (b + 1), t, 3, 1] (by simp)
   intro ρ hL
   refine zAD [0, 0, 0, 4, 0, 16, 0, 64, 192, 0, 512, 2044, 4094, 8191, 16383] ?_
   intro K hK
   refine zFDJ [0, 0, 0, 4, 0, 16, 0, 64, 192, 0, 512, 2044, 4094, 8191, 16383] [0, 3] (hs4) ?_
   refine zFD [0, 0, 0, 4, 0, 16, 0, 64, 192, 0, 512, 2044, 4094, 8191, 16383] (sat_spec_KeyWord ⟨b, t, p, l⟩ x1) ?_
   refine zE [2] ?_
   clear hK K hL
   refine zX [] [0] ?_
   refine ⟨keyWord ⟨b, t, p, l⟩ x1, c, ?hq2, ?hv2, ?hh2⟩
   case hv2 => (try simp only [go_sem, simprocAttr, hX]); first | done | rfl
   case hh2 => (try simp only [go_sem, simprocAttr, hX]); first | done | rfl
   all_goals (exact keyWord_ok)
theorem sat_spec_l3Draw (c : Cu)  : ∃ (w : Word) (d : Cu), (True) ∧ Sat Tryd.prog 42 [.ptr 0 0] [⟨3, c.cells, true, false⟩] (.agg w.cells) [⟨3, d.cells, true, false⟩] := by
 suffices hE : ∃ zv zh, (∃ (w : Word) (d : Cu), (True) ∧ zv = (.agg w.cells) ∧ zh = [⟨3, d.cells, true, false⟩]) ∧ Sat Tryd.prog 42 [.ptr 0 0] [⟨3, c.cells, true, false⟩] zv zh from by
   obtain ⟨_, _, ⟨w, d, hq, rfl, rfl⟩, hs⟩ := hE
   exact ⟨w, d, hq, hs⟩
 have hX := trivial
 refine sat_ex [.cell 2 32] 1 26 Tryd.call42 Tryd.func42 Tryd.ntmps42 rfl rfl rfl rfl rfl ?_
 refine zI [0] ?_
 refine zS [0, 2] ?_
 obtain ⟨w, c, hw, hs1⟩ := sat_spec_l3DrawRight c
 intro ρ hL
 refine zA ?_
 intro K hK
 refine zFJ [0] (hs1) ?_
 refine zE [0, 2, 3] ?_
 clear hK K hL
 obtain ⟨x0, c, hx0, hs2⟩ := sat_spec_l1Below c 12
 have hb0 := hx0.2.1 (by decide)
 intro ρ hL
 refine zA ?_
 intro K hK
 refine zFJ [0] (hs2) ?_
 refine zE [0, 2, 3, 7] ?_
 clear hK K hL
 intro ρ hL
 refine awl_block fun R1 hw1 hR1 => ?_
 revert ρ hL
 refine zS [0, 2, 3, 7, 8] ?_
 refine zC ?_ ?_
 · intro c1
   obtain ⟨x1, c, hx1, hs3⟩ := sat_spec_l1PickInt c [-1, 65536, 9223372036854775807] (by simp)
   intro ρ hL
   refine zA ?_
   intro K hK
   refine zFJ [0, 3] (hs3) ?_
   refine zE [2, 3] ?_
   clear hK K hL
   intro ρ hL
   refine awl_nil ?_
   refine blk_normal (hR1 _ _ (.mk ?_))
   revert ρ hL
   refine zS [2] ?_
   refine zX [] [0] ?_
   refine ⟨⟨x1, w.is, w.key⟩, c, ?hq1, ?hv1, ?hh1⟩
   case hv1 => (try simp only [go_sem, simprocAttr, hX]); first | done | rfl
   case hh1 => (try simp only [go_sem, simprocAttr, hX]); first | done | rfl
   all_goals try clear hR1
   all_goals (first | trivial | assumption | omega | (simp; done))
 · intro c1
   refine zS [0, 2, 3, 7, 14] ?_
   refine zC ?_ ?_
   · intro c2
     refine zS [2, 3] ?_
     intro ρ hL
     refine awl_nil ?_
     refine blk_normal (hR1 _ _ (.mk ?_))
     revert ρ hL
     refine zS [2] ?_
     refine zX [] [0] ?_
     refine ⟨⟨w.n, !w.is, w.key⟩, c, ?hq2, ?hv2, ?hh2⟩
     case hv2 => (try simp only [go_sem, simprocAttr, hX]); first | done | rfl
     case hh2 => (try simp only [go_sem, simprocAttr, hX]); first | done | rfl
     all_goals try clear hR1
     all_goals (first | trivial | assumption | omega | (simp; done))
   · intro c2
     refine zS [0, 2, 3, 20] ?_
     refine zC ?_ ?_
     · intro c3
       obtain ⟨b, t, p, l, c, hk, hs4⟩ := sat_spec_l2Draw c
       intro ρ hL
       refine zA ?_
       intro K hK
       refine zFJ [0] (hs4) ?_
       refine zE [2, 3] ?_
       clear hK K hL
       intro ρ hL
       refine awl_nil ?_
       refine blk_normal (hR1 _ _ (.mk ?_))
       revert ρ hL
       refine zS [2] ?_
       refine zX [] [0] ?_
       refine ⟨⟨w.n, w.is, ⟨b, t, p, l⟩⟩, c, ?hq3, ?hv3, ?hh3⟩
       case hv3 => (try simp only [go_sem, simprocAttr, hX]); first | done | rfl
       case hh3 => (try simp only [go_sem, simprocAttr, hX]); first | done | rfl
       all_goals try clear hR1
       all_goals (first | trivial | assumption | omega | (simp; done))
     · intro c3
       intro ρ hL
       refine awl_skip ?_
       refine awl_nil ?_
       refine blk_normal (hR1 _ _ (.mk ?_))
       revert ρ hL
       refine zS [2] ?_
       refine zX [] [0] ?_
       refine ⟨w, c, ?hq4, ?hv4, ?hh4⟩
       case hv4 => (try simp only [go_sem, simprocAttr, hX]); first | done | rfl
       case hh4 => (try simp only [go_sem, simprocAttr, hX]); first | done | rfl
       all_goals try clear hR1
       all_goals (first | trivial | assumption | omega | (simp; done))
end Go.Proofs.YtgpjgljgplngpaaDoor.AM
