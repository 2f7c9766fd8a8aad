/- What is drawn: numbers. What is drawn: keys and words. What is drawn: commands. What is drawn: memory and states. What is drawn: a state that steps have led to. No conditions but those each theorem bears. -/
import Derived.Test.YtgpjgljgplngpaaGreatDoorFa
import Derived.Test.YtgpjgljgplngpaaGreatDoorX3
import Derived.Test.YtgpjgljgplngpaaGreatDoorCb1
import Derived.Test.YtgpjgljgplngpaaGreatDoorCb2
import Derived.Test.YtgpjgljgplngpaaGreatDoorCb3
import Derived.Test.YtgpjgljgplngpaaGreatDoorCb5
set_option linter.unusedSimpArgs false
set_option linter.unusedVariables false
namespace Go.Proofs.YtgpjgljgplngpaaGreatDoor.AM
open Go
set_option maxHeartbeats 8000000
set_option maxRecDepth 100000
theorem sat_spec_l1New (bs : List UInt8) (hb : bs.length ≤ 1048576) : ∃ (c : Cu), (True) ∧ Sat Tryz.prog 40 [.sl bs.length bs.length (bytesV bs)] [] (.ptr 0 0) [⟨3, c.cells, true, false⟩] := by
 suffices hE : ∃ zv zh, (∃ (c : Cu), (True) ∧ zv = (.ptr 0 0) ∧ zh = [⟨3, c.cells, true, false⟩]) ∧ Sat Tryz.prog 40 [.sl bs.length bs.length (bytesV bs)] [] zv zh from by
  obtain ⟨_, _, ⟨c, hq, rfl, rfl⟩, hs⟩ := hE
  exact ⟨c, hq, hs⟩
 have hX := trivial
 refine sat_ex [.tmp 2] 0 32 Tryz.call40 Tryz.func40 Tryz.ntmps40 rfl rfl rfl rfl rfl ?_
 refine zI [0] ?_
 refine zS [0] ?_
 refine zS [0, 3] ?_
 refine zS [0, 3, 4] ?_
 intro ρ hL
 have e1 := hL
 refine awl_loopH (fun H0 n σ G => ∃ (q : Int) (i : Nat), n = bs.length - i ∧ (i ≤ bs.length) ∧ (liveE [0] σ ρ ∧ σ 3 = .int .i64 q ∧ σ 4 = .int .i64 (i : Int)) ∧ G = H0) (fun H0 σ G => ∃ (q : Int), (liveE [0] σ ρ ∧ σ 3 = .int .i64 q) ∧ G = H0) ((fun (q : Int) (i : Nat) => bs.length - i) (IntKind.i64.wrap (19220 + (bs.length : Int)))  0) ?init1 (fun n ρ G hI => ?round1) (fun ρ G hJ => ?after1)
 case init1 => exact ⟨(IntKind.i64.wrap (19220 + (bs.length : Int))), 0, rfl, (Nat.zero_le _), ⟨liveE_refl _ _, (hL.2.1), (hL.2.2)⟩, rfl⟩
 case round1 =>
  clear hL
  obtain ⟨q, i, hn, i1_0, hL, hG⟩ := hI
  subst hG
  try simp only [go_sem, simprocAttr, e1, hX] at hL
  refine zA ?_
  intro K hK
  refine zL [0, 3, 4, 12] ?_
  clear hL
  intro ρ hL
  refine grp_andN (v := ?v1) 2 rfl [0, 3, 4] hL.2.2.2 rfl (fun hb K1 hK1 => ?run) (fun hb => skA (want := true) (b := _) (by rw [hb]; rfl) hL.2.2.2 rfl) (fun ρ hP hM => ?_)
  case run => exact zR1
  refine zPp ?_
  clear hL hP hM
  intro hL
  refine zE [0, 3, 4, 15] ?_
  clear hK K hL
  refine zC ?_ ?_
  ·intro c1
   have hi1 : i < bs.length := by omega
   replace hX := And.intro hi1 hX
   intro ρ hL
   refine awl_skip (awl_seq (awl_block fun R1 hw1 hR1 => ?_))
   revert ρ hL
   refine zS [0, 3, 4] ?_
   intro ρ hL
   refine awl_nil (blk_normal (hR1 _ _ (.mk ?_)))
   have w1 : IntKind.i64.wrap ((i : Int) + 1) = ((i + 1 : Nat) : Int) := by rw [wrap64 (by omega)]; omega
   replace hX := And.intro w1 hX
   revert ρ hL
   refine zS [0, 3, 4] ?_
   intro ρ hL
   refine awl_nil ?_
   refine loop_again _ ?meas ⟨_, (i + 1), rfl, (by omega), ⟨(by simp only [go_sem, simprocAttr, hL, hX, e1]), (hL.2.1), (hL.2.2)⟩, rfl⟩
   case meas => subst hn; omega
  ·intro c1 ρ hL
   refine awl_exit (loop_break ?_)
   exact ⟨_, ⟨(by simp only [go_sem, simprocAttr, hL, hX, e1]), (hL.2.1)⟩, rfl⟩
 case after1 =>
  clear hL
  obtain ⟨q, hL, hG⟩ := hJ
  subst hG
  try simp only [go_sem, simprocAttr, e1, hX] at hL
  revert ρ hL
  refine zS [2] ?_
  refine zX [0] [0] ?_
  refine ⟨⟨bs, 0, ?y1_1, ⟨Int.le_refl _, hb⟩⟩, ?hq1, ?hv1, ?hh1⟩
  case hv1 => (try simp only [go_sem, simprocAttr, hX]); first | done | rfl
  case hh1 => (try simp only [go_sem, simprocAttr, hX]); first | done | rfl
  all_goals ((try clear hR1); first | trivial | assumption | omega | (simp; done))
theorem sat_spec_l1Byte (c : Cu)  : ∃ (x : Int) (d : Cu), (0 ≤ x ∧ x ≤ 255) ∧ Sat Tryz.prog 122 [.ptr 0 0] [⟨3, c.cells, true, false⟩] (.int .i64 x) [⟨3, d.cells, true, false⟩] := by
 suffices hE : ∃ zv zh, (∃ (x : Int) (d : Cu), (0 ≤ x ∧ x ≤ 255) ∧ zv = (.int .i64 x) ∧ zh = [⟨3, d.cells, true, false⟩]) ∧ Sat Tryz.prog 122 [.ptr 0 0] [⟨3, c.cells, true, false⟩] zv zh from by
  obtain ⟨_, _, ⟨x, d, hq, rfl, rfl⟩, hs⟩ := hE
  exact ⟨x, d, hq, hs⟩
 have hX := trivial
 refine sat_ex [.tmp 2] 1 58 Tryz.call122 Tryz.func122 Tryz.ntmps122 rfl rfl rfl rfl rfl ?_
 refine zI [0] ?_
 refine zS [0] ?_
 have hc := c.ok
 refine zS [0] ?_
 refine zD [0, 1, 3, 7, 15, 0, 32, 96, 224, 480, 1023, 2047, 4095] [0, 3] ?_
 refine zD [0, 1, 3, 7, 0, 16, 48, 112, 240, 511] [0, 3, 34] ?_
 refine zC ?_ ?_
 ·intro c1
  have hn : c.i.toNat < c.b.length := by omega
  refine zDX [0, 0, 2, 6, 14, 0, 32, 96, 224, 510, 1022, 2046, 4095, 8191, 16383] [0, 3] (And.intro hn hX) ?_
  have wi : IntKind.i64.wrap (c.i + 1) = c.i + 1 := wrap64 (by omega)
  refine zSX [3] (And.intro wi hX) ?_
  refine zS [2] ?_
  refine zX [] [0] ?_
  refine ⟨?y1_0, ⟨c.b, c.i + 1, ?y1_2, ⟨by omega, hc.2⟩⟩, ?hq1, ?hv1, ?hh1⟩
  case hv1 => (try simp only [go_sem, simprocAttr, hX]); first | done | rfl
  case hh1 => (try simp only [go_sem, simprocAttr, hX]); first | done | rfl
  all_goals (exact band_le (m := 255) (by decide))
 ·intro c1 ρ hL
  refine awl_skip ?_
  revert ρ hL
  refine zS [2] ?_
  refine zX [] [0] ?_
  refine ⟨?y2_0, ⟨c.b, c.i, ?y2_2, c.ok⟩, ?hq2, ?hv2, ?hh2⟩
  case hv2 => (try simp only [go_sem, simprocAttr, hX]); first | done | rfl
  case hh2 => (try simp only [go_sem, simprocAttr, hX]); first | done | rfl
  all_goals (exact band_le (m := 255) (by decide))
theorem sat_spec_l1Below (c : Cu) (n : Int)  : ∃ (x : Int) (d : Cu), (0 ≤ x ∧ (0 < n → x < n) ∧ (n ≤ 0 → x = 0)) ∧ Sat Tryz.prog 62 [.ptr 0 0, .int .i64 n] [⟨3, c.cells, true, false⟩] (.int .i64 x) [⟨3, d.cells, true, false⟩] := by
 suffices hE : ∃ zv zh, (∃ (x : Int) (d : Cu), (0 ≤ x ∧ (0 < n → x < n) ∧ (n ≤ 0 → x = 0)) ∧ zv = (.int .i64 x) ∧ zh = [⟨3, d.cells, true, false⟩]) ∧ Sat Tryz.prog 62 [.ptr 0 0, .int .i64 n] [⟨3, c.cells, true, false⟩] zv zh from by
  obtain ⟨_, _, ⟨x, d, hq, rfl, rfl⟩, hs⟩ := hE
  exact ⟨x, d, hq, hs⟩
 have hX := trivial
 refine sat_ex [.tmp 4] 1 37 Tryz.call62 Tryz.func62 Tryz.ntmps62 rfl rfl rfl rfl rfl ?_
 refine zI [0, 1] ?_
 refine zS [0, 1] ?_
 refine zS [0, 1, 10] ?_
 refine zC ?_ ?_
 ·intro c1
  refine zS [4] ?_
  refine zX [] [0] ?_
  refine ⟨0, c, ?hq1, ?hv1, ?hh1⟩
  case hv1 => (try simp only [go_sem, simprocAttr, hX]); first | done | rfl
  case hh1 => (try simp only [go_sem, simprocAttr, hX]); first | done | rfl
  all_goals (exact ⟨Int.le_refl 0, fun h => absurd h (by omega), fun _ => rfl⟩)
 ·intro c1 ρ hL
  refine awl_skip ?_
  revert ρ hL
  refine zS [0, 1, 12] ?_
  refine zC ?_ ?_
  ·intro c2
   obtain ⟨x0, c, hx0, hs1⟩ := sat_spec_l1Byte c
   have hn0 : ¬ n = 0 := by omega
   have hX0 := hX
   replace hX := And.intro hn0 hX
   intro ρ hL
   refine zA ?_
   intro K hK
   refine zFJ [0] (hs1) ?_
   refine zE [4] ?_
   clear hK K hL
   clear hX
   have hX := hX0
   clear hX0
   refine zX [] [0] ?_
   refine ⟨?y2_0, c, ?hq2, ?hv2, ?hh2⟩
   case hv2 => (try simp only [go_sem, simprocAttr, hX]); first | done | rfl
   case hh2 => (try simp only [go_sem, simprocAttr, hX]); first | done | rfl
   all_goals (exact rem_rng hx0.1 (by omega))
  ·intro c2 ρ hL
   refine awl_skip ?_
   obtain ⟨x1, c, hx1, hs2⟩ := sat_spec_l1Byte c
   refine zA ?_
   intro K hK
   refine zFJ [0] (hs2) ?_
   refine zE [0, 1, 5] ?_
   clear hK K hL
   obtain ⟨x2, c, hx2, hs3⟩ := sat_spec_l1Byte c
   intro ρ hL
   refine zA ?_
   intro K hK
   refine zFJ [0] (hs3) ?_
   refine zE [0, 1, 5, 6] ?_
   clear hK K hL
   obtain ⟨x3, c, hx3, hs4⟩ := sat_spec_l1Byte c
   intro ρ hL
   refine zA ?_
   intro K hK
   refine zFJ [0] (hs4) ?_
   refine zE [0, 1, 5, 6, 7] ?_
   clear hK K hL
   obtain ⟨x4, c, hx4, hs5⟩ := sat_spec_l1Byte c
   intro ρ hL
   refine zA ?_
   intro K hK
   refine zFJ [0] (hs5) ?_
   refine zE [1, 5, 6, 7, 8] ?_
   clear hK K hL
   have hn0 : ¬ n = 0 := by omega
   have w1 : IntKind.i64.wrap (x1 * 16777216) = x1 * 16777216 := wrap64 (by omega)
   have w2 : IntKind.i64.wrap (x2 * 65536) = x2 * 65536 := wrap64 (by omega)
   have w3 : IntKind.i64.wrap (x1 * 16777216 + x2 * 65536) = x1 * 16777216 + x2 * 65536 := wrap64 (by omega)
   have w4 : IntKind.i64.wrap (x3 * 256) = x3 * 256 := wrap64 (by omega)
   have w5 : IntKind.i64.wrap (x1 * 16777216 + x2 * 65536 + x3 * 256) = x1 * 16777216 + x2 * 65536 + x3 * 256 := wrap64 (by omega)
   have w6 : IntKind.i64.wrap (x1 * 16777216 + x2 * 65536 + x3 * 256 + x4) = x1 * 16777216 + x2 * 65536 + x3 * 256 + x4 := wrap64 (by omega)
   refine zSX [4] (And.intro hn0 (And.intro w1 (And.intro w2 (And.intro w3 (And.intro w4 (And.intro w5 (And.intro w6 hX))))))) ?_
   refine zX [] [0] ?_
   refine ⟨?y3_0, c, ?hq3, ?hv3, ?hh3⟩
   case hv3 => (try simp only [go_sem, simprocAttr, hX]); first | done | rfl
   case hh3 => (try simp only [go_sem, simprocAttr, hX]); first | done | rfl
   all_goals (exact rem_rng (by omega) (by omega))
theorem sat_spec_l1PickInt (c : Cu) (xs : List Int) (h0 : 0 < xs.length) : ∃ (x : Int) (d : Cu), (x ∈ xs) ∧ Sat Tryz.prog 181 [.ptr 0 0, .slice 1 0 xs.length xs.length] [⟨3, c.cells, true, false⟩, ⟨1, ints xs, true, false⟩] (.int .i64 x) [⟨3, d.cells, true, false⟩, ⟨1, ints xs, true, false⟩] := by
 suffices hE : ∃ zv zh, (∃ (x : Int) (d : Cu), (x ∈ xs) ∧ zv = (.int .i64 x) ∧ zh = [⟨3, d.cells, true, false⟩, ⟨1, ints xs, true, false⟩]) ∧ Sat Tryz.prog 181 [.ptr 0 0, .slice 1 0 xs.length xs.length] [⟨3, c.cells, true, false⟩, ⟨1, ints xs, true, false⟩] zv zh from by
  obtain ⟨_, _, ⟨x, d, hq, rfl, rfl⟩, hs⟩ := hE
  exact ⟨x, d, hq, hs⟩
 have hX := trivial
 refine sat_ex [.tmp 4] 2 12 Tryz.call181 Tryz.func181 Tryz.ntmps181 rfl rfl rfl rfl rfl ?_
 refine zI [0, 1] ?_
 refine zS [0, 1] ?_
 obtain ⟨x, c, hx, hs1⟩ := sat_spec_l1Below c (xs.length : Int)
 have hx2 := hx.2.1 (by omega)
 have hn : x.toNat < xs.length := by omega
 have hX0 := hX
 replace hX := And.intro hn hX
 intro ρ hL
 refine zA ?_
 intro K hK
 refine zFJ [0] (hs1) ?_
 refine zE [4] ?_
 clear hK K hL
 clear hX
 have hX := hX0
 clear hX0
 refine zX [] [0, 1] ?_
 refine ⟨xs.getD x.toNat 0, c, ?hq1, ?hv1, ?hh1⟩
 case hv1 => (try simp only [go_sem, simprocAttr, hX]); first | done | rfl
 case hh1 => (try simp only [go_sem, simprocAttr, hX]); first | done | rfl
 all_goals (exact getD_mem hn)
theorem sat_spec_KeyWord (k : Key) (n : Int)  : Sat Tryz.prog 69 [.agg k.cells, .int .i64 n] [] (.agg (keyWord k n).cells) [] := by
 have hX := trivial
 refine sat_mk [.cell 4 27] 0 14 Tryz.call69 Tryz.func69 Tryz.ntmps69 rfl rfl rfl rfl rfl ?_
 refine zI [0, 1] ?_
 refine zS [1, 2, 4] ?_
 refine zSF [2, 4, 5] (sat_spec_Plain _) ?_
 refine zSF [2, 4, 5, 9] (sat_spec_KeyOk _) ?_
 refine zC ?_ ?_
 ·intro c1
  refine zS [2, 4, 5] ?_
  refine zS [4, 5] ?_
  refine zS [4] ?_
  refine zR ?_
  try simp only [go_sem, simprocAttr]
  all_goals (rw [keyWord, if_pos c1] <;> rfl)
 ·intro c1 ρ hL
  refine awl_skip ?_
  revert ρ hL
  refine zS [4] ?_
  refine zR ?_
  try simp only [go_sem, simprocAttr]
  all_goals (rw [keyWord, if_neg (by rw [c1]; exact Bool.noConfusion)] <;> rfl)
theorem sat_spec_l6DrawIns (c : Cu)  : ∃ (o r a b n : Int) (d : Cu), (True) ∧ Sat Tryz.prog 121 [.ptr 0 0] [⟨3, c.cells, true, false⟩] (.agg [.int .i64 o, .int .i64 r, .int .i64 a, .int .i64 b, .int .i64 n]) [⟨3, d.cells, true, false⟩] := by
 suffices hE : ∃ zv zh, (∃ (o r a b n : Int) (d : Cu), (True) ∧ zv = (.agg [.int .i64 o, .int .i64 r, .int .i64 a, .int .i64 b, .int .i64 n]) ∧ zh = [⟨3, d.cells, true, false⟩]) ∧ Sat Tryz.prog 121 [.ptr 0 0] [⟨3, c.cells, true, false⟩] zv zh from by
  obtain ⟨_, _, ⟨o, r, a, b, n, d, hq, rfl, rfl⟩, hs⟩ := hE
  exact ⟨o, r, a, b, n, d, hq, hs⟩
 have hX := trivial
 refine sat_ex [.cell 2 92] 1 47 Tryz.call121 Tryz.func121 Tryz.ntmps121 rfl rfl rfl rfl rfl ?_
 refine zI [0] ?_
 refine zS [0, 2] ?_
 obtain ⟨x1, c, hx1, hs1⟩ := sat_spec_l1Below c 4
 have hb1 := hx1.2.1 (by decide)
 obtain ⟨x2, c, hx2, hs2⟩ := sat_spec_l1Below c 4
 have hb2 := hx2.2.1 (by decide)
 obtain ⟨x3, c, hx3, hs3⟩ := sat_spec_l1Below c 4
 have hb3 := hx3.2.1 (by decide)
 obtain ⟨x4, c, hx4, hs4⟩ := sat_spec_l1PickInt c [0, 0, 1, 2, 3, -1, 20] (by simp)
 intro ρ hL
 refine zA ?_
 intro K hK
 refine zFJ [0] (hs1) ?_
 refine zFJ [0] (hs2) ?_
 refine zFJ [0] (hs3) ?_
 refine zFJ [0, 2] (hs4) ?_
 refine zE [0, 2, 3, 4, 5, 6] ?_
 clear hK K hL
 obtain ⟨x5, c, hx5, hs5⟩ := sat_spec_l1PickInt c [1, 1, 1, 2, 3, 4, 5, 5, 6, 6, 7, 8, 9, 10, 10, 10, 11, 11, 11, 12, 13, 13, 14, 15] (by simp)
 intro ρ hL
 refine zA ?_
 intro K hK
 refine zFJ [0, 3] (hs5) ?_
 refine zE [2, 3, 4, 5, 6, 7] ?_
 clear hK K hL
 refine zSF [2, 3, 4, 5, 6, 7, 8] (sat_spec_l6Has x5) ?_
 refine zS [2, 3, 4, 5, 6, 7, 8, 28] ?_
 refine zC ?_ ?_
 ·intro c1
  refine zS [2, 4, 5, 6, 7, 8] ?_
  refine zS [2, 4, 5, 6, 7, 8, 33] ?_
  refine zC ?_ ?_
  ·intro c2
   refine zS [2, 5, 6, 7, 8] ?_
   refine zS [2, 5, 6, 7, 8, 38] ?_
   refine zC ?_ ?_
   ·intro c3
    refine zS [2, 6, 7, 8] ?_
    refine zS [2, 6, 7, 43] ?_
    refine zC ?_ ?_
    ·intro c4
     refine zS [2, 7] ?_
     refine zS [2] ?_
     refine zX [] [0] ?_
     refine ⟨?y1_0, ?y1_1, ?y1_2, ?y1_3, ?y1_4, c, ?hq1, ?hv1, ?hh1⟩
     case hv1 => (try simp only [go_sem, simprocAttr, hX]); first | done | rfl
     case hh1 => (try simp only [go_sem, simprocAttr, hX]); first | done | rfl
     all_goals (first | trivial | assumption | omega | (simp; done))
    ·intro c4 ρ hL
     refine awl_skip ?_
     revert ρ hL
     refine zS [2] ?_
     refine zX [] [0] ?_
     refine ⟨?y2_0, ?y2_1, ?y2_2, ?y2_3, ?y2_4, c, ?hq2, ?hv2, ?hh2⟩
     case hv2 => (try simp only [go_sem, simprocAttr, hX]); first | done | rfl
     case hh2 => (try simp only [go_sem, simprocAttr, hX]); first | done | rfl
     all_goals (first | trivial | assumption | omega | (simp; done))
   ·intro c3 ρ hL
    refine awl_skip ?_
    revert ρ hL
    refine zS [2, 6, 7, 43] ?_
    refine zC ?_ ?_
    ·intro c5
     refine zS [2, 7] ?_
     refine zS [2] ?_
     refine zX [] [0] ?_
     refine ⟨?y3_0, ?y3_1, ?y3_2, ?y3_3, ?y3_4, c, ?hq3, ?hv3, ?hh3⟩
     case hv3 => (try simp only [go_sem, simprocAttr, hX]); first | done | rfl
     case hh3 => (try simp only [go_sem, simprocAttr, hX]); first | done | rfl
     all_goals (first | trivial | assumption | omega | (simp; done))
    ·intro c5 ρ hL
     refine awl_skip ?_
     revert ρ hL
     refine zS [2] ?_
     refine zX [] [0] ?_
     refine ⟨?y4_0, ?y4_1, ?y4_2, ?y4_3, ?y4_4, c, ?hq4, ?hv4, ?hh4⟩
     case hv4 => (try simp only [go_sem, simprocAttr, hX]); first | done | rfl
     case hh4 => (try simp only [go_sem, simprocAttr, hX]); first | done | rfl
     all_goals (first | trivial | assumption | omega | (simp; done))
  ·intro c2 ρ hL
   refine awl_skip ?_
   revert ρ hL
   refine zS [2, 5, 6, 7, 8, 38] ?_
   refine zC ?_ ?_
   ·intro c6
    refine zS [2, 6, 7, 8] ?_
    refine zS [2, 6, 7, 43] ?_
    refine zC ?_ ?_
    ·intro c7
     refine zS [2, 7] ?_
     refine zS [2] ?_
     refine zX [] [0] ?_
     refine ⟨?y5_0, ?y5_1, ?y5_2, ?y5_3, ?y5_4, c, ?hq5, ?hv5, ?hh5⟩
     case hv5 => (try simp only [go_sem, simprocAttr, hX]); first | done | rfl
     case hh5 => (try simp only [go_sem, simprocAttr, hX]); first | done | rfl
     all_goals (first | trivial | assumption | omega | (simp; done))
    ·intro c7 ρ hL
     refine awl_skip ?_
     revert ρ hL
     refine zS [2] ?_
     refine zX [] [0] ?_
     refine ⟨?y6_0, ?y6_1, ?y6_2, ?y6_3, ?y6_4, c, ?hq6, ?hv6, ?hh6⟩
     case hv6 => (try simp only [go_sem, simprocAttr, hX]); first | done | rfl
     case hh6 => (try simp only [go_sem, simprocAttr, hX]); first | done | rfl
     all_goals (first | trivial | assumption | omega | (simp; done))
   ·intro c6 ρ hL
    refine awl_skip ?_
    revert ρ hL
    refine zS [2, 6, 7, 43] ?_
    refine zC ?_ ?_
    ·intro c8
     refine zS [2, 7] ?_
     refine zS [2] ?_
     refine zX [] [0] ?_
     refine ⟨?y7_0, ?y7_1, ?y7_2, ?y7_3, ?y7_4, c, ?hq7, ?hv7, ?hh7⟩
     case hv7 => (try simp only [go_sem, simprocAttr, hX]); first | done | rfl
     case hh7 => (try simp only [go_sem, simprocAttr, hX]); first | done | rfl
     all_goals (first | trivial | assumption | omega | (simp; done))
    ·intro c8 ρ hL
     refine awl_skip ?_
     revert ρ hL
     refine zS [2] ?_
     refine zX [] [0] ?_
     refine ⟨?y8_0, ?y8_1, ?y8_2, ?y8_3, ?y8_4, c, ?hq8, ?hv8, ?hh8⟩
     case hv8 => (try simp only [go_sem, simprocAttr, hX]); first | done | rfl
     case hh8 => (try simp only [go_sem, simprocAttr, hX]); first | done | rfl
     all_goals (first | trivial | assumption | omega | (simp; done))
 ·intro c1 ρ hL
  refine awl_skip ?_
  revert ρ hL
  refine zS [2, 4, 5, 6, 7, 8, 33] ?_
  refine zC ?_ ?_
  ·intro c9
   refine zS [2, 5, 6, 7, 8] ?_
   refine zS [2, 5, 6, 7, 8, 38] ?_
   refine zC ?_ ?_
   ·intro c10
    refine zS [2, 6, 7, 8] ?_
    refine zS [2, 6, 7, 43] ?_
    refine zC ?_ ?_
    ·intro c11
     refine zS [2, 7] ?_
     refine zS [2] ?_
     refine zX [] [0] ?_
     refine ⟨?y9_0, ?y9_1, ?y9_2, ?y9_3, ?y9_4, c, ?hq9, ?hv9, ?hh9⟩
     case hv9 => (try simp only [go_sem, simprocAttr, hX]); first | done | rfl
     case hh9 => (try simp only [go_sem, simprocAttr, hX]); first | done | rfl
     all_goals (first | trivial | assumption | omega | (simp; done))
    ·intro c11 ρ hL
     refine awl_skip ?_
     revert ρ hL
     refine zS [2] ?_
     refine zX [] [0] ?_
     refine ⟨?y10_0, ?y10_1, ?y10_2, ?y10_3, ?y10_4, c, ?hq10, ?hv10, ?hh10⟩
     case hv10 => (try simp only [go_sem, simprocAttr, hX]); first | done | rfl
     case hh10 => (try simp only [go_sem, simprocAttr, hX]); first | done | rfl
     all_goals (first | trivial | assumption | omega | (simp; done))
   ·intro c10 ρ hL
    refine awl_skip ?_
    revert ρ hL
    refine zS [2, 6, 7, 43] ?_
    refine zC ?_ ?_
    ·intro c12
     refine zS [2, 7] ?_
     refine zS [2] ?_
     refine zX [] [0] ?_
     refine ⟨?y11_0, ?y11_1, ?y11_2, ?y11_3, ?y11_4, c, ?hq11, ?hv11, ?hh11⟩
     case hv11 => (try simp only [go_sem, simprocAttr, hX]); first | done | rfl
     case hh11 => (try simp only [go_sem, simprocAttr, hX]); first | done | rfl
     all_goals (first | trivial | assumption | omega | (simp; done))
    ·intro c12 ρ hL
     refine awl_skip ?_
     revert ρ hL
     refine zS [2] ?_
     refine zX [] [0] ?_
     refine ⟨?y12_0, ?y12_1, ?y12_2, ?y12_3, ?y12_4, c, ?hq12, ?hv12, ?hh12⟩
     case hv12 => (try simp only [go_sem, simprocAttr, hX]); first | done | rfl
     case hh12 => (try simp only [go_sem, simprocAttr, hX]); first | done | rfl
     all_goals (first | trivial | assumption | omega | (simp; done))
  ·intro c9 ρ hL
   refine awl_skip ?_
   revert ρ hL
   refine zS [2, 5, 6, 7, 8, 38] ?_
   refine zC ?_ ?_
   ·intro c13
    refine zS [2, 6, 7, 8] ?_
    refine zS [2, 6, 7, 43] ?_
    refine zC ?_ ?_
    ·intro c14
     refine zS [2, 7] ?_
     refine zS [2] ?_
     refine zX [] [0] ?_
     refine ⟨?y13_0, ?y13_1, ?y13_2, ?y13_3, ?y13_4, c, ?hq13, ?hv13, ?hh13⟩
     case hv13 => (try simp only [go_sem, simprocAttr, hX]); first | done | rfl
     case hh13 => (try simp only [go_sem, simprocAttr, hX]); first | done | rfl
     all_goals (first | trivial | assumption | omega | (simp; done))
    ·intro c14 ρ hL
     refine awl_skip ?_
     revert ρ hL
     refine zS [2] ?_
     refine zX [] [0] ?_
     refine ⟨?y14_0, ?y14_1, ?y14_2, ?y14_3, ?y14_4, c, ?hq14, ?hv14, ?hh14⟩
     case hv14 => (try simp only [go_sem, simprocAttr, hX]); first | done | rfl
     case hh14 => (try simp only [go_sem, simprocAttr, hX]); first | done | rfl
     all_goals (first | trivial | assumption | omega | (simp; done))
   ·intro c13 ρ hL
    refine awl_skip ?_
    revert ρ hL
    refine zS [2, 6, 7, 43] ?_
    refine zC ?_ ?_
    ·intro c15
     refine zS [2, 7] ?_
     refine zS [2] ?_
     refine zX [] [0] ?_
     refine ⟨?y15_0, ?y15_1, ?y15_2, ?y15_3, ?y15_4, c, ?hq15, ?hv15, ?hh15⟩
     case hv15 => (try simp only [go_sem, simprocAttr, hX]); first | done | rfl
     case hh15 => (try simp only [go_sem, simprocAttr, hX]); first | done | rfl
     all_goals (first | trivial | assumption | omega | (simp; done))
    ·intro c15 ρ hL
     refine awl_skip ?_
     revert ρ hL
     refine zS [2] ?_
     refine zX [] [0] ?_
     refine ⟨?y16_0, ?y16_1, ?y16_2, ?y16_3, ?y16_4, c, ?hq16, ?hv16, ?hh16⟩
     case hv16 => (try simp only [go_sem, simprocAttr, hX]); first | done | rfl
     case hh16 => (try simp only [go_sem, simprocAttr, hX]); first | done | rfl
     all_goals (first | trivial | assumption | omega | (simp; done))
theorem sat_spec_l6DrawCode (c : Cu)  : ∃ (l : List Ins) (d : Cu), (0 < l.length ∧ l.length ≤ 24) ∧ Sat Tryz.prog 61 [.ptr 0 0] [⟨3, c.cells, true, false⟩] (.slice 1 0 l.length 0) [⟨3, d.cells, true, false⟩, ⟨5, rows l, true, false⟩] := by
 suffices hE : ∃ zv zh, (∃ (l : List Ins) (d : Cu), (0 < l.length ∧ l.length ≤ 24) ∧ zv = (.slice 1 0 l.length 0) ∧ zh = [⟨3, d.cells, true, false⟩, ⟨5, rows l, true, false⟩]) ∧ Sat Tryz.prog 61 [.ptr 0 0] [⟨3, c.cells, true, false⟩] zv zh from by
  obtain ⟨_, _, ⟨l, d, hq, rfl, rfl⟩, hs⟩ := hE
  exact ⟨l, d, hq, hs⟩
 have hX := trivial
 refine sat_ex [.tmp 2] 1 53 Tryz.call61 Tryz.func61 Tryz.ntmps61 rfl rfl rfl rfl rfl ?_
 refine zI [0] ?_
 refine zS [0] ?_
 intro ρ hL
 refine zA ?_
 intro K hK
 refine hK _ _ ⟨_, _, (Wk.norm [5] (RefE.refl.upd (t := 3) (by simp only [go_sem, simprocAttr]; first | done | rfl) (Ref.esl 1 ⟨Nat.le_refl _, Nat.lt_succ_self _⟩))), awl_live' [0, 3] fun ρ hM => ?_⟩
 try simp only [go_sem, simprocAttr, hL, hX] at hM
 clear hK K hL
 try simp only [go_sem, simprocAttr]
 revert ρ hM
 obtain ⟨l0, hl0, hl5, e0⟩ : ∃ l0 : List Ins, l0.length = 0 ∧ l0.length ≤ 5 ∧ rows l0 = [] := ⟨[], rfl, by decide, rfl⟩
 intro ρ hL
 rw [show (⟨5, [], true, false⟩ : Blk) = ⟨5, rows l0, true, false⟩ by rw [e0]]
 obtain ⟨x0, c, hx0, hs1⟩ := sat_spec_l1Below c 4
 have hb0 := hx0.2.1 (by decide)
 refine zA ?_
 intro K hK
 refine zFJ [0] (hs1) ?_
 refine zE [0, 3, 8] ?_
 clear hK K hL
 intro ρ hL
 refine awl_block fun R1 hw1 hR1 => ?_
 revert ρ hL
 refine zS [0, 3, 8, 9] ?_
 refine zC ?_ ?_
 ·intro c1 ρ hL
  refine zA ?_
  intro K hK
  refine hK _ _ ⟨_, _, (Wk.keep [0, 3] rfl), awl_live' [0, 3] fun ρ hM => ?_⟩
  try simp only [go_sem, simprocAttr, hL, hX] at hM
  clear hK K hL
  try simp only [go_sem, simprocAttr]
  revert ρ hM
  obtain ⟨l0, hl0, hl5, hr_⟩ : ∃ l0 : List Ins, l0.length = 4 ∧ l0.length ≤ 5 ∧ rows l0 = [.int .i64 1, .int .i64 1, .int .i64 0, .int .i64 0, .int .i64 3, .int .i64 5, .int .i64 2, .int .i64 0, .int .i64 1, .int .i64 0, .int .i64 11, .int .i64 0, .int .i64 0, .int .i64 2, .int .i64 1, .int .i64 10, .int .i64 3, .int .i64 0, .int .i64 0, .int .i64 1] := ⟨[⟨1, 1, 0, 0, 3⟩, ⟨5, 2, 0, 1, 0⟩, ⟨11, 0, 0, 2, 1⟩, ⟨10, 3, 0, 0, 1⟩], rfl, by decide, rfl⟩
  intro ρ hL
  rw [← hr_]
  refine awl_nil (blk_normal (hR1 _ _ (.mk ?_)))
  obtain ⟨x9, c, hx9, hs2⟩ := sat_spec_l1Below c 14
  have hb9 := hx9.2.1 (by decide)
  refine zA ?_
  intro K hK
  refine zFJ [0] (hs2) ?_
  refine zE [0, 3, 4] ?_
  clear hK K hL
  refine zS [0, 3, 4, 5] ?_
  intro ρ hL
  have e1 := hL
  refine awl_loopH (fun H0 n σ G => ∃ (l : List Ins) (c : Cu) (i : Nat), n = x9.toNat - i ∧ (i ≤ 14) ∧ (l.length ≤ 5 + i) ∧ (liveE [0, 4] σ ρ ∧ σ 3 = .slice 1 0 l.length 0 ∧ σ 5 = .int .i64 (i : Int)) ∧ G = [⟨3, c.cells, true, false⟩, ⟨5, rows l, true, false⟩]) (fun H0 σ G => ∃ (l : List Ins) (c : Cu), (l.length ≤ 20) ∧ (σ 3 = .slice 1 0 l.length 0) ∧ G = [⟨3, c.cells, true, false⟩, ⟨5, rows l, true, false⟩]) (x9.toNat - 0) ?init1 (fun n ρ G hI => ?round1) (fun ρ G hJ => ?after1)
  case init1 => exact ⟨l0, c, 0, rfl, (Nat.zero_le _), (by omega), ⟨liveE_refl _ _, (by rw [hL.2.1, hl0]), (hL.2.2.2)⟩, rfl⟩
  case round1 =>
   clear hL
   obtain ⟨l, c, i, hn, i1_0, i1_1, hL, hG⟩ := hI
   subst hG
   try simp only [go_sem, simprocAttr, e1, hX] at hL
   revert ρ hL
   refine zS [0, 3, 4, 5, 41] ?_
   refine zC ?_ ?_
   ·intro c2 ρ hL
    refine awl_skip (awl_seq (awl_block fun R2 hw2 hR2 => ?_))
    obtain ⟨o, r, a, b, n, c, hi, hs3⟩ := sat_spec_l6DrawIns c
    refine zA ?_
    intro K hK
    refine zFJ [0] (hs3) ?_
    refine zE [0, 3, 4, 5] ?_
    clear hK K hL
    intro ρ hL
    refine awl_nil (blk_normal (hR2 _ _ (.mk ?_)))
    have wi : IntKind.i64.wrap ((i : Int) + 1) = ((i + 1 : Nat) : Int) := by rw [wrap64 (by omega)]; omega
    revert ρ hL
    refine zSX [0, 3, 4, 5] (And.intro wi hX) ?_
    intro ρ hL
    refine awl_nil ?_
    refine loop_againW (Wk.keep [0, 3] rfl) _ ?meas ⟨(l ++ [⟨o, r, a, b, n⟩]), c, (i + 1), rfl, (by omega), (by rw [List.length_append]; simp; omega), ⟨(by simp only [go_sem, simprocAttr, hL, hX, e1]), (by simp only [go_sem, simprocAttr, hL, hX, e1]; rw [List.length_append]; rfl), (by simp only [go_sem, simprocAttr, hL, hX, e1]; first | done | rfl)⟩, (by simp only [go_sem, simprocAttr, hL, hX, e1]; rw [inss_snoc])⟩
    case meas => subst hn; omega
   ·intro c2 ρ hL
    refine awl_exit (loop_break ?_)
    exact ⟨l, c, (by omega), (hL.2.1), rfl⟩
  case after1 =>
   clear hL
   obtain ⟨l, c, j1_0, hL, hG⟩ := hJ
   subst hG
   revert ρ hL
   refine zS [2] ?_
   refine zX [3] [0, 3] ?_
   refine ⟨l ++ [⟨15, 0, 0, 0, 0⟩], c, ?hq1, ?hv1, ?hh1⟩
   case hv1 => (try simp only [go_sem, simprocAttr, hX, List.length_append,  List.length_cons,  List.length_nil,  inss_snoc]); first | done | rfl
   case hh1 => (try simp only [go_sem, simprocAttr, hX, List.length_append,  List.length_cons,  List.length_nil,  inss_snoc]); first | done | rfl
   all_goals try clear hR1
   all_goals ((try clear hR2); rw [List.length_append]; simp; omega)
 ·intro c1
  refine zS [0, 3, 8, 18] ?_
  refine zC ?_ ?_
  ·intro c3 ρ hL
   refine zA ?_
   intro K hK
   refine hK _ _ ⟨_, _, (Wk.keep [0, 3] rfl), awl_live' [0, 3] fun ρ hM => ?_⟩
   try simp only [go_sem, simprocAttr, hL, hX] at hM
   clear hK K hL
   try simp only [go_sem, simprocAttr]
   revert ρ hM
   obtain ⟨l0, hl0, hl5, hr_⟩ : ∃ l0 : List Ins, l0.length = 4 ∧ l0.length ≤ 5 ∧ rows l0 = [.int .i64 1, .int .i64 1, .int .i64 0, .int .i64 0, .int .i64 2, .int .i64 6, .int .i64 4, .int .i64 0, .int .i64 1, .int .i64 0, .int .i64 7, .int .i64 2, .int .i64 0, .int .i64 4, .int .i64 0, .int .i64 8, .int .i64 3, .int .i64 2, .int .i64 4, .int .i64 0] := ⟨[⟨1, 1, 0, 0, 2⟩, ⟨6, 4, 0, 1, 0⟩, ⟨7, 2, 0, 4, 0⟩, ⟨8, 3, 2, 4, 0⟩], rfl, by decide, rfl⟩
   intro ρ hL
   rw [← hr_]
   refine awl_nil (blk_normal (hR1 _ _ (.mk ?_)))
   obtain ⟨x9, c, hx9, hs4⟩ := sat_spec_l1Below c 14
   have hb9 := hx9.2.1 (by decide)
   refine zA ?_
   intro K hK
   refine zFJ [0] (hs4) ?_
   refine zE [0, 3, 4] ?_
   clear hK K hL
   refine zS [0, 3, 4, 5] ?_
   intro ρ hL
   have e2 := hL
   refine awl_loopH (fun H0 n σ G => ∃ (l : List Ins) (c : Cu) (i : Nat), n = x9.toNat - i ∧ (i ≤ 14) ∧ (l.length ≤ 5 + i) ∧ (liveE [0, 4] σ ρ ∧ σ 3 = .slice 1 0 l.length 0 ∧ σ 5 = .int .i64 (i : Int)) ∧ G = [⟨3, c.cells, true, false⟩, ⟨5, rows l, true, false⟩]) (fun H0 σ G => ∃ (l : List Ins) (c : Cu), (l.length ≤ 20) ∧ (σ 3 = .slice 1 0 l.length 0) ∧ G = [⟨3, c.cells, true, false⟩, ⟨5, rows l, true, false⟩]) (x9.toNat - 0) ?init2 (fun n ρ G hI => ?round2) (fun ρ G hJ => ?after2)
   case init2 => exact ⟨l0, c, 0, rfl, (Nat.zero_le _), (by omega), ⟨liveE_refl _ _, (by rw [hL.2.1, hl0]), (hL.2.2.2)⟩, rfl⟩
   case round2 =>
    clear hL
    obtain ⟨l, c, i, hn, i2_0, i2_1, hL, hG⟩ := hI
    subst hG
    try simp only [go_sem, simprocAttr, e2, hX] at hL
    revert ρ hL
    refine zS [0, 3, 4, 5, 41] ?_
    refine zC ?_ ?_
    ·intro c4 ρ hL
     refine awl_skip (awl_seq (awl_block fun R3 hw3 hR3 => ?_))
     obtain ⟨o, r, a, b, n, c, hi, hs5⟩ := sat_spec_l6DrawIns c
     refine zA ?_
     intro K hK
     refine zFJ [0] (hs5) ?_
     refine zE [0, 3, 4, 5] ?_
     clear hK K hL
     intro ρ hL
     refine awl_nil (blk_normal (hR3 _ _ (.mk ?_)))
     have wi : IntKind.i64.wrap ((i : Int) + 1) = ((i + 1 : Nat) : Int) := by rw [wrap64 (by omega)]; omega
     revert ρ hL
     refine zSX [0, 3, 4, 5] (And.intro wi hX) ?_
     intro ρ hL
     refine awl_nil ?_
     refine loop_againW (Wk.keep [0, 3] rfl) _ ?meas ⟨(l ++ [⟨o, r, a, b, n⟩]), c, (i + 1), rfl, (by omega), (by rw [List.length_append]; simp; omega), ⟨(by simp only [go_sem, simprocAttr, hL, hX, e2]), (by simp only [go_sem, simprocAttr, hL, hX, e2]; rw [List.length_append]; rfl), (by simp only [go_sem, simprocAttr, hL, hX, e2]; first | done | rfl)⟩, (by simp only [go_sem, simprocAttr, hL, hX, e2]; rw [inss_snoc])⟩
     case meas => subst hn; omega
    ·intro c4 ρ hL
     refine awl_exit (loop_break ?_)
     exact ⟨l, c, (by omega), (hL.2.1), rfl⟩
   case after2 =>
    clear hL
    obtain ⟨l, c, j2_0, hL, hG⟩ := hJ
    subst hG
    revert ρ hL
    refine zS [2] ?_
    refine zX [3] [0, 3] ?_
    refine ⟨l ++ [⟨15, 0, 0, 0, 0⟩], c, ?hq2, ?hv2, ?hh2⟩
    case hv2 => (try simp only [go_sem, simprocAttr, hX, List.length_append,  List.length_cons,  List.length_nil,  inss_snoc]); first | done | rfl
    case hh2 => (try simp only [go_sem, simprocAttr, hX, List.length_append,  List.length_cons,  List.length_nil,  inss_snoc]); first | done | rfl
    all_goals try clear hR1
    all_goals try clear hR2
    all_goals ((try clear hR3); rw [List.length_append]; simp; omega)
  ·intro c3
   refine zS [0, 3, 27] ?_
   refine zC ?_ ?_
   ·intro c5 ρ hL
    refine zA ?_
    intro K hK
    refine hK _ _ ⟨_, _, (Wk.keep [0, 3] rfl), awl_live' [0, 3] fun ρ hM => ?_⟩
    try simp only [go_sem, simprocAttr, hL, hX] at hM
    clear hK K hL
    try simp only [go_sem, simprocAttr]
    revert ρ hM
    obtain ⟨l0, hl0, hl5, hr_⟩ : ∃ l0 : List Ins, l0.length = 5 ∧ l0.length ≤ 5 ∧ rows l0 = [.int .i64 1, .int .i64 1, .int .i64 0, .int .i64 0, .int .i64 5, .int .i64 1, .int .i64 2, .int .i64 0, .int .i64 0, .int .i64 (-1), .int .i64 2, .int .i64 1, .int .i64 1, .int .i64 2, .int .i64 0, .int .i64 13, .int .i64 0, .int .i64 1, .int .i64 0, .int .i64 2, .int .i64 13, .int .i64 0, .int .i64 5, .int .i64 0, .int .i64 (-2)] := ⟨[⟨1, 1, 0, 0, 5⟩, ⟨1, 2, 0, 0, -1⟩, ⟨2, 1, 1, 2, 0⟩, ⟨13, 0, 1, 0, 2⟩, ⟨13, 0, 5, 0, -2⟩], rfl, by decide, rfl⟩
    intro ρ hL
    rw [← hr_]
    refine awl_nil (blk_normal (hR1 _ _ (.mk ?_)))
    obtain ⟨x9, c, hx9, hs6⟩ := sat_spec_l1Below c 14
    have hb9 := hx9.2.1 (by decide)
    refine zA ?_
    intro K hK
    refine zFJ [0] (hs6) ?_
    refine zE [0, 3, 4] ?_
    clear hK K hL
    refine zS [0, 3, 4, 5] ?_
    intro ρ hL
    have e3 := hL
    refine awl_loopH (fun H0 n σ G => ∃ (l : List Ins) (c : Cu) (i : Nat), n = x9.toNat - i ∧ (i ≤ 14) ∧ (l.length ≤ 5 + i) ∧ (liveE [0, 4] σ ρ ∧ σ 3 = .slice 1 0 l.length 0 ∧ σ 5 = .int .i64 (i : Int)) ∧ G = [⟨3, c.cells, true, false⟩, ⟨5, rows l, true, false⟩]) (fun H0 σ G => ∃ (l : List Ins) (c : Cu), (l.length ≤ 20) ∧ (σ 3 = .slice 1 0 l.length 0) ∧ G = [⟨3, c.cells, true, false⟩, ⟨5, rows l, true, false⟩]) (x9.toNat - 0) ?init3 (fun n ρ G hI => ?round3) (fun ρ G hJ => ?after3)
    case init3 => exact ⟨l0, c, 0, rfl, (Nat.zero_le _), (by omega), ⟨liveE_refl _ _, (by rw [hL.2.1, hl0]), (hL.2.2.2)⟩, rfl⟩
    case round3 =>
     clear hL
     obtain ⟨l, c, i, hn, i3_0, i3_1, hL, hG⟩ := hI
     subst hG
     try simp only [go_sem, simprocAttr, e3, hX] at hL
     revert ρ hL
     refine zS [0, 3, 4, 5, 41] ?_
     refine zC ?_ ?_
     ·intro c6 ρ hL
      refine awl_skip (awl_seq (awl_block fun R4 hw4 hR4 => ?_))
      obtain ⟨o, r, a, b, n, c, hi, hs7⟩ := sat_spec_l6DrawIns c
      refine zA ?_
      intro K hK
      refine zFJ [0] (hs7) ?_
      refine zE [0, 3, 4, 5] ?_
      clear hK K hL
      intro ρ hL
      refine awl_nil (blk_normal (hR4 _ _ (.mk ?_)))
      have wi : IntKind.i64.wrap ((i : Int) + 1) = ((i + 1 : Nat) : Int) := by rw [wrap64 (by omega)]; omega
      revert ρ hL
      refine zSX [0, 3, 4, 5] (And.intro wi hX) ?_
      intro ρ hL
      refine awl_nil ?_
      refine loop_againW (Wk.keep [0, 3] rfl) _ ?meas ⟨(l ++ [⟨o, r, a, b, n⟩]), c, (i + 1), rfl, (by omega), (by rw [List.length_append]; simp; omega), ⟨(by simp only [go_sem, simprocAttr, hL, hX, e3]), (by simp only [go_sem, simprocAttr, hL, hX, e3]; rw [List.length_append]; rfl), (by simp only [go_sem, simprocAttr, hL, hX, e3]; first | done | rfl)⟩, (by simp only [go_sem, simprocAttr, hL, hX, e3]; rw [inss_snoc])⟩
      case meas => subst hn; omega
     ·intro c6 ρ hL
      refine awl_exit (loop_break ?_)
      exact ⟨l, c, (by omega), (hL.2.1), rfl⟩
    case after3 =>
     clear hL
     obtain ⟨l, c, j3_0, hL, hG⟩ := hJ
     subst hG
     revert ρ hL
     refine zS [2] ?_
     refine zX [3] [0, 3] ?_
     refine ⟨l ++ [⟨15, 0, 0, 0, 0⟩], c, ?hq3, ?hv3, ?hh3⟩
     case hv3 => (try simp only [go_sem, simprocAttr, hX, List.length_append,  List.length_cons,  List.length_nil,  inss_snoc]); first | done | rfl
     case hh3 => (try simp only [go_sem, simprocAttr, hX, List.length_append,  List.length_cons,  List.length_nil,  inss_snoc]); first | done | rfl
     all_goals try clear hR1
     all_goals try clear hR2
     all_goals try clear hR3
     all_goals ((try clear hR4); rw [List.length_append]; simp; omega)
   ·intro c5 ρ hL
    refine awl_skip (awl_nil (blk_normal (hR1 _ _ (.mk ?_))))
    obtain ⟨x9, c, hx9, hs8⟩ := sat_spec_l1Below c 14
    have hb9 := hx9.2.1 (by decide)
    refine zA ?_
    intro K hK
    refine zFJ [0] (hs8) ?_
    refine zE [0, 3, 4] ?_
    clear hK K hL
    refine zS [0, 3, 4, 5] ?_
    intro ρ hL
    have e4 := hL
    refine awl_loopH (fun H0 n σ G => ∃ (l : List Ins) (c : Cu) (i : Nat), n = x9.toNat - i ∧ (i ≤ 14) ∧ (l.length ≤ 5 + i) ∧ (liveE [0, 4] σ ρ ∧ σ 3 = .slice 1 0 l.length 0 ∧ σ 5 = .int .i64 (i : Int)) ∧ G = [⟨3, c.cells, true, false⟩, ⟨5, rows l, true, false⟩]) (fun H0 σ G => ∃ (l : List Ins) (c : Cu), (l.length ≤ 20) ∧ (σ 3 = .slice 1 0 l.length 0) ∧ G = [⟨3, c.cells, true, false⟩, ⟨5, rows l, true, false⟩]) (x9.toNat - 0) ?init4 (fun n ρ G hI => ?round4) (fun ρ G hJ => ?after4)
    case init4 => exact ⟨l0, c, 0, rfl, (Nat.zero_le _), (by omega), ⟨liveE_refl _ _, (by rw [hL.2.1, hl0]), (hL.2.2.2)⟩, rfl⟩
    case round4 =>
     clear hL
     obtain ⟨l, c, i, hn, i4_0, i4_1, hL, hG⟩ := hI
     subst hG
     try simp only [go_sem, simprocAttr, e4, hX] at hL
     revert ρ hL
     refine zS [0, 3, 4, 5, 41] ?_
     refine zC ?_ ?_
     ·intro c7 ρ hL
      refine awl_skip (awl_seq (awl_block fun R5 hw5 hR5 => ?_))
      obtain ⟨o, r, a, b, n, c, hi, hs9⟩ := sat_spec_l6DrawIns c
      refine zA ?_
      intro K hK
      refine zFJ [0] (hs9) ?_
      refine zE [0, 3, 4, 5] ?_
      clear hK K hL
      intro ρ hL
      refine awl_nil (blk_normal (hR5 _ _ (.mk ?_)))
      have wi : IntKind.i64.wrap ((i : Int) + 1) = ((i + 1 : Nat) : Int) := by rw [wrap64 (by omega)]; omega
      revert ρ hL
      refine zSX [0, 3, 4, 5] (And.intro wi hX) ?_
      intro ρ hL
      refine awl_nil ?_
      refine loop_againW (Wk.keep [0, 3] rfl) _ ?meas ⟨(l ++ [⟨o, r, a, b, n⟩]), c, (i + 1), rfl, (by omega), (by rw [List.length_append]; simp; omega), ⟨(by simp only [go_sem, simprocAttr, hL, hX, e4]), (by simp only [go_sem, simprocAttr, hL, hX, e4]; rw [List.length_append]; rfl), (by simp only [go_sem, simprocAttr, hL, hX, e4]; first | done | rfl)⟩, (by simp only [go_sem, simprocAttr, hL, hX, e4]; rw [inss_snoc])⟩
      case meas => subst hn; omega
     ·intro c7 ρ hL
      refine awl_exit (loop_break ?_)
      exact ⟨l, c, (by omega), (hL.2.1), rfl⟩
    case after4 =>
     clear hL
     obtain ⟨l, c, j4_0, hL, hG⟩ := hJ
     subst hG
     revert ρ hL
     refine zS [2] ?_
     refine zX [3] [0, 3] ?_
     refine ⟨l ++ [⟨15, 0, 0, 0, 0⟩], c, ?hq4, ?hv4, ?hh4⟩
     case hv4 => (try simp only [go_sem, simprocAttr, hX, List.length_append,  List.length_cons,  List.length_nil,  inss_snoc]); first | done | rfl
     case hh4 => (try simp only [go_sem, simprocAttr, hX, List.length_append,  List.length_cons,  List.length_nil,  inss_snoc]); first | done | rfl
     all_goals try clear hR1
     all_goals try clear hR2
     all_goals try clear hR3
     all_goals try clear hR4
     all_goals ((try clear hR5); rw [List.length_append]; simp; omega)
theorem sat_spec_MemoryNew   : Sat Tryz.prog 68 [] [] (.agg (memNew.own 0 1)) memNew.blks := by
 have hX := trivial
 refine sat_mk [.cell 0 30] 0 4 Tryz.call68 Tryz.func68 Tryz.ntmps68 rfl rfl rfl rfl rfl ?_
 refine awl_live' [] fun ρ hL => ?_
 clear hL
 have hL := trivial
 refine zA ?_
 intro K hK
 refine zE [0] ?_
 clear hK K hL
 refine zD [0, 0, 3, 7] [0] ?_
 intro ρ hL
 refine awl_ret ?_
 refine retN (v := .agg [.slice 1 0 24 24, .slice 2 0 24 24]) [] [1, 2] [1, 2] rfl (by simp only [go_sem, simprocAttr, hL, hX]; exact rfl) (by first | rfl | (simp only [go_sem, simprocAttr, hL, hX]; first | done | rfl)) (Ref.agg (RefL.cons (Ref.cap _ _ _ _ 0 (Nat.zero_le _)) (RefL.cons (Ref.cap _ _ _ _ 0 (Nat.zero_le _)) (RefL.same [])))) rfl (by decide) rfl rfl ?_ ?_
 all_goals try simp only [go_sem, simprocAttr, hL, hX]
 all_goals (rfl)
end Go.Proofs.YtgpjgljgplngpaaGreatDoor.AM
