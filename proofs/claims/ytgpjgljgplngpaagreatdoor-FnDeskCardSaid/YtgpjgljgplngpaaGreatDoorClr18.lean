/- The law Desk, of what is drawn. No conditions but those each theorem bears. -/
import Derived.Test.YtgpjgljgplngpaaGreatDoorFa
import Derived.Test.YtgpjgljgplngpaaGreatDoorCa95
import Derived.Test.YtgpjgljgplngpaaGreatDoorCa60
import Derived.Test.YtgpjgljgplngpaaGreatDoorCa61
import Derived.Test.YtgpjgljgplngpaaGreatDoorCa8
set_option linter.unusedSimpArgs false
set_option linter.unusedVariables false
namespace Go.Proofs.YtgpjgljgplngpaaGreatDoor.AM
open Go
set_option maxHeartbeats 8000000
set_option maxRecDepth 100000
theorem sat_laws_at (bs : List UInt8) (i : Nat) (hb : bs.length ≤ 1048576) (hi : i ≤ 1000) : ∃ (x : Int), (0 ≤ x) ∧ Sat Tryz.prog 22 [.sl bs.length bs.length (bytesV bs), .int .i64 (i : Int)] [] (.int .i64 x) [] := by
 suffices hE : ∃ zv zh, (∃ (x : Int), (0 ≤ x) ∧ zv = (.int .i64 x) ∧ zh = []) ∧ Sat Tryz.prog 22 [.sl bs.length bs.length (bytesV bs), .int .i64 (i : Int)] [] zv zh from by
  obtain ⟨_, _, ⟨x, hq, rfl, rfl⟩, hs⟩ := hE
  exact ⟨x, hq, hs⟩
 have hX := trivial
 refine sat_ex [.tmp 4] 0 20 Tryz.call22 Tryz.func22 Tryz.ntmps22 rfl rfl rfl rfl rfl ?_
 refine zI [0, 1] ?_
 refine zS [0, 1] ?_
 refine zS [0, 1, 8] ?_
 refine zC ?_ ?_
 ·intro c1
  have hn : i < bs.length := by omega
  refine zSX [4] (And.intro hn hX) ?_
  refine zX [] [] ?_
  refine ⟨?y1_0, ?hq1, ?hv1, ?hh1⟩
  case hv1 => (try simp only [go_sem, simprocAttr, hX]); first | done | rfl
  case hh1 => (try simp only [go_sem, simprocAttr, hX]); first | done | rfl
  all_goals (rw [wrap64 (by have := (bs.getD i 0).toNat_lt; omega)]; omega)
 ·intro c1 ρ hL
  refine awl_skip ?_
  have w7 : IntKind.i64.wrap ((i : Int) * 7) = (i : Int) * 7 := wrap64 (by omega)
  have w8 : IntKind.i64.wrap ((i : Int) * 7 + (bs.length : Int)) = (i : Int) * 7 + (bs.length : Int) := wrap64 (by omega)
  revert ρ hL
  refine zSX [4] (And.intro w7 (And.intro w8 hX)) ?_
  refine zX [] [] ?_
  refine ⟨?y2_0, ?hq2, ?hv2, ?hh2⟩
  case hv2 => (try simp only [go_sem, simprocAttr, hX]); first | done | rfl
  case hh2 => (try simp only [go_sem, simprocAttr, hX]); first | done | rfl
  all_goals (exact Int.tmod_nonneg _ (by omega))
section
attribute [local go_sem] mk_bt bt_app bt_fits bt_size bt_ext bt_bat List.length_cons List.length_nil List.take_length word_deq decide_true strsV_nil strsV_cons
theorem sat_laws_FnDesk (bs : List UInt8) (hs : bs.length ≤ 9223372036854775807) : Sat Tryz.prog 5 [.sl bs.length bs.length (bytesV bs)] [] (.bool true) [] := by
 have hX := trivial
 refine sat_mk [.tmp 2] 0 154 Tryz.call5 Tryz.func5 Tryz.ntmps5 rfl rfl rfl rfl rfl ?_
 refine zI [0] ?_
 refine zS [0] ?_
 refine zSF [0, 18] (sat_laws_big _) ?_
 refine zC ?_ ?_
 ·intro c1
  refine zS [2] ?_
  refine zR ?_
  try simp only [go_sem, simprocAttr]
  all_goals (rfl)
 ·intro c1
  have hb : bs.length ≤ 1048576 := by omega
  intro ρ hL
  refine awl_skip ?_
  obtain ⟨k, y, hky, hs1⟩ := sat_spec_DrawDeskLine bs hb
  obtain ⟨hkf, hkl, hyl⟩ := hky
  have hef := (line_fit (s := y) hkf (by omega)).1
  refine zA ?_
  intro K hK
  refine zFJ [] (hs1) ?_
  refine zE [0, 3, 4] ?_
  clear hK K hL
  refine zSF [0, 3, 4, 5, 6] (sat_impl_DeskLine k y hkf (by omega) (by omega)) ?_
  refine zSF [0, 3, 4, 5, 6, 7, 8] (sat_spec_DeskLine2 k y hkf (by omega) (by omega)) ?_
  have kA : alike (dskLine k y).1.c.s (dskLine k y).1.c.s = true := alike_refl
  intro ρ hL
  replace hX := And.intro kA hX
  refine zA ?_
  intro K hK
  refine zF (sat_impl_Alike (dskLine k y).1.c.s (dskLine k y).1.c.s hef.2.1.1) ?_
  refine zF (sat_laws_sameInts (dskLine k y).1.order (dskLine k y).1.order (Nat.le_trans hef.2.2 (by decide))) ?_
  refine zE [0, 3, 4, 5, 6, 56] ?_
  clear hK K hL
  refine zC ?_ ?_
  ·intro c2
   first | done | (simp at c2; done) | (simp at c2; omega) | omega
  ·intro c2 ρ hL
   refine awl_skip ?_
   revert ρ hL
   refine zSF [0, 3, 4, 5, 6, 60] (sat_spec_CoreOk k.c hkf.2.1) ?_
   refine zC ?_ ?_
   ·intro c3
    refine zS [2] ?_
    refine zR ?_
    try simp only [go_sem, simprocAttr]
    all_goals (rw [dl_bad c3]; rfl)
   ·intro c3
    have hko : corOk k.c = true := by simpa using c3
    intro ρ hL
    refine awl_skip ?_
    refine zA ?_
    intro K hK
    refine zL [0, 3, 4, 5, 6, 65] ?_
    clear hL
    intro ρ hL
    refine grp_orN (v := ?v1) 2 rfl [0, 3, 4, 5, 6] hL.2.2.2.2.2 rfl (fun hb K1 hK1 => ?run) (fun hb => skA (want := false) (b := _) (by rw [hb]; rfl) hL.2.2.2.2.2 rfl) (fun ρ hP hM => ?_)
    case run => exact zR1
    refine zPp ?_
    clear hL hP hM
    intro hL
    refine zL [0, 3, 4, 5, 6, 69] ?_
    clear hL
    intro ρ hL
    refine grp_orN (v := ?v2) 2 rfl [0, 3, 4, 5] hL.2.2.2.2.2 rfl (fun hb K1 hK1 => ?run) (fun hb => skA (want := false) (b := _) (by rw [hb]; rfl) hL.2.2.2.2.2 rfl) (fun ρ hP hM => ?_)
    case run => exact zR1
    refine zPp ?_
    clear hL hP hM
    intro hL
    refine zL [0, 3, 4, 5, 73] ?_
    clear hL
    intro ρ hL
    refine grp_orN (v := ?v3) 2 rfl [0, 3, 4, 5] hL.2.2.2.2 rfl (fun hb K1 hK1 => ?run) (fun hb => skA (want := false) (b := _) (by rw [hb]; rfl) hL.2.2.2.2 rfl) (fun ρ hP hM => ?_)
    case run => exact zR1
    refine zPp ?_
    clear hL hP hM
    intro hL
    refine zL [0, 3, 4, 5, 77] ?_
    clear hL
    intro ρ hL
    refine grp_orN (v := ?v4) 2 rfl [0, 3, 5] hL.2.2.2.2 rfl (fun hb K1 hK1 => ?run) (fun hb => skA (want := false) (b := _) (by rw [hb]; rfl) hL.2.2.2.2 rfl) (fun ρ hP hM => ?_)
    case run => exact zR1
    refine zPp ?_
    clear hL hP hM
    intro hL
    refine zL [0, 3, 5, 81] ?_
    clear hL
    intro ρ hL
    refine grp_andN (v := ?v5) 19 rfl [0] hL.2.2.2 rfl (fun hb K1 hK1 => ?run) (fun hb => skA (want := true) (b := _) (by rw [hb]; rfl) hL.2.2.2 rfl) (fun ρ hP hM => ?_)
    case run =>
     simp only [List.take_succ_cons, List.take_zero]
     rw [hb] at hL
     have hst := stays_or hko hb
     have kB : alike (dskLine k y).1.c.s k.c.s = true := alike_of (by rw [hst])
     have kC : ((dskLine k y).1.c.rob.length : Int) = (k.c.rob.length : Int) := by rw [hst]
     replace hX := And.intro kB (And.intro kC hX)
     try simp only [go_sem, simprocAttr, hL, hX]
     repeat' refine And.intro (by first | rfl | omega | (simp; done)) ?_
     refine zF (sat_impl_Alike (dskLine k y).1.c.s k.c.s hef.2.1.1) ?_
     refine hK1 _ ?_ ?_ ?_ <;> simp only [go_sem, simprocAttr, hL, hX] <;> exact rfl
    refine zPp ?_
    clear hL hP hM
    intro hL
    refine zE [0, 101] ?_
    clear hK K hL
    refine zC ?_ ?_
    ·intro c4
     first | done | (simp at c4; done) | (simp at c4; omega) | omega
    ·intro c4
     clear c4
     intro ρ hL
     refine awl_skip ?_
     obtain ⟨t, ht, hs2⟩ := sat_spec_DrawDeskNew bs hb
     refine zA ?_
     intro K hK
     refine zFJ [] (hs2) ?_
     refine zE [0, 9] ?_
     clear hK K hL
     refine zSF [0, 9, 10, 11] (sat_impl_DeskNew t ht) ?_
     refine zSF [0, 10, 11, 13] (sat_spec_DeskNew t ht) ?_
     refine zS [0, 10, 11, 116] ?_
     refine zC ?_ ?_
     ·intro c5
      first | done | (simp at c5; done) | (simp at c5; omega) | omega
     ·intro c5 ρ hL
      refine awl_skip ?_
      refine zA ?_
      intro K hK
      refine hK _ _ ⟨_, _, (Wk.keep [24, 25, 26, 27, 28, 29, 30, 31] rfl), awl_live' [0, 10, 11, 14] fun ρ hM => ?_⟩
      try simp only [go_sem, simprocAttr, hL, hX] at hM
      clear hK K hL
      try simp only [go_sem, simprocAttr]
      revert ρ hM
      intro ρ hL
      have e1 := hL
      refine awl_loopH (fun H0 n σ G => ∃ (q : Dsk) (i : Nat), n = 25 - i ∧ (i ≤ 25) ∧ (q.fit) ∧ (q.order.length ≤ 600 * i) ∧ ((dskNew t).2 = true → DKept q) ∧ ((dskNew t).2 = false → q = (dskNew t).1) ∧ (liveE [0, 10, 11] σ ρ ∧ σ 14 = .int .i64 (i : Int)) ∧ G = [⟨5, rows q.list, true, false⟩, ⟨6, rows q.c.s.regs, true, false⟩, ⟨6, rows q.c.s.mem.words, true, false⟩, ⟨1, rows q.c.s.mem.gone, true, false⟩, ⟨40, rows q.c.rob, true, false⟩, ⟨1, ints q.c.guesses, true, false⟩, ⟨1, ints q.order, true, false⟩, ⟨21, q.own 0 1 2 3 4 5 6, true, false⟩]) (fun H0 σ G => ∃ (q : Dsk), (q.fit) ∧ (q.order.length ≤ 20000) ∧ ((dskNew t).2 = true → DKept q) ∧ ((dskNew t).2 = false → q = (dskNew t).1) ∧ (liveE [10, 11] σ ρ) ∧ G = [⟨5, rows q.list, true, false⟩, ⟨6, rows q.c.s.regs, true, false⟩, ⟨6, rows q.c.s.mem.words, true, false⟩, ⟨1, rows q.c.s.mem.gone, true, false⟩, ⟨40, rows q.c.rob, true, false⟩, ⟨1, ints q.c.guesses, true, false⟩, ⟨1, ints q.order, true, false⟩, ⟨21, q.own 0 1 2 3 4 5 6, true, false⟩]) ((fun (q : Dsk) (i : Nat) => 25 - i) (dskNew t).1  0) ?init1 (fun n ρ G hI => ?round1) (fun ρ G hJ => ?after1)
      case init1 => exact ⟨(dskNew t).1, 0, rfl, (Nat.zero_le _), (dskNew_fit), (by rw [dskNew_order]; simp), (fun h => dk_new h), (fun _ => rfl), ⟨liveE_refl _ _, (hL.2.2.2)⟩, rfl⟩
      case round1 =>
       clear hL
       obtain ⟨q, i, hn, i1_0, i1_1, i1_2, i1_3, i1_4, hL, hG⟩ := hI
       subst hG
       try simp only [go_sem, simprocAttr, e1, hX] at hL
       refine zA ?_
       intro K hK
       refine zL [0, 10, 11, 14, 119] ?_
       clear hL
       intro ρ hL
       refine grp_andN (v := ?v6) 1 rfl [0, 10, 11, 14] hL.2.2.2.2 rfl (fun hb K1 hK1 => ?run) (fun hb => skA (want := true) (b := _) (by rw [hb]; rfl) hL.2.2.2.2 rfl) (fun ρ hP hM => ?_)
       case run => exact zR1
       refine zPp ?_
       clear hL hP hM
       intro hL
       refine zE [0, 10, 11, 14, 121] ?_
       clear hK K hL
       refine zC ?_ ?_
       ·intro c6 ρ hL
        refine awl_skip (awl_seq (awl_block fun R1 hw1 hR1 => ?_))
        obtain ⟨x, hx, hs3⟩ := sat_laws_at bs i hb (by omega)
        have hm8 : 0 ≤ x.tmod 8 ∧ x.tmod 8 < 8 := ⟨Int.tmod_nonneg _ hx, Int.tmod_lt_of_pos _ (by decide)⟩
        have hg0 := hm8.1
        have hg8 := hm8.2
        have hn8 : (x.tmod 8).toNat < ([[112, 117, 108, 108], [112, 117, 108, 108], [100, 111, 32, 48], [100, 111, 32, 49], [100, 111, 32, 50], [99, 111, 109, 109, 105, 116], [115, 119, 101, 101, 112, 32, 51], [115, 101, 116, 116, 108, 101]] : List Bs).length := by show (x.tmod 8).toNat < 8; omega
        have hsa := strsV_at (xs := ([[112, 117, 108, 108], [112, 117, 108, 108], [100, 111, 32, 48], [100, 111, 32, 49], [100, 111, 32, 50], [99, 111, 109, 109, 105, 116], [115, 119, 101, 101, 112, 32, 51], [115, 101, 116, 116, 108, 101]] : List Bs)) (n := (x.tmod 8).toNat) hn8
        simp only [strsV_nil, strsV_cons] at hsa
        have hlw := w8_len (n := (x.tmod 8).toNat)
        have hX0 := hX
        replace hX := And.intro hg0 (And.intro hg8 (And.intro hsa hX))
        refine zAD [0, 0, 0, 0, 12, 28, 62, 126, 255, 511, 1023, 1023, 2047] ?_
        intro K hK
        refine zFDJ [0, 0, 0, 0, 12, 28, 62, 126, 255, 511, 1023, 1023, 2047] [] (hs3) ?_
        refine zFD [0, 0, 0, 0, 12, 28, 62, 126, 255, 511, 1023, 1023, 2047] (sat_impl_DeskLine q (([[112, 117, 108, 108], [112, 117, 108, 108], [100, 111, 32, 48], [100, 111, 32, 49], [100, 111, 32, 50], [99, 111, 109, 109, 105, 116], [115, 119, 101, 101, 112, 32, 51], [115, 101, 116, 116, 108, 101]] : List Bs).getD ((x.tmod 8).toNat) []) i1_1 (by omega) (by omega)) ?_
        refine zE [0, 10, 11, 14] ?_
        clear hK K hL
        clear hX
        have hX := hX0
        clear hX0
        intro ρ hL
        refine awl_nil (blk_normal (hR1 _ _ (.mk ?_)))
        have wi : IntKind.i64.wrap ((i : Int) + 1) = ((i + 1 : Nat) : Int) := by rw [wrap64 (by omega)]; omega
        revert ρ hL
        refine zSX [0, 10, 11, 14] (And.intro wi hX) ?_
        intro ρ hL
        refine awl_nil ?_
        refine loop_againW (Wk.keep [9, 10, 11, 12, 13, 14, 15, 7] rfl) _ ?meas ⟨(dskLine q (([[112, 117, 108, 108], [112, 117, 108, 108], [100, 111, 32, 48], [100, 111, 32, 49], [100, 111, 32, 50], [99, 111, 109, 109, 105, 116], [115, 119, 101, 101, 112, 32, 51], [115, 101, 116, 116, 108, 101]] : List Bs).getD ((x.tmod 8).toNat) [])).1, (i + 1), rfl, (by omega), (by exact (line_fit i1_1 (by omega)).1), (by have := (line_fit (s := ([[112, 117, 108, 108], [112, 117, 108, 108], [100, 111, 32, 48], [100, 111, 32, 49], [100, 111, 32, 50], [99, 111, 109, 109, 105, 116], [115, 119, 101, 101, 112, 32, 51], [115, 101, 116, 116, 108, 101]] : List Bs).getD ((x.tmod 8).toNat) []) i1_1 (by omega)).2; omega), (by exact fun h => dk_line (i1_3 h)), (by exact fun h => absurd h (by have := c6; simp_all)), ⟨(by simp only [go_sem, simprocAttr, hL, hX, e1]), (by simp only [go_sem, simprocAttr, hL, hX, e1]; first | done | rfl)⟩, (by simp only [go_sem, simprocAttr, hL, hX, e1]; first | done | rfl)⟩
        case meas => subst hn; omega
       ·intro c6 ρ hL
        refine awl_exit (loop_break ?_)
        exact ⟨q, (by exact i1_1), (by omega), (by exact i1_3), (by exact i1_4), (by simp only [go_sem, simprocAttr, hL, hX, e1]), rfl⟩
      case after1 =>
       clear hL
       obtain ⟨q, j1_0, j1_1, j1_2, j1_3, hL, hG⟩ := hJ
       subst hG
       try simp only [go_sem, simprocAttr, e1, hX] at hL
       revert ρ hL
       refine zSF [11, 16] (sat_impl_DeskLine q wSame j1_0 (by omega) (by decide)) ?_
       intro ρ hL
       refine zA ?_
       intro K hK
       refine zL [11, 16, 143] ?_
       clear hL
       intro ρ hL
       refine grp_andN (v := ?v7) 2 rfl [11, 16] hL.2.2 rfl (fun hb K1 hK1 => ?run) (fun hb => skA (want := true) (b := _) (by rw [hb]; rfl) hL.2.2 rfl) (fun ρ hP hM => ?_)
       case run => exact zR1
       refine zPp ?_
       clear hL hP hM
       intro hL
       refine zL [11, 16, 147] ?_
       clear hL
       intro ρ hL
       refine grp_orN (v := ?v8) 5 rfl [] hL.2.2 rfl (fun hb K1 hK1 => ?run) (fun hb => skA (want := false) (b := _) (by rw [hb]; rfl) hL.2.2 rfl) (fun ρ hP hM => ?_)
       case run =>
        refine zRn ?_
        intro hL
        have g9 := hL
        have hK1_9 := hK1
        refine zL [16, 147, 149] ?_
        clear hL
        intro ρ hL
        refine grp_andGN (v := ?v10) 2 147 false rfl hL.2.1 [147] rfl hL.2.2 rfl (fun hb K1 hK1 => ?run) (fun hb => skA (want := true) (b := _) (by rw [hb]; rfl) hL.2.2 rfl) (fun ρ hP hM => ?_)
        case run => exact zR1
        refine zPp ?_
        clear hL hP hM
        intro hL
        refine hK1_9 _ ?_ ?_ ?_ <;> simp only [go_sem, simprocAttr, hL, hX, g9] <;> exact rfl
       simp only [List.drop_succ_cons, List.drop_zero]
       clear hM hL
       have hL := hP
       clear hP
       try simp only [go_sem, simprocAttr, hL, hX]
       repeat' refine And.intro (by first | rfl | omega | (simp; done)) ?_
       refine zE [2] ?_
       clear hK K hL
       refine zR ?_
       try simp only [go_sem, simprocAttr]
       all_goals ((try clear hR1); rcases Bool.eq_false_or_eq_true (dskNew t).2 with hok | hok; rw [same_yes (j1_2 hok), hok]; rfl; rw [j1_3 hok, same_bad hok, hok]; rfl)
end
end Go.Proofs.YtgpjgljgplngpaaGreatDoor.AM
