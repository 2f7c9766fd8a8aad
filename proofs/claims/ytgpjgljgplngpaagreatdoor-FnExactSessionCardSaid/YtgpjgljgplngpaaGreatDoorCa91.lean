/- A desk does a line; the other way. No conditions but those each theorem bears. -/
import Derived.Test.YtgpjgljgplngpaaGreatDoorFa
import Derived.Test.YtgpjgljgplngpaaGreatDoorCa89
import Derived.Test.YtgpjgljgplngpaaGreatDoorX5
import Derived.Test.YtgpjgljgplngpaaGreatDoorCa39
import Derived.Test.YtgpjgljgplngpaaGreatDoorCa40
import Derived.Test.YtgpjgljgplngpaaGreatDoorCa8
import Derived.Test.YtgpjgljgplngpaaGreatDoorCa32
import Derived.Test.YtgpjgljgplngpaaGreatDoorCa87
set_option linter.unusedSimpArgs false
set_option linter.unusedVariables false
namespace Go.Proofs.YtgpjgljgplngpaaGreatDoor.AM
open Go
set_option maxHeartbeats 8000000
set_option maxRecDepth 100000
theorem sat_spec_l20Copy (d : Dsk) (hf : d.fit) : Sat Tryz.prog 46 [.agg d.cells] [] (.agg (d.own 0 1 2 3 4 5 6)) d.blks := by
 have hX := trivial
 refine sat_mk [.cell 2 38] 0 15 Tryz.call46 Tryz.func46 Tryz.ntmps46 rfl rfl rfl rfl rfl ?_
 refine zI [0] ?_
 have hb1 := hf.1
 have hb2 := hf.2.2
 refine zS [1, 2] ?_
 intro ρ hL
 refine zAD [0, 0, 2, 7, 0, 16, 63, 0, 0, 256, 1023, 2047, 4095] ?_
 intro K hK
 refine zFD [0, 0, 2, 7, 0, 16, 63, 0, 0, 256, 1023, 2047, 4095] (sat_spec_l12Copy d.c hf.2.1) ?_
 refine zE [2] ?_
 clear hK K hL
 refine zK [2, 3, 4, 5, 6, 7, 8] [2, 3, 4, 5, 6, 7, 8] ?_ ?_
 all_goals try simp only [go_sem, simprocAttr, hX]
 all_goals (first | done | rfl | (simp; done) | (simp [inR]; done) | (simp_all [inR]; done) | (simp [inR]; grind))
section
attribute [local go_sem] Option.isSome_none
theorem sat_spec_l20Run (ls : List Ins) (os : List Int) (hl_ : ls.length ≤ 1048576) (ho_ : os.length ≤ 1048576) : Sat Tryz.prog 107 [.sl ls.length ls.length (rows ls), .sl os.length os.length (ints os)] [] (.agg ((dskState ⟨ls, noCor, os⟩).own 0 1 2)) (dskState ⟨ls, noCor, os⟩).blks := by
 have hX := trivial
 refine sat_mk [.cell 4 32] 0 23 Tryz.call107 Tryz.func107 Tryz.ntmps107 rfl rfl rfl rfl rfl ?_
 refine zI [0, 1] ?_
 refine zS [0, 1, 4] ?_
 obtain ⟨s0, hs0, hs1⟩ := sat_spec_StateNewX
 intro ρ hL
 refine zA ?_
 intro K hK
 refine zFJ [] (hs1) ?_
 refine zE [0, 1, 4, 5] ?_
 clear hK K hL
 refine zS [0, 1, 4, 5, 6] ?_
 intro ρ hL
 have e1 := hL
 refine awl_loopH (fun H0 n σ G => ∃ (u : Stt) (i : Nat), n = os.length - i ∧ (i ≤ os.length) ∧ (u.fit) ∧ ((os.take i).foldl (fun s n => run ls s [n]) sttNew = u) ∧ (liveE [0, 1, 4, 5] σ ρ ∧ σ 6 = .int .i64 (i : Int)) ∧ G = [⟨10, [.nilsl, .int .i64 0, .bool false, .int .i64 0, .int .i64 0, .int .i64 0, .int .i64 0, .nilsl, .nilsl, .int .i64 0], true, false⟩, ⟨6, rows u.regs, true, false⟩, ⟨6, rows u.mem.words, true, false⟩, ⟨1, rows u.mem.gone, true, false⟩, ⟨10, u.own 1 2 3, true, false⟩]) (fun H0 σ G => ∃ (u : Stt), (dskState ⟨ls, noCor, os⟩ = u) ∧ (liveE [4, 5] σ ρ) ∧ G = [⟨10, [.nilsl, .int .i64 0, .bool false, .int .i64 0, .int .i64 0, .int .i64 0, .int .i64 0, .nilsl, .nilsl, .int .i64 0], true, false⟩, ⟨6, rows u.regs, true, false⟩, ⟨6, rows u.mem.words, true, false⟩, ⟨1, rows u.mem.gone, true, false⟩, ⟨10, u.own 1 2 3, true, false⟩]) ((fun (u : Stt) (i : Nat) => os.length - i) s0  0) ?init1 (fun n ρ G hI => ?round1) (fun ρ G hJ => ?after1)
 case init1 => exact ⟨s0, 0, rfl, (Nat.zero_le _), (by rw [hs0]; exact sttNew_fit), (by rw [hs0]; rfl), ⟨liveE_refl _ _, (hL.2.2.2.2)⟩, rfl⟩
 case round1 =>
  clear hL
  obtain ⟨u, i, hn, i1_0, i1_1, i1_2, hL, hG⟩ := hI
  subst hG
  try simp only [go_sem, simprocAttr, e1, hX] at hL
  revert ρ hL
  refine zS [0, 1, 4, 5, 6, 11] ?_
  refine zC ?_ ?_
  ·intro c1 ρ hL
   refine awl_skip (awl_seq (awl_block fun R1 hw1 hR1 => ?_))
   have wi : IntKind.i64.wrap ((i : Int) + 1) = ((i + 1 : Nat) : Int) := by rw [wrap64 (by omega)]; omega
   have hi2 : i < os.length := by omega
   have hsa : (0 : Int) ≤ (i : Int) := by omega
   have hsb : (i : Int) ≤ ((i + 1 : Nat) : Int) := by omega
   have hsc : ((i + 1 : Nat) : Int) ≤ (os.length : Int) := by omega
   have hsf : (0 : Int) ≤ ((i + 1 : Nat) : Int) := by omega
   have hsd := ints_one hi2
   have hse : i + 1 - i = 1 := by omega
   have hX0 := hX
   replace hX := And.intro wi (And.intro hsa (And.intro hsb (And.intro hsc (And.intro hsd (And.intro hse (And.intro hsf hX))))))
   refine zAD [0, 0, 0, 0, 0, 16, 60, 127, 255] ?_
   intro K hK
   refine zFD [0, 0, 0, 0, 0, 16, 60, 127, 255] (sat_spec_Run ls u [os.getD i 0] hl_ i1_1 (by simp)) ?_
   refine zE [0, 1, 4, 5, 6] ?_
   clear hK K hL
   clear hX
   have hX := hX0
   clear hX0
   intro ρ hL
   refine awl_nil (blk_normal (hR1 _ _ (.mk ?_)))
   have wi : IntKind.i64.wrap ((i : Int) + 1) = ((i + 1 : Nat) : Int) := by rw [wrap64 (by omega)]; omega
   revert ρ hL
   refine zSX [0, 1, 4, 5, 6] (And.intro wi hX) ?_
   intro ρ hL
   refine awl_nil ?_
   refine loop_againW (Wk.keep [0, 5, 6, 7, 4] rfl) _ ?meas ⟨(run ls u [os.getD i 0]), (i + 1), rfl, (by omega), (by exact run_fit i1_1), (by exact foldR_take hi2 i1_2), ⟨(by simp only [go_sem, simprocAttr, hL, hX, e1]), (by simp only [go_sem, simprocAttr, hL, hX, e1]; first | done | rfl)⟩, (by simp only [go_sem, simprocAttr, hL, hX, e1]; first | done | rfl)⟩
   case meas => subst hn; omega
  ·intro c1 ρ hL
   refine awl_exit (loop_break ?_)
   exact ⟨u, (by rw [← i1_2, List.take_of_length_le (by omega)]; rfl), (by simp only [go_sem, simprocAttr, hL, hX, e1]), rfl⟩
 case after1 =>
  clear hL
  obtain ⟨u, j1_0, hL, hG⟩ := hJ
  subst hG
  try simp only [go_sem, simprocAttr, e1, hX] at hL
  revert ρ hL
  refine zS [4] ?_
  refine zK [1, 2, 3] [1, 2, 3] ?_ ?_
  all_goals try simp only [go_sem, simprocAttr, hX]
  all_goals ((try clear hR1); rw [j1_0]; try rfl)
end
section
attribute [local go_sem] mk_bt bt_app bt_fits
theorem sat_spec_l20Asked (d : Dsk) (l : Bs) (hf : d.fit) (hk : corOk d.c = true) (hl : l.length ≤ 1048576) : Sat Tryz.prog 47 [.agg d.cells, .str (bt l)] [] (.str (bt (askedS d l))) [] := by
 have hX := trivial
 refine sat_mk [.tmp 4] 0 41 Tryz.call47 Tryz.func47 Tryz.ntmps47 rfl rfl rfl rfl rfl ?_
 refine zI [0, 1] ?_
 refine zS [1, 2] ?_
 refine zS [1, 2, 6] ?_
 intro ρ hL
 refine awl_block fun R1 hw1 hR1 => ?_
 revert ρ hL
 refine zS [1, 2, 6, 7] ?_
 refine zC ?_ ?_
 ·intro c1
  refine zSF [4] (sat_spec_TrapText d.c.s.trap) ?_
  refine zR ?_
  try simp only [go_sem, simprocAttr]
  all_goals ((try clear hR1); rw [as_trap c1]; try rfl)
 ·intro c1
  refine zS [1, 2, 14] ?_
  refine zC ?_ ?_
  ·intro c2 ρ hL
   refine zAD [0, 1, 3, 0, 8, 0, 32, 120, 255] ?_
   intro K hK
   refine zFD [0, 1, 3, 0, 8, 0, 32, 120, 255] (sat_spec_l20Run d.list d.order hf.1 hf.2.2) ?_
   refine zFD [0, 1, 3, 0, 8, 0, 32, 120, 255] (sat_spec_Alike d.c.s (dskState d) hf.2.1.1 (dskState_fit d)) ?_
   refine zE [24] ?_
   clear hK K hL
   refine zC ?_ ?_
   ·intro c3
    refine zS [4] ?_
    refine zR ?_
    try simp only [go_sem, simprocAttr]
    all_goals ((try clear hR1); rw [as_same c1 c2, show dskSame d = true from c3]; try rfl)
   ·intro c3 ρ hL
    refine awl_skip ?_
    revert ρ hL
    refine zS [4] ?_
    refine zR ?_
    try simp only [go_sem, simprocAttr]
    all_goals ((try clear hR1); rw [as_same c1 c2, show dskSame d = false from c3]; try rfl)
  ·intro c2 ρ hL
   refine awl_skip (awl_nil (blk_normal (hR1 _ _ (.mk ?_))))
   revert ρ hL
   refine zSF [2, 5] (sat_spec_l20Num l wReg hl (by decide)) ?_
   intro ρ hL
   refine awl_seq (awl_block fun R2 hw2 hR2 => ?_)
   revert ρ hL
   refine zS [2, 5, 27] ?_
   refine zC ?_ ?_
   ·intro c4
    refine zS [4] ?_
    refine zR ?_
    try simp only [go_sem, simprocAttr]
    all_goals try clear hR1
    all_goals ((try clear hR2); rw [as_none c1 c2 c4]; try rfl)
   ·intro c4
    refine zS [2, 5, 30] ?_
    refine zC ?_ ?_
    ·intro c5
     refine zS [4] ?_
     refine zR ?_
     try simp only [go_sem, simprocAttr]
     all_goals try clear hR1
     all_goals ((try clear hR2); rw [as_far c1 c2 c4 c5]; try rfl)
    ·intro c5 ρ hL
     refine awl_skip (awl_nil (blk_normal (hR2 _ _ (.mk ?_))))
     have hq8 := (sttOk_parts (corOk_parts hk).2.1).2.1
     have hnr : (numW l wReg).toNat < d.c.s.regs.length := by omega
     have hn0 : 0 ≤ numW l wReg := by omega
     have hnl : numW l wReg < (d.c.s.regs.length : Int) := by omega
     revert ρ hL
     refine zSFX [4] (sat_spec_WordText (reg d.c.s (numW l wReg))) (And.intro hnr (And.intro hn0 (And.intro hnl hX))) ?_
     refine zR ?_
     try simp only [go_sem, simprocAttr]
     all_goals try clear hR1
     all_goals ((try clear hR2); rw [as_reg c1 c2 c4 c5]; try rfl)
end
section
attribute [local go_sem] mk_bt bt_app bt_fits bt_size bt_ext bt_bat List.length_cons List.length_nil Int.toNat_zero
theorem sat_spec_DeskLine (d : Dsk) (l : Bs) (hf : d.fit) (ho : d.order.length ≤ 1000000) (hl : l.length ≤ 1048576) : Sat Tryz.prog 17 [.agg d.cells, .str (bt l)] [] (.tuple [.agg ((dskLineS d l).1.own 0 1 2 3 4 5 6), .str (bt (dskLineS d l).2)]) (dskLineS d l).1.blks := by
 have hX := trivial
 refine sat_mk [.cell 4 38, .tmp 5] 0 101 Tryz.call17 Tryz.func17 Tryz.ntmps17 rfl rfl rfl rfl rfl ?_
 refine zI [0, 1] ?_
 refine zS [1, 2, 4] ?_
 refine zSF [1, 2, 4, 6] (sat_spec_l20Copy d hf) ?_
 refine zSF [1, 2, 4, 6, 22] (sat_spec_CoreOk d.c hf.2.1) ?_
 refine zC ?_ ?_
 ·intro c1
  refine zS [4, 5] ?_
  refine zK [2, 3, 4, 5, 6, 7, 8] [2, 3, 4, 5, 6, 7, 8] ?_ ?_
  all_goals try simp only [go_sem, simprocAttr, hX]
  all_goals (rw [sl_bad c1]; try rfl)
 ·intro c1 ρ hL
  refine awl_skip ?_
  refine zA ?_
  intro K hK
  refine zL [1, 2, 4, 6, 26] ?_
  clear hL
  intro ρ hL
  refine grp_orN (v := ?v1) 3 rfl [1, 2, 4, 6] hL.2.2.2.2 rfl (fun hb K1 hK1 => ?run) (fun hb => skA (want := false) (b := _) (by rw [hb]; rfl) hL.2.2.2.2 rfl) (fun ρ hP hM => ?_)
  case run =>
   simp only [List.take_succ_cons, List.take_zero]
   rw [hb] at hL
   have hz : 0 < l.length := List.length_pos_iff.2 (fun e => by rw [e] at hb; simp at hb)
   have hs2 : (0 : Int) < (l.length : Int) := by omega
   try simp only [go_sem, simprocAttr, hL, hX, hs2, Int.le_refl]
   repeat' refine And.intro (by first | rfl | omega | (simp; done)) ?_
   refine hK1 _ ?_ ?_ ?_ <;> simp only [go_sem, simprocAttr, hL, hX, hs2, Int.le_refl] <;> exact rfl
  refine zPp ?_
  clear hL hP hM
  intro hL
  refine zE [1, 2, 4, 6, 30] ?_
  clear hK K hL
  refine zC ?_ ?_
  ·intro c2
   refine zS [4, 5] ?_
   refine zK [2, 3, 4, 5, 6, 7, 8] [2, 3, 4, 5, 6, 7, 8] ?_ ?_
   all_goals try simp only [go_sem, simprocAttr, hX]
   all_goals (rw [sl_none (by simpa using c1) c2]; try rfl)
  ·intro c2 ρ hL
   refine awl_skip ?_
   have hk : corOk d.c = true := by simpa using c1
   revert ρ hL
   refine zSF [1, 2, 4, 6, 7] (sat_spec_l20Asked d l hf hk hl) ?_
   refine zS [1, 2, 4, 6, 7, 36] ?_
   refine zC ?_ ?_
   ·intro c3
    refine zS [4, 5] ?_
    refine zK [2, 3, 4, 5, 6, 7, 8] [2, 3, 4, 5, 6, 7, 8] ?_ ?_
    all_goals try simp only [go_sem, simprocAttr, hX]
    all_goals (rw [sl_said hk c2 c3]; try rfl)
   ·intro c3 ρ hL
    refine awl_skip ?_
    revert ρ hL
    refine zS [1, 2, 4, 6, 40] ?_
    refine zC ?_ ?_
    ·intro c4
     have hsm := settle_many (c := d.c)
     refine zSF [4, 6, 8, 9] (sat_spec_Settle d.list d.c hf.2.1) ?_
     refine zS [4, 6, 9] ?_
     intro ρ hL
     refine zA ?_
     intro K hK
     refine hK _ _ ⟨_, _, (Wk.keep [0, 1, 2, 10, 11, 12, 13, 14, 8, 9] rfl), awl_live' [4, 6, 9, 10] fun ρ hM => ?_⟩
     try simp only [go_sem, simprocAttr, hL, hX] at hM
     clear hK K hL
     try simp only [go_sem, simprocAttr]
     revert ρ hM
     intro ρ hL
     have e1 := hL
     refine awl_loopH (fun H0 n σ G => ∃ (o : List Int) (i : Nat), n = (settle d.c).2.toNat - i ∧ (i ≤ (settle d.c).2.toNat) ∧ (o = d.order ++ List.replicate i (-1)) ∧ (liveE [4, 6, 9] σ ρ ∧ σ 10 = .int .i64 (i : Int)) ∧ G = [⟨21, d.cells, true, false⟩, ⟨21, [.nilsl, .nilsl, .int .i64 0, .bool false, .int .i64 0, .int .i64 0, .int .i64 0, .int .i64 0, .nilsl, .nilsl, .int .i64 0, .nilsl, .int .i64 0, .bool false, .int .i64 0, .int .i64 0, .int .i64 0, .int .i64 0, .bool false, .nilsl, .nilsl], true, false⟩, ⟨5, rows d.list, true, false⟩, ⟨6, rows (settle d.c).1.s.regs, true, false⟩, ⟨6, rows (settle d.c).1.s.mem.words, true, false⟩, ⟨1, rows (settle d.c).1.s.mem.gone, true, false⟩, ⟨40, rows (settle d.c).1.rob, true, false⟩, ⟨1, ints (settle d.c).1.guesses, true, false⟩, ⟨1, ints o, true, false⟩, ⟨21, .slice 2 0 d.list.length 0 :: ((settle d.c).1.own 3 4 5 6 7 ++ [.slice 8 0 o.length 0]), true, false⟩]) (fun H0 σ G => ∃ (o : List Int), (o = d.order ++ List.replicate (settle d.c).2.toNat (-1)) ∧ (liveE [4, 6, 9] σ ρ) ∧ G = [⟨21, d.cells, true, false⟩, ⟨21, [.nilsl, .nilsl, .int .i64 0, .bool false, .int .i64 0, .int .i64 0, .int .i64 0, .int .i64 0, .nilsl, .nilsl, .int .i64 0, .nilsl, .int .i64 0, .bool false, .int .i64 0, .int .i64 0, .int .i64 0, .int .i64 0, .bool false, .nilsl, .nilsl], true, false⟩, ⟨5, rows d.list, true, false⟩, ⟨6, rows (settle d.c).1.s.regs, true, false⟩, ⟨6, rows (settle d.c).1.s.mem.words, true, false⟩, ⟨1, rows (settle d.c).1.s.mem.gone, true, false⟩, ⟨40, rows (settle d.c).1.rob, true, false⟩, ⟨1, ints (settle d.c).1.guesses, true, false⟩, ⟨1, ints o, true, false⟩, ⟨21, .slice 2 0 d.list.length 0 :: ((settle d.c).1.own 3 4 5 6 7 ++ [.slice 8 0 o.length 0]), true, false⟩]) ((fun (o : List Int) (i : Nat) => (settle d.c).2.toNat - i) d.order  0) ?init1 (fun n ρ G hI => ?round1) (fun ρ G hJ => ?after1)
     case init1 => exact ⟨d.order, 0, rfl, (Nat.zero_le _), (by simp), ⟨liveE_refl _ _, (hL.2.2.2)⟩, rfl⟩
     case round1 =>
      clear hL
      obtain ⟨o, i, hn, i1_0, i1_1, hL, hG⟩ := hI
      subst hG
      try simp only [go_sem, simprocAttr, e1, hX] at hL
      revert ρ hL
      refine zS [4, 6, 9, 10, 53] ?_
      refine zC ?_ ?_
      ·intro c5 ρ hL
       refine awl_skip (awl_seq (awl_block fun R1 hw1 hR1 => ?_))
       have hol : o.length = d.order.length + i := by rw [i1_1]; simp
       revert ρ hL
       refine zS [4, 6, 9, 10] ?_
       intro ρ hL
       refine awl_nil (blk_normal (hR1 _ _ (.mk ?_)))
       have wi : IntKind.i64.wrap ((i : Int) + 1) = ((i + 1 : Nat) : Int) := by rw [wrap64 (by omega)]; omega
       revert ρ hL
       refine zSX [4, 6, 9, 10] (And.intro wi hX) ?_
       intro ρ hL
       refine awl_nil ?_
       refine loop_againW (Wk.keep [0, 1, 2, 3, 4, 5, 6, 7, 11, 9] rfl) _ ?meas ⟨(o ++ [-1]), (i + 1), rfl, (by omega), (by exact rep_next i1_1), ⟨(by simp only [go_sem, simprocAttr, hL, hX, e1]), (by simp only [go_sem, simprocAttr, hL, hX, e1]; first | done | rfl)⟩, (by simp only [go_sem, simprocAttr, hL, hX, e1]; rw [ints_snoc]; simp only [List.length_append, List.length_cons, List.length_nil])⟩
       case meas => subst hn; omega
      ·intro c5 ρ hL
       refine awl_exit (loop_break ?_)
       exact ⟨o, (by rw [i1_1, show i = (settle d.c).2.toNat by omega]), (by simp only [go_sem, simprocAttr, hL, hX, e1]), rfl⟩
     case after1 =>
      clear hL
      obtain ⟨o, j1_0, hL, hG⟩ := hJ
      subst hG
      try simp only [go_sem, simprocAttr, e1, hX] at hL
      refine zAD [0, 0, 2, 7, 15] ?_
      intro K hK
      refine zFD [0, 0, 2, 7, 15] (sat_spec_l7Digits (settle d.c).2 (by omega)) ?_
      refine zE [4, 5] ?_
      clear hK K hL
      refine zK [2, 3, 4, 5, 6, 7, 8] [2, 3, 4, 5, 6, 7, 8] ?_ ?_
      all_goals try simp only [go_sem, simprocAttr, hX]
      all_goals ((try clear hR1); rw [sl_settle hk c2 c3 c4]; first | done | rfl | (subst j1_0; simp only [dskSettle]; done) | (subst j1_0; rfl))
    ·intro c4 ρ hL
     refine awl_skip ?_
     revert ρ hL
     refine zSF [2, 4, 6, 11, 12] (sat_spec_l20Pick l hl) ?_
     refine zS [2, 4, 6, 11, 70] ?_
     refine zC ?_ ?_
     ·intro c6
      refine zS [4, 5] ?_
      refine zK [2, 3, 4, 5, 6, 7, 8] [2, 3, 4, 5, 6, 7, 8] ?_ ?_
      all_goals try simp only [go_sem, simprocAttr, hX]
      all_goals ((try clear hR1); rw [sl_what hk c2 c3 c4 c6]; try rfl)
     ·intro c6 ρ hL
      refine awl_skip ?_
      revert ρ hL
      refine zSF [4, 6, 11, 13, 14] (sat_spec_CorePick d.list d.c (pickS2 l).1 hf.1 hf.2.1) ?_
      refine zS [4, 6, 11, 14] ?_
      refine zSF [4, 6, 14, 15, 16] (sat_spec_l16Number (pickS2 l).1) ?_
      intro ρ hL
      refine zA ?_
      intro K hK
      refine zL [4, 6, 14, 15, 16, 89] ?_
      clear hL
      intro ρ hL
      refine grp_andN (v := ?v2) 1 rfl [4, 6, 14, 15] hL.2.2.2.2.2 rfl (fun hb K1 hK1 => ?run) (fun hb => skA (want := true) (b := _) (by rw [hb]; rfl) hL.2.2.2.2.2 rfl) (fun ρ hP hM => ?_)
      case run => exact zR1
      refine zPp ?_
      clear hL hP hM
      intro hL
      refine zE [4, 6, 14, 15, 91] ?_
      clear hK K hL
      refine zC ?_ ?_
      ·intro c7
       refine zS [4, 6, 14] ?_
       refine zS [4, 6, 98] ?_
       refine zQ ?_ ?_
       ·intro c8
        try simp only [cnd] at c8
        refine zS [4, 5] ?_
        refine zK [2, 11, 12, 13, 14, 15, 18] [2, 11, 12, 13, 14, 15, 18] ?_ ?_
        all_goals try simp only [go_sem, simprocAttr, hX]
        all_goals ((try clear hR1); rw [sl_pick hk c2 c3 c4 c6, pickD_onS c7.1 c7.2]; first | rfl | (simp only [ints_snoc, List.length_append, List.length_cons, List.length_nil]; try rfl))
       ·intro c8
        try simp only [cnd] at c8
        first | (rw [c7.1] at c8; cases c8) | simp_all
      ·intro c7 ρ hL
       refine awl_skip ?_
       revert ρ hL
       refine zS [4, 6, 98] ?_
       refine zC ?_ ?_
       ·intro c9
        refine zS [4, 5] ?_
        refine zK [2, 11, 12, 13, 14, 15, 8] [2, 11, 12, 13, 14, 15, 8] ?_ ?_
        all_goals try simp only [go_sem, simprocAttr, hX]
        all_goals ((try clear hR1); rw [sl_pick hk c2 c3 c4 c6, pickD_off c7] <;> (first | rfl | (rw [c9]; try rfl)))
       ·intro c9 ρ hL
        refine awl_skip ?_
        revert ρ hL
        refine zS [4, 5] ?_
        refine zK [2, 11, 12, 13, 14, 15, 8] [2, 11, 12, 13, 14, 15, 8] ?_ ?_
        all_goals try simp only [go_sem, simprocAttr, hX]
        all_goals ((try clear hR1); rw [sl_pick hk c2 c3 c4 c6, pickD_off c7] <;> (first | rfl | (rw [c9]; try rfl)))
end
end Go.Proofs.YtgpjgljgplngpaaGreatDoor.AM
