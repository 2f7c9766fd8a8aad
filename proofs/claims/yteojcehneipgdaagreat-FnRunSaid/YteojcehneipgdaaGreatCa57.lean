/- What is drawn: sweeps, and states to be run. No conditions but those each theorem bears. -/
import Derived.Test.YteojcehneipgdaaGreatFa
import Derived.Test.YteojcehneipgdaaGreatSp25
import Derived.Test.YteojcehneipgdaaGreatCa56
import Derived.Test.YteojcehneipgdaaGreatCa60
import Derived.Test.YteojcehneipgdaaGreatCa32
import Derived.Test.YteojcehneipgdaaGreatCa18
set_option linter.unusedSimpArgs false
set_option linter.unusedVariables false
namespace Go.Proofs.YteojcehneipgdaaGreat.AM
open Go
set_option maxHeartbeats 8000000
set_option maxRecDepth 100000

theorem sat_spec_l10DrawSweeps (c : Cu)  : ∃ (ns : List Int) (d : Cu), (ns.length ≤ 25) ∧ Sat Tryz.prog 85 [.ptr 0 0] [⟨3, c.cells, true, false⟩] (.slice 1 0 ns.length 0) [⟨3, d.cells, true, false⟩, ⟨1, ints ns, true, false⟩] := by
 suffices hE : ∃ v h', (∃ (ns : List Int) (d : Cu), (ns.length ≤ 25) ∧ v = (.slice 1 0 ns.length 0) ∧ h' = [⟨3, d.cells, true, false⟩, ⟨1, ints ns, true, false⟩]) ∧ Sat Tryz.prog 85 [.ptr 0 0] [⟨3, c.cells, true, false⟩] v h' from by
   obtain ⟨_, _, ⟨ns, d, hq, rfl, rfl⟩, hs⟩ := hE
   exact ⟨ns, d, hq, hs⟩
 have hX := trivial
 refine sat_ex [.tmp 2] 1 21 Tryz.call85 Tryz.func85 Tryz.ntmps85 rfl rfl rfl rfl rfl ?_
 refine zI [0] ?_
 refine zS [0] ?_
 intro ρ hL
 refine zA ?_
 intro K hK
 refine hK _ _ ⟨_, _, (Wk.norm [1] (RefE.refl.upd (t := 3) (by simp only [go_sem, simprocAttr]; first | done | rfl) (Ref.esl 1 ⟨Nat.le_refl _, Nat.lt_succ_self _⟩))), awl_live' [0, 3] fun ρ hM => ?_⟩
 try simp only [go_sem, simprocAttr, hL, hX] at hM
 clear hK K hL
 try simp only [go_sem, simprocAttr]
 revert ρ hM
 obtain ⟨n0, hn0, e0⟩ : ∃ n0 : List Int, n0.length = 0 ∧ ints n0 = [] := ⟨[], rfl, rfl⟩
 intro ρ hL
 rw [show (⟨1, [], true, false⟩ : Blk) = ⟨1, ints n0, true, false⟩ by rw [e0]]
 revert ρ hL
 refine zS [0, 3, 4] ?_
 intro ρ hL
 have e1 := hL
 refine awl_loopH (fun H0 n σ G => ∃ (ns : List Int) (c : Cu) (i : Nat), n = 25 - i ∧ (i ≤ 25) ∧ (ns.length ≤ i) ∧ (liveE [0] σ ρ ∧ σ 3 = .slice 1 0 ns.length 0 ∧ σ 4 = .int .i64 (i : Int)) ∧ G = [⟨3, c.cells, true, false⟩, ⟨1, ints ns, true, false⟩]) (fun H0 σ G => ∃ (ns : List Int) (c : Cu), (ns.length ≤ 25) ∧ (σ 3 = .slice 1 0 ns.length 0) ∧ G = [⟨3, c.cells, true, false⟩, ⟨1, ints ns, true, false⟩]) ((fun (ns : List Int) (c : Cu) (i : Nat) => 25 - i) n0  c  0) ?init1 (fun n ρ G hI => ?round1) (fun ρ G hJ => ?after1)
 case init1 => exact ⟨n0, c, 0, rfl, (Nat.zero_le _), (by omega), ⟨liveE_refl _ _, (by rw [hL.2.1, hn0]), (hL.2.2)⟩, rfl⟩
 case round1 =>
  clear hL
  obtain ⟨ns, c, i, hn, i1_0, i1_1, hL, hG⟩ := hI
  subst hG
  try simp only [go_sem, simprocAttr, e1, hX] at hL
  obtain ⟨x0, c, hx0, hs1⟩ := sat_spec_l1Below c 25
  have hb0 := hx0.2.1 (by decide)
  refine zA ?_
  intro K hK
  refine zFJ [0] (hs1) ?_
  refine zE [0, 3, 4, 9] ?_
  clear hK K hL
  refine zC ?_ ?_
  · intro c1
    intro ρ hL
    refine awl_skip ?_
    refine awl_seq ?_
    refine awl_block fun R1 hw1 hR1 => ?_
    obtain ⟨x1, c, hx1, hs2⟩ := sat_spec_l1Below c 26
    have hb1 := hx1.2.1 (by decide)
    obtain ⟨x2, c, hx2, hs3⟩ := sat_spec_l1PickInt c [-1, -1, -1, 0, 5, x1] (by simp)
    refine zA ?_
    intro K hK
    refine zFJ [0] (hs2) ?_
    refine zFJ [0, 2] (hs3) ?_
    refine zE [0, 3, 4] ?_
    clear hK K hL
    intro ρ hL
    refine awl_nil ?_
    refine blk_normal (hR1 _ _ (.mk ?_))
    have wi : IntKind.i64.wrap ((i : Int) + 1) = ((i + 1 : Nat) : Int) := by rw [wrap64 (by omega)]; omega
    have hX0 := hX
    replace hX := And.intro wi hX
    revert ρ hL
    refine zS [0, 3, 4] ?_
    clear hX
    have hX := hX0
    clear hX0
    intro ρ hL
    refine awl_nil ?_
    refine loop_againW (Wk.keep [0, 4] rfl) _ ?meas ⟨(ns ++ [x2]), c, (i + 1), rfl, (by omega), (by rw [List.length_append]; simp; omega), ⟨(by simp only [go_sem, simprocAttr, hL, hX, e1]), (by simp only [go_sem, simprocAttr, hL, hX, e1]; rw [List.length_append]; rfl), (by simp only [go_sem, simprocAttr, hL, hX, e1]; first | done | rfl)⟩, (by simp only [go_sem, simprocAttr, hL, hX, e1]; rw [ints_snoc])⟩
    case meas => subst hn; omega
  · intro c1
    intro ρ hL
    refine awl_exit ?_
    refine loop_break ?_
    exact ⟨ns, c, (by omega), (hL.2.1), rfl⟩
 case after1 =>
  clear hL
  obtain ⟨ns, c, j1_0, hL, hG⟩ := hJ
  subst hG
  revert ρ hL
  refine zS [2] ?_
  refine zX [1] [0, 1] ?_
  refine ⟨ns, c, ?hq1, ?hv1, ?hh1⟩
  case hv1 => (try simp only [go_sem, simprocAttr, hX]); first | done | rfl
  case hh1 => (try simp only [go_sem, simprocAttr, hX]); first | done | rfl
  all_goals try clear hR1
  all_goals (assumption)
theorem sat_spec_DrawRun (bs : List UInt8) (hb : bs.length ≤ 1048576) : ∃ (l : List Ins) (s : Stt) (rs ws : List Word) (p o : Nat) (ns : List Int), (((0 < l.length ∧ l.length ≤ 24) ∧ cutW rs p s.regs ∧ cutW ws o s.mem.words ∧ smallS s) ∧ ns.length ≤ 601) ∧ Sat Tryz.prog 19 [.sl bs.length bs.length (bytesV bs)] [] (.tuple [.slice 0 0 l.length 0, .agg (s.ownC 1 2 3 p o), .slice 4 0 ns.length 0]) [⟨5, rows l, true, false⟩, ⟨6, rows rs, true, false⟩, ⟨6, rows ws, true, false⟩, ⟨1, rows s.mem.gone, true, false⟩, ⟨1, ints ns, true, false⟩] := by
 suffices hE : ∃ v h', (∃ (l : List Ins) (s : Stt) (rs ws : List Word) (p o : Nat) (ns : List Int), (((0 < l.length ∧ l.length ≤ 24) ∧ cutW rs p s.regs ∧ cutW ws o s.mem.words ∧ smallS s) ∧ ns.length ≤ 601) ∧ v = (.tuple [.slice 0 0 l.length 0, .agg (s.ownC 1 2 3 p o), .slice 4 0 ns.length 0]) ∧ h' = [⟨5, rows l, true, false⟩, ⟨6, rows rs, true, false⟩, ⟨6, rows ws, true, false⟩, ⟨1, rows s.mem.gone, true, false⟩, ⟨1, ints ns, true, false⟩]) ∧ Sat Tryz.prog 19 [.sl bs.length bs.length (bytesV bs)] [] v h' from by
   obtain ⟨_, _, ⟨l, s, rs, ws, p, o, ns, hq, rfl, rfl⟩, hs⟩ := hE
   exact ⟨l, s, rs, ws, p, o, ns, hq, hs⟩
 have hX := trivial
 refine sat_ex [.tmp 2, .cell 3 34, .tmp 4] 0 27 Tryz.call19 Tryz.func19 Tryz.ntmps19 rfl rfl rfl rfl rfl ?_
 refine zI [0] ?_
 refine zS [0, 3] ?_
 obtain ⟨c, hc, hs1⟩ := sat_spec_l1New bs hb
 intro ρ hL
 refine zA ?_
 intro K hK
 refine zFJ [] (hs1) ?_
 refine zE [3, 5] ?_
 clear hK K hL
 obtain ⟨l, s, rs, ws, p, o, c, hls, hs2⟩ := sat_spec_l9Draw c
 intro ρ hL
 refine zA ?_
 intro K hK
 refine zFJ [1] (hs2) ?_
 refine zE [3, 5, 6, 7] ?_
 clear hK K hL
 obtain ⟨ns, c, hns, hs3⟩ := sat_spec_l10DrawSweeps c
 intro ρ hL
 refine zA ?_
 intro K hK
 refine zFJ [1] (hs3) ?_
 refine zE [3, 5, 6, 7, 8] ?_
 clear hK K hL
 obtain ⟨q1, c, hq1, hs4⟩ := sat_spec_l1Once c 60
 intro ρ hL
 refine zA ?_
 intro K hK
 refine zFJ [1] (hs4) ?_
 refine zE [3, 5, 6, 7, 8, 19] ?_
 clear hK K hL
 refine zC ?_ ?_
 · intro c1
   obtain ⟨x1, c, hx1, hs5⟩ := sat_spec_l1Below c 2
   have hb1 := hx1.2.1 (by decide)
   have w6 : IntKind.i64.wrap (600 + x1) = 600 + x1 := wrap64 (by omega)
   have hp6 : (0 : Int) ≤ 600 + x1 := by omega
   have hq6 : (600 + x1).toNat ≤ 601 := by omega
   have hX0 := hX
   replace hX := And.intro w6 hX
   intro ρ hL
   refine zA ?_
   intro K hK
   refine zFJ [1] (hs5) ?_
   refine zE [3, 6, 7, 8] ?_
   clear hK K hL
   clear hX
   have hX := hX0
   clear hX0
   refine zD [0, 0, 0, 1, 11, 31] [2, 3, 4] ?_
   intro ρ hL
   refine awl_ret ?_
   refine retNE (v := .tuple [.slice 2 0 l.length 0, .agg (s.ownC 3 4 5 p o), .slice 8 0 (600 + x1).toNat (600 + x1).toNat]) [] [2, 3, 4, 5, 8] [2, 3, 4, 5, 8] rfl (by simp only [go_sem, simprocAttr, hL, hX]; exact rfl) (by first | rfl | (simp only [go_sem, simprocAttr, hL, hX]; first | done | rfl)) (Ref.tuple (RefL.cons (Ref.refl _) (RefL.cons (Ref.refl _) (RefL.cons (Ref.cap _ _ _ _ 0 (Nat.zero_le _)) (RefL.same []))))) rfl (by decide) rfl rfl rfl rfl ?_
   refine ⟨l, s, rs, ws, p, o, List.replicate (600 + x1).toNat 0, ?hq1, ?hv1, ?hh1⟩
   case hv1 => (try simp only [go_sem, simprocAttr, hX, List.length_replicate]); first | done | rfl
   case hh1 => (try simp only [go_sem, simprocAttr, hX, List.length_replicate]); first | done | rfl
   all_goals (exact ⟨hls, by rw [List.length_replicate]; exact hq6⟩)
 · intro c1
   intro ρ hL
   refine awl_skip ?_
   revert ρ hL
   refine zD [0, 0, 0, 1, 11, 31] [2, 3, 4] ?_
   refine zX [2, 3, 4, 5, 7] [2, 3, 4, 5, 7] ?_
   refine ⟨l, s, rs, ws, p, o, ns, ?hq2, ?hv2, ?hh2⟩
   case hv2 => (try simp only [go_sem, simprocAttr, hX]); first | done | rfl
   case hh2 => (try simp only [go_sem, simprocAttr, hX]); first | done | rfl
   all_goals (exact ⟨hls, by omega⟩)
theorem sat_spec_DrawKeys (bs : List UInt8) (hb : bs.length ≤ 1048576) : ∃ (s : Stt) (rs ws : List Word) (p o : Nat), (cutW rs p s.regs ∧ cutW ws o s.mem.words ∧ smallS s) ∧ Sat Tryz.prog 22 [.sl bs.length bs.length (bytesV bs)] [] (.agg (s.ownC 0 1 2 p o)) [⟨6, rows rs, true, false⟩, ⟨6, rows ws, true, false⟩, ⟨1, rows s.mem.gone, true, false⟩] := by
 suffices hE : ∃ v h', (∃ (s : Stt) (rs ws : List Word) (p o : Nat), (cutW rs p s.regs ∧ cutW ws o s.mem.words ∧ smallS s) ∧ v = (.agg (s.ownC 0 1 2 p o)) ∧ h' = [⟨6, rows rs, true, false⟩, ⟨6, rows ws, true, false⟩, ⟨1, rows s.mem.gone, true, false⟩]) ∧ Sat Tryz.prog 22 [.sl bs.length bs.length (bytesV bs)] [] v h' from by
   obtain ⟨_, _, ⟨s, rs, ws, p, o, hq, rfl, rfl⟩, hs⟩ := hE
   exact ⟨s, rs, ws, p, o, hq, hs⟩
 have hX := trivial
 refine sat_ex [.cell 2 34] 0 12 Tryz.call22 Tryz.func22 Tryz.ntmps22 rfl rfl rfl rfl rfl ?_
 refine zI [0] ?_
 refine zS [0, 2] ?_
 obtain ⟨c, hc, hs1⟩ := sat_spec_l1New bs hb
 obtain ⟨l, s, rs, ws, p, o, c, hls, hs2⟩ := sat_spec_l9Draw c
 intro ρ hL
 refine zA ?_
 intro K hK
 refine zFJ [] (hs1) ?_
 refine zFJ [1] (hs2) ?_
 refine zE [2, 4] ?_
 clear hK K hL
 refine zS [2] ?_
 refine zX [3, 4, 5] [3, 4, 5] ?_
 refine ⟨s, rs, ws, p, o, ?hq1, ?hv1, ?hh1⟩
 case hv1 => (try simp only [go_sem, simprocAttr, hX]); first | done | rfl
 case hh1 => (try simp only [go_sem, simprocAttr, hX]); first | done | rfl
 all_goals (exact hls.2)
section
attribute [local go_sem] word_deq
theorem sat_laws_sameWords (xs : List Word) (ys : List Word) (hb : xs.length ≤ 1099511627776) : Sat Tryz.prog 23 [.sl xs.length xs.length (rows xs), .sl ys.length ys.length (rows ys)] [] (.bool (decide (xs = ys))) [] := by
 have hX := trivial
 refine sat_mk [.tmp 4] 0 26 Tryz.call23 Tryz.func23 Tryz.ntmps23 rfl rfl rfl rfl rfl ?_
 refine zI [0, 1] ?_
 refine zS [0, 1] ?_
 refine zS [0, 1, 10] ?_
 refine zC ?_ ?_
 · intro c1
   refine zS [4] ?_
   refine zR ?_
   try simp only [go_sem, simprocAttr]
   all_goals (rw [decide_eq_false]; rintro rfl; exact c1 rfl)
 · intro c1
   intro ρ hL
   refine awl_skip ?_
   revert ρ hL
   refine zS [0, 1, 5] ?_
   intro ρ hL
   have e1 := hL
   refine awl_loopH (fun H0 n σ G => ∃ (i : Nat), n = xs.length - i ∧ (i ≤ xs.length) ∧ (xs.take i = ys.take i) ∧ (liveE [0, 1] σ ρ ∧ σ 5 = .int .i64 (i : Int)) ∧ G = H0) (fun H0 σ G => (xs = ys) ∧ (True) ∧ G = H0) ((fun (i : Nat) => xs.length - i) 0) ?init1 (fun n ρ G hI => ?round1) (fun ρ G hJ => ?after1)
   case init1 => exact ⟨0, rfl, (Nat.zero_le _), (by simp), ⟨liveE_refl _ _, (hL.2.2)⟩, rfl⟩
   case round1 =>
    clear hL
    obtain ⟨i, hn, i1_0, i1_1, hL, hG⟩ := hI
    subst hG
    try simp only [go_sem, simprocAttr, e1, hX] at hL
    revert ρ hL
    refine zS [0, 1, 5, 14] ?_
    refine zC ?_ ?_
    · intro c2
      have hi1 : i < xs.length := by omega
      replace hX := And.intro hi1 hX
      intro ρ hL
      refine awl_skip ?_
      refine awl_seq ?_
      refine awl_block fun R1 hw1 hR1 => ?_
      have hj : i < ys.length := by omega
      have hX0 := hX
      replace hX := And.intro hj hX
      revert ρ hL
      refine zD [0, 0, 3, 7, 0, 0, 48, 112, 255] [0, 1, 5, 25] ?_
      clear hX
      have hX := hX0
      clear hX0
      refine zC ?_ ?_
      · intro c3
        refine zS [4] ?_
        refine zR ?_
        try simp only [go_sem, simprocAttr]
        all_goals try clear hR1
        all_goals (rw [decide_eq_false]; rintro rfl; first | exact c3 rfl | (simp at c3; done))
      · intro c3
        intro ρ hL
        refine awl_skip ?_
        refine awl_nil ?_
        refine blk_normal (hR1 _ _ (.mk ?_))
        have w1 : IntKind.i64.wrap ((i : Int) + 1) = ((i + 1 : Nat) : Int) := by rw [wrap64 (by omega)]; omega
        replace hX := And.intro w1 hX
        revert ρ hL
        refine zS [0, 1, 5] ?_
        intro ρ hL
        refine awl_nil ?_
        refine loop_again _ ?meas ⟨i + 1, rfl, (by omega), (by exact take_succ_eq (d := noWord) hi1 hj i1_1 (by simpa using c3)), ⟨(by simp only [go_sem, simprocAttr, hL, hX, e1]), (hL.2.2)⟩, rfl⟩
        case meas => subst hn; omega
    · intro c2
      intro ρ hL
      refine awl_exit ?_
      refine loop_break ?_
      exact ⟨(by exact eq_of_take (i := i) (by omega) (by omega) i1_1), trivial, rfl⟩
   case after1 =>
    clear hL
    obtain ⟨j1_0, hL, hG⟩ := hJ
    subst hG
    refine zA ?_
    intro K hK
    refine zE [4] ?_
    clear hK K hL
    refine zR ?_
    try simp only [go_sem, simprocAttr]
    all_goals try clear hR1
    all_goals (rw [decide_eq_true j1_0])
end
theorem sat_laws_at (bs : List UInt8) (hb : bs.length ≤ 1048576) : ∃ (x : Int), (0 ≤ x) ∧ Sat Tryz.prog 26 [.sl bs.length bs.length (bytesV bs), .int .i64 1] [] (.int .i64 x) [] := by
 suffices hE : ∃ v h', (∃ (x : Int), (0 ≤ x) ∧ v = (.int .i64 x) ∧ h' = []) ∧ Sat Tryz.prog 26 [.sl bs.length bs.length (bytesV bs), .int .i64 1] [] v h' from by
   obtain ⟨_, _, ⟨x, hq, rfl, rfl⟩, hs⟩ := hE
   exact ⟨x, hq, hs⟩
 have hX := trivial
 refine sat_ex [.tmp 4] 0 20 Tryz.call26 Tryz.func26 Tryz.ntmps26 rfl rfl rfl rfl rfl ?_
 refine zI [0, 1] ?_
 refine zS [0, 1] ?_
 refine zS [0, 1, 8] ?_
 refine zC ?_ ?_
 · intro c1
   have hn : 1 < bs.length := by omega
   have hX0 := hX
   replace hX := And.intro hn hX
   refine zS [4] ?_
   clear hX
   have hX := hX0
   clear hX0
   refine zX [] [] ?_
   refine ⟨?y1_0, ?hq1, ?hv1, ?hh1⟩
   case hv1 => (try simp only [go_sem, simprocAttr, hX]); first | done | rfl
   case hh1 => (try simp only [go_sem, simprocAttr, hX]); first | done | rfl
   all_goals (rw [wrap64 (by have := (bs.getD 1 0).toNat_lt; omega)]; omega)
 · intro c1
   intro ρ hL
   refine awl_skip ?_
   have w7 : IntKind.i64.wrap (7 + (bs.length : Int)) = 7 + (bs.length : Int) := wrap64 (by omega)
   have w8 : IntKind.i64.wrap 7 = 7 := by decide
   have hX0 := hX
   replace hX := And.intro w7 (And.intro w8 hX)
   revert ρ hL
   refine zS [4] ?_
   clear hX
   have hX := hX0
   clear hX0
   refine zX [] [] ?_
   refine ⟨?y2_0, ?hq2, ?hv2, ?hh2⟩
   case hv2 => (try simp only [go_sem, simprocAttr, hX]); first | done | rfl
   case hh2 => (try simp only [go_sem, simprocAttr, hX]); first | done | rfl
   all_goals (exact Int.tmod_nonneg _ (by omega))
theorem run_small {l : List Ins} {s : Stt} {ns : List Int} : smallS (run l s ns) := by
  by_cases h : sttOk s = true
  · exact ok_small (run_ok h)
  · rw [run_no (by simpa using h)]; exact ⟨Nat.zero_le _, Nat.zero_le _, Nat.zero_le _⟩
theorem sat_spec_DrawClosed (bs : List UInt8) (hb : bs.length ≤ 1048576) : ∃ (s t : Stt) (rs ws rt wt : List Word) (p o q r : Nat), ((cutW rs p s.regs ∧ cutW ws o s.mem.words ∧ smallS s) ∧ cutW rt q t.regs ∧ cutW wt r t.mem.words ∧ smallS t) ∧ Sat Tryz.prog 27 [.sl bs.length bs.length (bytesV bs)] [] (.tuple [.agg (s.ownC 0 1 2 p o), .agg (t.ownC 3 4 5 q r)]) [⟨6, rows rs, true, false⟩, ⟨6, rows ws, true, false⟩, ⟨1, rows s.mem.gone, true, false⟩, ⟨6, rows rt, true, false⟩, ⟨6, rows wt, true, false⟩, ⟨1, rows t.mem.gone, true, false⟩] := by
 suffices hE : ∃ v h', (∃ (s t : Stt) (rs ws rt wt : List Word) (p o q r : Nat), ((cutW rs p s.regs ∧ cutW ws o s.mem.words ∧ smallS s) ∧ cutW rt q t.regs ∧ cutW wt r t.mem.words ∧ smallS t) ∧ v = (.tuple [.agg (s.ownC 0 1 2 p o), .agg (t.ownC 3 4 5 q r)]) ∧ h' = [⟨6, rows rs, true, false⟩, ⟨6, rows ws, true, false⟩, ⟨1, rows s.mem.gone, true, false⟩, ⟨6, rows rt, true, false⟩, ⟨6, rows wt, true, false⟩, ⟨1, rows t.mem.gone, true, false⟩]) ∧ Sat Tryz.prog 27 [.sl bs.length bs.length (bytesV bs)] [] v h' from by
   obtain ⟨_, _, ⟨s, t, rs, ws, rt, wt, p, o, q, r, hq, rfl, rfl⟩, hs⟩ := hE
   exact ⟨s, t, rs, ws, rt, wt, p, o, q, r, hq, hs⟩
 have hX := trivial
 refine sat_ex [.cell 2 34, .cell 3 34] 0 29 Tryz.call27 Tryz.func27 Tryz.ntmps27 rfl rfl rfl rfl rfl ?_
 refine zI [0] ?_
 refine zS [0, 2, 3] ?_
 obtain ⟨c, hc, hs1⟩ := sat_spec_l1New bs hb
 intro ρ hL
 refine zA ?_
 intro K hK
 refine zFJ [] (hs1) ?_
 refine zE [2, 3, 4] ?_
 clear hK K hL
 obtain ⟨l, s, rs, ws, p, o, c, hls, hs2⟩ := sat_spec_l9Draw c
 obtain ⟨hl, hcr, hcw, hsm⟩ := hls
 have hf := small_fit hsm
 have hl9 : l.length ≤ 1048576 := by omega
 have hq1 := hcr.1
 have hq2 := hcw.1
 replace hX := And.intro hq1 (And.intro hq2 hX)
 intro ρ hL
 refine zA ?_
 intro K hK
 refine zFJ [2] (hs2) ?_
 refine zE [2, 3, 4, 5, 6] ?_
 clear hK K hL
 obtain ⟨ns, c, hns, hs3⟩ := sat_spec_l10DrawSweeps c
 have hn9 : ns.length ≤ 1048576 := by omega
 intro ρ hL
 refine zAD [0, 0, 0, 4, 15, 0, 63] ?_
 intro K hK
 refine zFDJ [0, 0, 0, 4, 15, 0, 63] [2] (hs3) ?_
 refine zFD [0, 0, 0, 4, 15, 0, 63] (sat_spec_Run l s ns hl9 hf hn9) ?_
 refine zE [2, 3, 4, 6, 7] ?_
 clear hK K hL
 obtain ⟨q1, c, hq1, hs4⟩ := sat_spec_l1Once c 3
 intro ρ hL
 refine zA ?_
 intro K hK
 refine zFJ [2] (hs4) ?_
 refine zE [2, 3, 4, 6, 7, 21] ?_
 clear hK K hL
 refine zC ?_ ?_
 · intro c1
   obtain ⟨l2, t, rt, wt, q, r, c, hlt, hs5⟩ := sat_spec_l9Draw c
   intro ρ hL
   refine zA ?_
   intro K hK
   refine zFJ [2] (hs5) ?_
   refine zE [2, 3, 6, 7] ?_
   clear hK K hL
   refine zD [0, 0, 1, 7] [2, 3] ?_
   refine zX [4, 5, 6, 14, 15, 16] [4, 5, 6, 14, 15, 16] ?_
   refine ⟨s, t, rs, ws, rt, wt, p, o, q, r, ?hq1, ?hv1, ?hh1⟩
   case hv1 => (try simp only [go_sem, simprocAttr, hX]); first | done | rfl
   case hh1 => (try simp only [go_sem, simprocAttr, hX]); first | done | rfl
   all_goals (exact ⟨⟨hcr, hcw, hsm⟩, hlt.2⟩)
 · intro c1
   intro ρ hL
   refine awl_skip ?_
   revert ρ hL
   refine zD [0, 0, 1, 7] [2, 3] ?_
   refine zX [4, 5, 6, 9, 10, 11] [4, 5, 6, 9, 10, 11] ?_
   refine ⟨s, run l s ns, rs, ws, (run l s ns).regs, (run l s ns).mem.words, p, o, 0, 0, ?hq2, ?hv2, ?hh2⟩
   case hv2 => (try simp only [go_sem, simprocAttr, hX]); first | done | rfl
   case hh2 => (try simp only [go_sem, simprocAttr, hX]); first | done | rfl
   all_goals (exact ⟨⟨hcr, hcw, hsm⟩, cutW_all, cutW_all, run_small⟩)
end Go.Proofs.YteojcehneipgdaaGreat.AM
