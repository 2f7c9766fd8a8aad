/- What the laws on what is drawn look at. Are two rows of numbers the same. What is drawn: guesses. What is drawn: states that need not be right. What is drawn: picks and cores. What is drawn: cores that need not be right. No conditions but those each theorem bears. -/
import Derived.Test.YtdifphcihhbjlaaGreatFa
import Derived.Test.YtdifphcihhbjlaaGreatM7
import Derived.Test.YtdifphcihhbjlaaGreatCb1
import Derived.Test.YtdifphcihhbjlaaGreatCb7
import Derived.Test.YtdifphcihhbjlaaGreatCb6
import Derived.Test.YtdifphcihhbjlaaGreatCb5
set_option linter.unusedSimpArgs false
set_option linter.unusedVariables false
namespace Go.Proofs.YtdifphcihhbjlaaGreat.AM
open Go
set_option maxHeartbeats 8000000
set_option maxRecDepth 100000

theorem sat_laws_big (bs : List UInt8)  : Sat Tryz.prog 13 [.sl bs.length bs.length (bytesV bs)] [] (.bool (decide ((bs.length : Int) > 1048576))) [] := by
 have hX := trivial
 refine sat_mk [.tmp 2] 0 6 Tryz.call13 Tryz.func13 Tryz.ntmps13 rfl rfl rfl rfl rfl ?_
 refine zI [0] ?_
 refine zS [0] ?_
 refine zS [2] ?_
 refine zR ?_
 try simp only [go_sem, simprocAttr]
 all_goals (first | done | rfl | (simp; done) | (simp [inR]; done) | (simp_all [inR]; done) | (simp [inR]; grind))
theorem sat_laws_sameInts (xs : List Int) (ys : List Int) (hb : xs.length ≤ 1099511627776) : Sat Tryz.prog 34 [.sl xs.length xs.length (ints xs), .sl ys.length ys.length (ints ys)] [] (.bool (decide (xs = ys))) [] := by
 have hX := trivial
 refine sat_mk [.tmp 4] 0 26 Tryz.call34 Tryz.func34 Tryz.ntmps34 rfl rfl rfl rfl rfl ?_
 refine zI [0, 1] ?_
 refine zS [0, 1] ?_
 refine zS [0, 1, 10] ?_
 refine zC ?_ ?_
 · intro c1
   refine zS [4] ?_
   refine zR ?_
   try simp only [go_sem, simprocAttr]
   all_goals (rw [decide_eq_false]; rintro rfl; exact c1 rfl)
 · intro c1
   intro ρ hL
   refine awl_skip ?_
   revert ρ hL
   refine zS [0, 1, 5] ?_
   intro ρ hL
   have e1 := hL
   refine awl_loopH (fun H0 n σ G => ∃ (i : Nat), n = xs.length - i ∧ (i ≤ xs.length) ∧ (xs.take i = ys.take i) ∧ (liveE [0, 1] σ ρ ∧ σ 5 = .int .i64 (i : Int)) ∧ G = H0) (fun H0 σ G => (xs = ys) ∧ (True) ∧ G = H0) ((fun (i : Nat) => xs.length - i) 0) ?init1 (fun n ρ G hI => ?round1) (fun ρ G hJ => ?after1)
   case init1 => exact ⟨0, rfl, (Nat.zero_le _), (by simp), ⟨liveE_refl _ _, (hL.2.2)⟩, rfl⟩
   case round1 =>
    clear hL
    obtain ⟨i, hn, i1_0, i1_1, hL, hG⟩ := hI
    subst hG
    try simp only [go_sem, simprocAttr, e1, hX] at hL
    revert ρ hL
    refine zS [0, 1, 5, 14] ?_
    refine zC ?_ ?_
    · intro c2
      have hi1 : i < xs.length := by omega
      replace hX := And.intro hi1 hX
      intro ρ hL
      refine awl_skip ?_
      refine awl_seq ?_
      refine awl_block fun R1 hw1 hR1 => ?_
      have hj : i < ys.length := by omega
      have hX0 := hX
      replace hX := And.intro hj hX
      revert ρ hL
      refine zD [0, 0, 3, 7, 0, 0, 48, 112, 255] [0, 1, 5, 25] ?_
      clear hX
      have hX := hX0
      clear hX0
      refine zC ?_ ?_
      · intro c3
        refine zS [4] ?_
        refine zR ?_
        try simp only [go_sem, simprocAttr]
        all_goals try clear hR1
        all_goals (rw [decide_eq_false]; rintro rfl; first | exact c3 rfl | (simp at c3; done))
      · intro c3
        intro ρ hL
        refine awl_skip ?_
        refine awl_nil ?_
        refine blk_normal (hR1 _ _ (.mk ?_))
        have w1 : IntKind.i64.wrap ((i : Int) + 1) = ((i + 1 : Nat) : Int) := by rw [wrap64 (by omega)]; omega
        replace hX := And.intro w1 hX
        revert ρ hL
        refine zS [0, 1, 5] ?_
        intro ρ hL
        refine awl_nil ?_
        refine loop_again _ ?meas ⟨i + 1, rfl, (by omega), (by exact take_succ_eq (d := 0) hi1 hj i1_1 (by simpa using c3)), ⟨(by simp only [go_sem, simprocAttr, hL, hX, e1]), (hL.2.2)⟩, rfl⟩
        case meas => subst hn; omega
    · intro c2
      intro ρ hL
      refine awl_exit ?_
      refine loop_break ?_
      exact ⟨(by exact eq_of_take (i := i) (by omega) (by omega) i1_1), trivial, rfl⟩
   case after1 =>
    clear hL
    obtain ⟨j1_0, hL, hG⟩ := hJ
    subst hG
    refine zA ?_
    intro K hK
    refine zE [4] ?_
    clear hK K hL
    refine zR ?_
    try simp only [go_sem, simprocAttr]
    all_goals try clear hR1
    all_goals (rw [decide_eq_true j1_0])
theorem sat_spec_l11Draw (c : Cu)  : ∃ (ys xs : List Int) (o : Nat) (d : Cu), (((ints ys).drop o).take xs.length = ints xs ∧ o + xs.length ≤ ys.length ∧ xs.length ≤ 48) ∧ Sat Tryz.prog 166 [.ptr 0 0] [⟨3, c.cells, true, false⟩] (.slice 1 o xs.length 0) [⟨3, d.cells, true, false⟩, ⟨1, ints ys, true, false⟩] := by
 suffices hE : ∃ zv zh, (∃ (ys xs : List Int) (o : Nat) (d : Cu), (((ints ys).drop o).take xs.length = ints xs ∧ o + xs.length ≤ ys.length ∧ xs.length ≤ 48) ∧ zv = (.slice 1 o xs.length 0) ∧ zh = [⟨3, d.cells, true, false⟩, ⟨1, ints ys, true, false⟩]) ∧ Sat Tryz.prog 166 [.ptr 0 0] [⟨3, c.cells, true, false⟩] zv zh from by
   obtain ⟨_, _, ⟨ys, xs, o, d, hq, rfl, rfl⟩, hs⟩ := hE
   exact ⟨ys, xs, o, d, hq, hs⟩
 have hX := trivial
 refine sat_ex [.tmp 2] 1 32 Tryz.call166 Tryz.func166 Tryz.ntmps166 rfl rfl rfl rfl rfl ?_
 refine zI [0] ?_
 refine zS [0] ?_
 refine zSF [0, 3] (sat_spec_GuessNew) ?_
 obtain ⟨x00, h48_, hx00⟩ : ∃ z : List Int, z.length = 48 ∧ guessNew = z := ⟨guessNew, gl48, rfl⟩
 intro ρ hL
 rw [hx00]
 revert ρ hL
 refine zS [0, 3, 4] ?_
 intro ρ hL
 have e1 := hL
 refine awl_loopH (fun H0 n σ G => ∃ (xs : List Int) (c : Cu) (i : Nat), n = 6 - i ∧ (i ≤ 6) ∧ (xs.length = 48) ∧ (liveE [0, 3] σ ρ ∧ σ 4 = .int .i64 (i : Int)) ∧ G = [⟨3, c.cells, true, false⟩, ⟨1, ints xs, true, false⟩]) (fun H0 σ G => ∃ (xs : List Int) (c : Cu), (xs.length = 48) ∧ (liveE [0, 3] σ ρ) ∧ G = [⟨3, c.cells, true, false⟩, ⟨1, ints xs, true, false⟩]) ((fun (xs : List Int) (c : Cu) (i : Nat) => 6 - i) x00  c  0) ?init1 (fun n ρ G hI => ?round1) (fun ρ G hJ => ?after1)
 case init1 => exact ⟨x00, c, 0, rfl, (Nat.zero_le _), (h48_), ⟨liveE_refl _ _, (hL.2.2)⟩, rfl⟩
 case round1 =>
  clear hL
  obtain ⟨xs, c, i, hn, i1_0, i1_1, hL, hG⟩ := hI
  subst hG
  try simp only [go_sem, simprocAttr, e1, hX] at hL
  obtain ⟨x0, c, hx0, hs1⟩ := sat_spec_l1Below c 6
  have hb0 := hx0.2.1 (by decide)
  refine zA ?_
  intro K hK
  refine zFJ [0] (hs1) ?_
  refine zE [0, 3, 4, 9] ?_
  clear hK K hL
  refine zC ?_ ?_
  · intro c1
    intro ρ hL
    refine awl_skip ?_
    refine awl_seq ?_
    refine awl_block fun R1 hw1 hR1 => ?_
    obtain ⟨x1, c, hx1, hs2⟩ := sat_spec_l1Below c 48
    have hb1 := hx1.2.1 (by decide)
    obtain ⟨x2, c, hx2, hs3⟩ := sat_spec_l1Below c 20
    have hb2 := hx2.2.1 (by decide)
    have hn9 : x1.toNat < xs.length := by omega
    have hX0 := hX
    replace hX := And.intro hn9 hX
    refine zA ?_
    intro K hK
    refine zFJ [0] (hs2) ?_
    refine zFJ [0] (hs3) ?_
    refine zE [0, 3, 4] ?_
    clear hK K hL
    clear hX
    have hX := hX0
    clear hX0
    intro ρ hL
    refine awl_nil ?_
    refine blk_normal (hR1 _ _ (.mk ?_))
    have wi : IntKind.i64.wrap ((i : Int) + 1) = ((i + 1 : Nat) : Int) := by rw [wrap64 (by omega)]; omega
    have hX0 := hX
    replace hX := And.intro wi hX
    revert ρ hL
    refine zS [0, 3, 4] ?_
    clear hX
    have hX := hX0
    clear hX0
    intro ρ hL
    refine awl_nil ?_
    refine loop_again _ ?meas ⟨(xs.set x1.toNat x2), c, (i + 1), rfl, (by omega), (by rw [List.length_set]; exact i1_1), ⟨(by simp only [go_sem, simprocAttr, hL, hX, e1]), (hL.2.2)⟩, rfl⟩
    case meas => subst hn; omega
  · intro c1
    intro ρ hL
    refine awl_exit ?_
    refine loop_break ?_
    exact ⟨xs, c, (by exact i1_1), (by simp only [go_sem, simprocAttr, hL, hX, e1]), rfl⟩
 case after1 =>
  clear hL
  obtain ⟨xs, c, j1_0, hL, hG⟩ := hJ
  subst hG
  try simp only [go_sem, simprocAttr, e1, hX] at hL
  obtain ⟨x3, c, hx3, hs4⟩ := sat_spec_l1Below c 12
  have hb3 := hx3.2.1 (by decide)
  refine zA ?_
  intro K hK
  refine zFJ [0] (hs4) ?_
  refine zE [0, 3, 19] ?_
  clear hK K hL
  intro ρ hL
  refine awl_block fun R2 hw2 hR2 => ?_
  revert ρ hL
  refine zS [0, 3, 19, 20] ?_
  refine zC ?_ ?_
  · intro c2
    have hl8 : xs.length = 48 := j1_0
    refine zS [3] ?_
    intro ρ hL
    refine awl_nil ?_
    refine blk_normal (hR2 _ _ (.mk ?_))
    revert ρ hL
    refine zS [2] ?_
    intro ρ hL
    refine awl_ret ?_
    refine retNE (v := .slice 1 1 47 47) [] [1] [0, 1] rfl (by simp only [go_sem, simprocAttr, hL, hX]; exact rfl) (by first | rfl | (simp only [go_sem, simprocAttr, hL, hX]; first | done | rfl)) (Ref.cap _ _ _ _ 0 (Nat.zero_le _)) rfl (by decide) rfl rfl rfl rfl ?_
    refine ⟨xs, xs.drop 1, 1, c, ?hq1, ?hv1, ?hh1⟩
    case hv1 => (try simp only [go_sem, simprocAttr, hX, List.length_drop,  j1_0]); first | done | rfl
    case hh1 => (try simp only [go_sem, simprocAttr, hX, List.length_drop,  j1_0]); first | done | rfl
    all_goals try clear hR1
    all_goals try clear hR2
    all_goals (exact ⟨by rw [ints_dropN, ints_take], by rw [List.length_drop]; omega, by rw [List.length_drop]; omega⟩)
  · intro c2
    refine zS [0, 3, 24] ?_
    refine zC ?_ ?_
    · intro c3
      obtain ⟨x4, c, hx4, hs5⟩ := sat_spec_l1PickInt c [-2, 65536] (by simp)
      have hn9 : 3 < xs.length := by omega
      have hX0 := hX
      replace hX := And.intro hn9 hX
      intro ρ hL
      refine zA ?_
      intro K hK
      refine zFJ [0, 2] (hs5) ?_
      refine zE [3] ?_
      clear hK K hL
      clear hX
      have hX := hX0
      clear hX0
      intro ρ hL
      refine awl_nil ?_
      refine blk_normal (hR2 _ _ (.mk ?_))
      revert ρ hL
      refine zS [2] ?_
      refine zX [1] [0, 1] ?_
      refine ⟨xs.set 3 x4, xs.set 3 x4, 0, c, ?hq2, ?hv2, ?hh2⟩
      case hv2 => (try simp only [go_sem, simprocAttr, hX, List.length_set,  j1_0,  put_ints hn9]); first | done | rfl
      case hh2 => (try simp only [go_sem, simprocAttr, hX, List.length_set,  j1_0,  put_ints hn9]); first | done | rfl
      all_goals try clear hR1
      all_goals try clear hR2
      all_goals (exact ⟨by rw [List.drop_zero, ints_take], by omega, by rw [List.length_set]; omega⟩)
    · intro c3
      intro ρ hL
      refine awl_skip ?_
      refine awl_nil ?_
      refine blk_normal (hR2 _ _ (.mk ?_))
      revert ρ hL
      refine zS [2] ?_
      refine zX [1] [0, 1] ?_
      refine ⟨xs, xs, 0, c, ?hq3, ?hv3, ?hh3⟩
      case hv3 => (try simp only [go_sem, simprocAttr, hX, j1_0]); first | done | rfl
      case hh3 => (try simp only [go_sem, simprocAttr, hX, j1_0]); first | done | rfl
      all_goals try clear hR1
      all_goals try clear hR2
      all_goals (exact ⟨by rw [List.drop_zero, ints_take], by omega, by omega⟩)
theorem sat_spec_l8Draw (c : Cu)  : ∃ (m : Mem) (ws : List Word) (o : Nat) (d : Cu), (cutW ws o m.words ∧ m.words.length ≤ 24 ∧ m.gone.length ≤ 24) ∧ Sat Tryz.prog 176 [.ptr 0 0] [⟨3, c.cells, true, false⟩] (.agg [.slice 1 o m.words.length 0, .slice 2 0 m.gone.length 0]) [⟨3, d.cells, true, false⟩, ⟨6, rows ws, true, false⟩, ⟨1, rows m.gone, true, false⟩] := by
 suffices hE : ∃ zv zh, (∃ (m : Mem) (ws : List Word) (o : Nat) (d : Cu), (cutW ws o m.words ∧ m.words.length ≤ 24 ∧ m.gone.length ≤ 24) ∧ zv = (.agg [.slice 1 o m.words.length 0, .slice 2 0 m.gone.length 0]) ∧ zh = [⟨3, d.cells, true, false⟩, ⟨6, rows ws, true, false⟩, ⟨1, rows m.gone, true, false⟩]) ∧ Sat Tryz.prog 176 [.ptr 0 0] [⟨3, c.cells, true, false⟩] zv zh from by
   obtain ⟨_, _, ⟨m, ws, o, d, hq, rfl, rfl⟩, hs⟩ := hE
   exact ⟨m, ws, o, d, hq, hs⟩
 have hX := trivial
 refine sat_ex [.cell 2 31] 1 27 Tryz.call176 Tryz.func176 Tryz.ntmps176 rfl rfl rfl rfl rfl ?_
 refine zI [0] ?_
 refine zS [0, 2] ?_
 obtain ⟨m, c, hm, hs1⟩ := sat_spec_l8DrawRight c
 have hm24 := (memOk_iff.1 hm).1
 have hg24 := (memOk_iff.1 hm).2.1
 intro ρ hL
 refine zA ?_
 intro K hK
 refine zFJ [0] (hs1) ?_
 refine zE [0, 2, 3] ?_
 clear hK K hL
 obtain ⟨x0, c, hx0, hs2⟩ := sat_spec_l1Below c 15
 have hb0 := hx0.2.1 (by decide)
 intro ρ hL
 refine zA ?_
 intro K hK
 refine zFJ [0] (hs2) ?_
 refine zE [0, 2, 3, 7] ?_
 clear hK K hL
 intro ρ hL
 refine awl_block fun R1 hw1 hR1 => ?_
 revert ρ hL
 refine zS [0, 2, 3, 7, 8] ?_
 refine zC ?_ ?_
 · intro c1
   have hX0 := hX
   replace hX := And.intro hm24 hX
   refine zS [2, 3] ?_
   clear hX
   have hX := hX0
   clear hX0
   intro ρ hL
   refine awl_nil ?_
   refine blk_normal (hR1 _ _ (.mk ?_))
   revert ρ hL
   refine zS [2] ?_
   intro ρ hL
   refine awl_ret ?_
   refine retNE (v := .agg [.slice 2 6 23 23, .slice 3 0 m.gone.length 0]) [] [2, 3] [0, 2, 3] rfl (by simp only [go_sem, simprocAttr, hL, hX]; exact rfl) (by first | rfl | (simp only [go_sem, simprocAttr, hL, hX]; first | done | rfl)) (Ref.agg (RefL.cons (Ref.cap _ _ _ _ 0 (Nat.zero_le _)) (RefL.cons (Ref.refl _) (RefL.same [])))) rfl (by decide) rfl rfl rfl rfl ?_
   refine ⟨⟨m.words.drop 1, m.gone⟩, m.words, 6, c, ?hq1, ?hv1, ?hh1⟩
   case hv1 => (try simp only [go_sem, simprocAttr, hX, List.length_drop,  hm24]); first | done | rfl
   case hh1 => (try simp only [go_sem, simprocAttr, hX, List.length_drop,  hm24]); first | done | rfl
   all_goals try clear hR1
   all_goals (exact ⟨cutW_one (by omega), by rw [List.length_drop]; omega, by show m.gone.length ≤ 24; omega⟩)
 · intro c1
   refine zS [0, 2, 3, 7, 14] ?_
   refine zC ?_ ?_
   · intro c2
     obtain ⟨x1, c, hx1, hs3⟩ := sat_spec_l1Below c 24
     have hb1 := hx1.2.1 (by decide)
     obtain ⟨w, c, hw, hs4⟩ := sat_spec_l3Draw c
     have hn9 : x1.toNat < m.words.length := by omega
     have hX0 := hX
     replace hX := And.intro hn9 hX
     intro ρ hL
     refine zAD [0, 1, 0, 4, 0, 28, 63, 127] ?_
     intro K hK
     refine zFDJ [0, 1, 0, 4, 0, 28, 63, 127] [0] (hs3) ?_
     refine zFDJ [0, 1, 0, 4, 0, 28, 63, 127] [0] (hs4) ?_
     refine zE [2, 3] ?_
     clear hK K hL
     clear hX
     have hX := hX0
     clear hX0
     intro ρ hL
     refine awl_nil ?_
     refine blk_normal (hR1 _ _ (.mk ?_))
     revert ρ hL
     refine zS [2] ?_
     refine zX [2, 3] [0, 2, 3] ?_
     refine ⟨⟨m.words.set x1.toNat w, m.gone⟩, m.words.set x1.toNat w, 0, c, ?hq2, ?hv2, ?hh2⟩
     case hv2 => (try simp only [go_sem, simprocAttr, hX, List.length_set,  words_put hn9]); first | done | rfl
     case hh2 => (try simp only [go_sem, simprocAttr, hX, List.length_set,  words_put hn9]); first | done | rfl
     all_goals try clear hR1
     all_goals (exact ⟨cutW_all, by rw [List.length_set]; omega, by show m.gone.length ≤ 24; omega⟩)
   · intro c2
     refine zS [2, 3, 23] ?_
     refine zC ?_ ?_
     · intro c3
       refine zS [2, 3] ?_
       intro ρ hL
       refine awl_nil ?_
       refine blk_normal (hR1 _ _ (.mk ?_))
       revert ρ hL
       refine zS [2] ?_
       intro ρ hL
       refine awl_ret ?_
       refine retNE (v := .agg [.slice 2 0 m.words.length 0, .nilsl]) [1] [2, 5] [0, 2, 5] rfl (by simp only [go_sem, simprocAttr, hL, hX]; exact rfl) (by first | rfl | (simp only [go_sem, simprocAttr, hL, hX]; first | done | rfl)) (Ref.agg (RefL.cons (Ref.refl _) (RefL.cons (Ref.nil 5 ⟨Nat.le_of_ble_eq_true rfl, Nat.le_of_ble_eq_true rfl⟩) (RefL.same [])))) rfl (by decide) rfl rfl rfl rfl ?_
       refine ⟨⟨m.words, []⟩, m.words, 0, c, ?hq3, ?hv3, ?hh3⟩
       case hv3 => (try simp only [go_sem, simprocAttr, hX]); first | done | rfl
       case hh3 => (try simp only [go_sem, simprocAttr, hX]); first | done | rfl
       all_goals try clear hR1
       all_goals (exact ⟨cutW_all, by show m.words.length ≤ 24; omega, Nat.zero_le _⟩)
     · intro c3
       intro ρ hL
       refine awl_skip ?_
       refine awl_nil ?_
       refine blk_normal (hR1 _ _ (.mk ?_))
       revert ρ hL
       refine zS [2] ?_
       refine zX [2, 3] [0, 2, 3] ?_
       refine ⟨m, m.words, 0, c, ?hq4, ?hv4, ?hh4⟩
       case hv4 => (try simp only [go_sem, simprocAttr, hX]); first | done | rfl
       case hh4 => (try simp only [go_sem, simprocAttr, hX]); first | done | rfl
       all_goals try clear hR1
       all_goals (exact ⟨cutW_all, by omega, by omega⟩)
theorem sat_spec_l9Draw (c : Cu)  : ∃ (l : List Ins) (s : Stt) (rs ws : List Word) (p o : Nat) (d : Cu), ((0 < l.length ∧ l.length ≤ 24) ∧ cutW rs p s.regs ∧ cutW ws o s.mem.words ∧ smallS s) ∧ Sat Tryz.prog 106 [.ptr 0 0] [⟨3, c.cells, true, false⟩] (.tuple [.slice 1 0 l.length 0, .agg (s.ownC 2 3 4 p o)]) [⟨3, d.cells, true, false⟩, ⟨5, rows l, true, false⟩, ⟨6, rows rs, true, false⟩, ⟨6, rows ws, true, false⟩, ⟨1, rows s.mem.gone, true, false⟩] := by
 suffices hE : ∃ zv zh, (∃ (l : List Ins) (s : Stt) (rs ws : List Word) (p o : Nat) (d : Cu), ((0 < l.length ∧ l.length ≤ 24) ∧ cutW rs p s.regs ∧ cutW ws o s.mem.words ∧ smallS s) ∧ zv = (.tuple [.slice 1 0 l.length 0, .agg (s.ownC 2 3 4 p o)]) ∧ zh = [⟨3, d.cells, true, false⟩, ⟨5, rows l, true, false⟩, ⟨6, rows rs, true, false⟩, ⟨6, rows ws, true, false⟩, ⟨1, rows s.mem.gone, true, false⟩]) ∧ Sat Tryz.prog 106 [.ptr 0 0] [⟨3, c.cells, true, false⟩] zv zh from by
   obtain ⟨_, _, ⟨l, s, rs, ws, p, o, d, hq, rfl, rfl⟩, hs⟩ := hE
   exact ⟨l, s, rs, ws, p, o, d, hq, hs⟩
 have hX := trivial
 refine sat_ex [.tmp 2, .cell 3 33] 1 59 Tryz.call106 Tryz.func106 Tryz.ntmps106 rfl rfl rfl rfl rfl ?_
 refine zI [0] ?_
 refine zS [0, 3] ?_
 obtain ⟨l, s, c, hls, hs1⟩ := sat_spec_l9DrawState c
 obtain ⟨hl, hk⟩ := hls
 have hs8 := (sttOk_iff.1 hk).2.1
 have hsm := ok_small hk
 intro ρ hL
 refine zA ?_
 intro K hK
 refine zFJ [0] (hs1) ?_
 refine zE [0, 3, 4, 5] ?_
 clear hK K hL
 obtain ⟨x0, c, hx0, hs2⟩ := sat_spec_l1Below c 15
 have hb0 := hx0.2.1 (by decide)
 intro ρ hL
 refine zA ?_
 intro K hK
 refine zFJ [0] (hs2) ?_
 refine zE [0, 3, 4, 5, 12] ?_
 clear hK K hL
 intro ρ hL
 refine awl_block fun R1 hw1 hR1 => ?_
 revert ρ hL
 refine zS [0, 3, 4, 5, 12, 13] ?_
 refine zC ?_ ?_
 · intro c1
   obtain ⟨x1, c, hx1, hs3⟩ := sat_spec_l1Below c 8
   have hb1 := hx1.2.1 (by decide)
   obtain ⟨w, c, hw, hs4⟩ := sat_spec_l3Draw c
   have hn9 : x1.toNat < s.regs.length := by omega
   have hX0 := hX
   replace hX := And.intro hn9 hX
   intro ρ hL
   refine zAD [0, 1, 0, 4, 0, 28, 63, 127] ?_
   intro K hK
   refine zFDJ [0, 1, 0, 4, 0, 28, 63, 127] [0] (hs3) ?_
   refine zFDJ [0, 1, 0, 4, 0, 28, 63, 127] [0] (hs4) ?_
   refine zE [3, 4, 5] ?_
   clear hK K hL
   clear hX
   have hX := hX0
   clear hX0
   intro ρ hL
   refine awl_nil ?_
   refine blk_normal (hR1 _ _ (.mk ?_))
   revert ρ hL
   refine zD [0, 0, 1, 7] [2, 3] ?_
   refine zX [2, 3, 4, 5] [0, 2, 3, 4, 5] ?_
   refine ⟨l, ⟨s.regs.set x1.toNat w, s.pc, s.mem, s.trap⟩, s.regs.set x1.toNat w, s.mem.words, 0, 0, c, ?hq1, ?hv1, ?hh1⟩
   case hv1 => (try simp only [go_sem, simprocAttr, hX, List.length_set,  words_put hn9]); first | done | rfl
   case hh1 => (try simp only [go_sem, simprocAttr, hX, List.length_set,  words_put hn9]); first | done | rfl
   all_goals try clear hR1
   all_goals (exact ⟨hl, cutW_all, cutW_all, by show (s.regs.set x1.toNat w).length ≤ 8; rw [List.length_set]; omega, hsm.2⟩)
 · intro c1
   refine zS [0, 3, 4, 5, 12, 22] ?_
   refine zC ?_ ?_
   · intro c2
     obtain ⟨w, c, hw, hs5⟩ := sat_spec_l3Draw c
     intro ρ hL
     refine zA ?_
     intro K hK
     refine zFJ [0] (hs5) ?_
     refine zE [3, 4, 5] ?_
     clear hK K hL
     intro ρ hL
     refine awl_nil ?_
     refine blk_normal (hR1 _ _ (.mk ?_))
     revert ρ hL
     refine zD [0, 0, 1, 7] [2, 3] ?_
     refine zX [2, 3, 4, 5] [0, 2, 3, 4, 5] ?_
     refine ⟨l, ⟨s.regs, w, s.mem, s.trap⟩, s.regs, s.mem.words, 0, 0, c, ?hq2, ?hv2, ?hh2⟩
     case hv2 => (try simp only [go_sem, simprocAttr, hX]); first | done | rfl
     case hh2 => (try simp only [go_sem, simprocAttr, hX]); first | done | rfl
     all_goals try clear hR1
     all_goals (exact ⟨hl, cutW_all, cutW_all, hsm⟩)
   · intro c2
     refine zS [0, 3, 4, 5, 12, 27] ?_
     refine zC ?_ ?_
     · intro c3
       obtain ⟨m, ws, o, c, hm, hs6⟩ := sat_spec_l8Draw c
       intro ρ hL
       refine zA ?_
       intro K hK
       refine zFJ [0] (hs6) ?_
       refine zE [3, 4, 5] ?_
       clear hK K hL
       intro ρ hL
       refine awl_nil ?_
       refine blk_normal (hR1 _ _ (.mk ?_))
       revert ρ hL
       refine zD [0, 0, 1, 7] [2, 3] ?_
       refine zX [2, 3, 7, 8] [0, 2, 3, 7, 8] ?_
       refine ⟨l, ⟨s.regs, s.pc, m, s.trap⟩, s.regs, ws, 0, o, c, ?hq3, ?hv3, ?hh3⟩
       case hv3 => (try simp only [go_sem, simprocAttr, hX]); first | done | rfl
       case hh3 => (try simp only [go_sem, simprocAttr, hX]); first | done | rfl
       all_goals try clear hR1
       all_goals (exact ⟨hl, cutW_all, hm.1, hsm.1, hm.2⟩)
     · intro c3
       refine zS [0, 3, 4, 5, 12, 32] ?_
       refine zC ?_ ?_
       · intro c4
         obtain ⟨x1, c, hx1, hs7⟩ := sat_spec_l1Below c 8
         have hb1 := hx1.2.1 (by decide)
         intro ρ hL
         refine zA ?_
         intro K hK
         refine zFJ [0] (hs7) ?_
         refine zE [3, 4, 5] ?_
         clear hK K hL
         intro ρ hL
         refine awl_nil ?_
         refine blk_normal (hR1 _ _ (.mk ?_))
         revert ρ hL
         refine zD [0, 0, 1, 7] [2, 3] ?_
         refine zX [2, 3, 4, 5] [0, 2, 3, 4, 5] ?_
         refine ⟨l, ⟨s.regs, s.pc, s.mem, IntKind.i64.wrap (x1 - 1)⟩, s.regs, s.mem.words, 0, 0, c, ?hq4, ?hv4, ?hh4⟩
         case hv4 => (try simp only [go_sem, simprocAttr, hX]); first | done | rfl
         case hh4 => (try simp only [go_sem, simprocAttr, hX]); first | done | rfl
         all_goals try clear hR1
         all_goals (exact ⟨hl, cutW_all, cutW_all, hsm⟩)
       · intro c4
         refine zS [0, 3, 4, 5, 12, 38] ?_
         refine zC ?_ ?_
         · intro c5
           have hX0 := hX
           replace hX := And.intro hs8 hX
           refine zS [3, 4, 5] ?_
           clear hX
           have hX := hX0
           clear hX0
           intro ρ hL
           refine awl_nil ?_
           refine blk_normal (hR1 _ _ (.mk ?_))
           revert ρ hL
           refine zD [0, 0, 1, 7] [2, 3] ?_
           intro ρ hL
           refine awl_ret ?_
           refine retNE (v := .tuple [.slice 2 0 l.length 0, .agg [.slice 3 6 7 7, .int .i64 s.pc.n, .bool s.pc.is, .int .i64 s.pc.key.base, .int .i64 s.pc.key.top, .int .i64 s.pc.key.perms, .int .i64 s.pc.key.lock, .slice 4 0 s.mem.words.length 0, .slice 5 0 s.mem.gone.length 0, .int .i64 s.trap]]) [] [2, 3, 4, 5] [0, 2, 3, 4, 5] rfl (by simp only [go_sem, simprocAttr, hL, hX]; exact rfl) (by first | rfl | (simp only [go_sem, simprocAttr, hL, hX]; first | done | rfl)) (Ref.tuple (RefL.cons (Ref.refl _) (RefL.cons (Ref.agg (RefL.cons (Ref.cap _ _ _ _ 0 (Nat.zero_le _)) (RefL.cons (Ref.refl _) (RefL.cons (Ref.refl _) (RefL.cons (Ref.refl _) (RefL.cons (Ref.refl _) (RefL.cons (Ref.refl _) (RefL.cons (Ref.refl _) (RefL.cons (Ref.refl _) (RefL.cons (Ref.refl _) (RefL.cons (Ref.refl _) (RefL.same [])))))))))))) (RefL.same [])))) rfl (by decide) rfl rfl rfl rfl ?_
           refine ⟨l, ⟨s.regs.drop 1, s.pc, s.mem, s.trap⟩, s.regs, s.mem.words, 6, 0, c, ?hq5, ?hv5, ?hh5⟩
           case hv5 => (try simp only [go_sem, simprocAttr, hX, List.length_drop,  hs8]); first | done | rfl
           case hh5 => (try simp only [go_sem, simprocAttr, hX, List.length_drop,  hs8]); first | done | rfl
           all_goals try clear hR1
           all_goals (exact ⟨hl, cutW_one (by omega), cutW_all, by show (s.regs.drop 1).length ≤ 8; rw [List.length_drop]; omega, hsm.2⟩)
         · intro c5
           refine zS [0, 3, 4, 5, 44] ?_
           refine zC ?_ ?_
           · intro c6
             obtain ⟨x1, c, hx1, hs8⟩ := sat_spec_l1Below c (l.length : Int)
             have hb1 := hx1.2.1 (by omega)
             obtain ⟨o2, r2, a2, b2, n2, c, hi, hs9⟩ := sat_spec_l6Spoil c (l.getD 0 noIns).op (l.getD 0 noIns).r (l.getD 0 noIns).a (l.getD 0 noIns).b (l.getD 0 noIns).n
             have hn9 : x1.toNat < l.length := by omega
             intro ρ hL
             have h5 := hL.2.2.2.1
             have h05 : 0 < l.length := hl.1
             have ht5 := inss_first hl.1
             have hX0 := hX
             replace hX := And.intro hn9 (And.intro h05 (And.intro ht5 hX))
             refine zAD [0, 0, 0, 4, 14, 0, 0, 64, 192, 510, 1023, 2047] ?_
             intro K hK
             refine zFDJ [0, 0, 0, 4, 14, 0, 0, 64, 192, 510, 1023, 2047] [0] (hs8) ?_
             refine zFDJ [0, 0, 0, 4, 14, 0, 0, 64, 192, 510, 1023, 2047] [0] (hs9) ?_
             clear h5
             refine zE [3, 4, 5] ?_
             clear hK K hL
             clear hX
             have hX := hX0
             clear hX0
             intro ρ hL
             refine awl_nil ?_
             refine blk_normal (hR1 _ _ (.mk ?_))
             revert ρ hL
             refine zD [0, 0, 1, 7] [2, 3] ?_
             have hp5 : putAt (rows l) (x1.toNat * 5) [.int .i64 o2, .int .i64 r2, .int .i64 a2, .int .i64 b2, .int .i64 n2] = rows (l.set x1.toNat (⟨o2, r2, a2, b2, n2⟩ : Ins)) := inss_put (x := ⟨o2, r2, a2, b2, n2⟩) hn9
             refine zX [2, 3, 4, 5] [0, 2, 3, 4, 5] ?_
             refine ⟨l.set x1.toNat ⟨o2, r2, a2, b2, n2⟩, s, s.regs, s.mem.words, 0, 0, c, ?hq6, ?hv6, ?hh6⟩
             case hv6 => (try simp only [go_sem, simprocAttr, hX, List.length_set,  hp5]); first | done | rfl
             case hh6 => (try simp only [go_sem, simprocAttr, hX, List.length_set,  hp5]); first | done | rfl
             all_goals try clear hR1
             all_goals (exact ⟨by rw [List.length_set]; exact hl, cutW_all, cutW_all, hsm⟩)
           · intro c6
             intro ρ hL
             refine awl_skip ?_
             refine awl_nil ?_
             refine blk_normal (hR1 _ _ (.mk ?_))
             revert ρ hL
             refine zD [0, 0, 1, 7] [2, 3] ?_
             refine zX [2, 3, 4, 5] [0, 2, 3, 4, 5] ?_
             refine ⟨l, s, s.regs, s.mem.words, 0, 0, c, ?hq7, ?hv7, ?hh7⟩
             case hv7 => (try simp only [go_sem, simprocAttr, hX]); first | done | rfl
             case hh7 => (try simp only [go_sem, simprocAttr, hX]); first | done | rfl
             all_goals try clear hR1
             all_goals (exact ⟨hl, cutW_all, cutW_all, hsm⟩)
theorem sat_spec_l16DrawPick (c : Cu) (n : Int)  : ∃ (a b : Int) (d : Cu), (True) ∧ Sat Tryz.prog 101 [.ptr 0 0, .int .i64 n] [⟨3, c.cells, true, false⟩] (.agg [.int .i64 a, .int .i64 b]) [⟨3, d.cells, true, false⟩] := by
 suffices hE : ∃ zv zh, (∃ (a b : Int) (d : Cu), (True) ∧ zv = (.agg [.int .i64 a, .int .i64 b]) ∧ zh = [⟨3, d.cells, true, false⟩]) ∧ Sat Tryz.prog 101 [.ptr 0 0, .int .i64 n] [⟨3, c.cells, true, false⟩] zv zh from by
   obtain ⟨_, _, ⟨a, b, d, hq, rfl, rfl⟩, hs⟩ := hE
   exact ⟨a, b, d, hq, hs⟩
 have hX := trivial
 refine sat_ex [.cell 4 60] 1 28 Tryz.call101 Tryz.func101 Tryz.ntmps101 rfl rfl rfl rfl rfl ?_
 refine zI [0, 1] ?_
 refine zS [0, 1, 4] ?_
 obtain ⟨x0, c, hx0, hs1⟩ := sat_spec_l1Below c 10
 have hb0 := hx0.2.1 (by decide)
 intro ρ hL
 refine zA ?_
 intro K hK
 refine zFJ [0] (hs1) ?_
 refine zE [0, 1, 4, 6] ?_
 clear hK K hL
 intro ρ hL
 refine awl_block fun R1 hw1 hR1 => ?_
 revert ρ hL
 refine zS [0, 1, 4, 6, 7] ?_
 intro ρ hL
 have j1 := hL
 refine awl_joinH (fun H0 σ G => (liveE [0, 1, 4, 6] σ ρ ∧ σ 7 = .bool (decide (x0 = 0 ∨ x0 = 1 ∨ x0 = 2))) ∧ G = H0) ?inner1 (fun ρ G hJ => ?after1)
 case inner1 =>
  refine zN [0, 1, 4, 6, 7] ?_
  clear hL
  refine zC ?_ ?_
  · intro c1
    intro ρ hL
    refine awl_skip ?_
    refine awl_nil ?_
    show wkQ _ _ _ _
    refine .mk ⟨⟨(by simp only [go_sem, simprocAttr, hL, hX, j1]), (by rw [hL.2.2.2.2]; first | rfl | (congr 1; rw [Bool.eq_iff_iff]; simp; omega))⟩, rfl⟩
  · intro c1
    refine zS [0, 1, 4, 6, 7] ?_
    refine zC ?_ ?_
    · intro c2
      intro ρ hL
      refine awl_skip ?_
      refine awl_nil ?_
      show wkQ _ _ _ _
      refine .mk ⟨⟨(by simp only [go_sem, simprocAttr, hL, hX, j1]), (by rw [hL.2.2.2.2]; first | rfl | (congr 1; rw [Bool.eq_iff_iff]; simp; omega))⟩, rfl⟩
    · intro c2
      refine zS [0, 1, 4, 6, 7] ?_
      intro ρ hL
      refine awl_nil ?_
      show wkQ _ _ _ _
      refine .mk ⟨⟨(by simp only [go_sem, simprocAttr, hL, hX, j1]), (by rw [hL.2.2.2.2]; first | rfl | (congr 1; rw [Bool.eq_iff_iff]; simp; omega))⟩, rfl⟩
 case after1 =>
  clear hL
  obtain ⟨hL, hG⟩ := hJ
  subst hG
  try simp only [go_sem, simprocAttr, j1, hX] at hL
  revert ρ hL
  refine zC ?_ ?_
  · intro c3
    refine zS [4] ?_
    refine zX [] [0] ?_
    refine ⟨?y1_0, ?y1_1, c, ?hq1, ?hv1, ?hh1⟩
    case hv1 => (try simp only [go_sem, simprocAttr, hX]); first | done | rfl
    case hh1 => (try simp only [go_sem, simprocAttr, hX]); first | done | rfl
    all_goals try clear hR1
    all_goals (first | trivial | assumption | omega | (simp; done))
  · intro c3
    refine zS [0, 1, 4, 6, 12] ?_
    intro ρ hL
    have j2 := hL
    refine awl_joinH (fun H0 σ G => (liveE [0, 1, 4, 6] σ ρ ∧ σ 12 = .bool (decide (x0 = 3 ∨ x0 = 4 ∨ x0 = 5 ∨ x0 = 6))) ∧ G = H0) ?inner2 (fun ρ G hJ => ?after2)
    case inner2 =>
     refine zN [0, 1, 4, 6, 12] ?_
     clear hL
     refine zC ?_ ?_
     · intro c4
       intro ρ hL
       refine awl_skip ?_
       refine awl_nil ?_
       show wkQ _ _ _ _
       refine .mk ⟨⟨(by simp only [go_sem, simprocAttr, hL, hX, j2]), (by rw [hL.2.2.2.2]; first | rfl | (congr 1; rw [Bool.eq_iff_iff]; simp; omega))⟩, rfl⟩
     · intro c4
       refine zS [0, 1, 4, 6, 12] ?_
       refine zC ?_ ?_
       · intro c5
         intro ρ hL
         refine awl_skip ?_
         refine awl_nil ?_
         show wkQ _ _ _ _
         refine .mk ⟨⟨(by simp only [go_sem, simprocAttr, hL, hX, j2]), (by rw [hL.2.2.2.2]; first | rfl | (congr 1; rw [Bool.eq_iff_iff]; simp; omega))⟩, rfl⟩
       · intro c5
         refine zS [0, 1, 4, 6, 12] ?_
         refine zC ?_ ?_
         · intro c6
           intro ρ hL
           refine awl_skip ?_
           refine awl_nil ?_
           show wkQ _ _ _ _
           refine .mk ⟨⟨(by simp only [go_sem, simprocAttr, hL, hX, j2]), (by rw [hL.2.2.2.2]; first | rfl | (congr 1; rw [Bool.eq_iff_iff]; simp; omega))⟩, rfl⟩
         · intro c6
           refine zS [0, 1, 4, 6, 12] ?_
           intro ρ hL
           refine awl_nil ?_
           show wkQ _ _ _ _
           refine .mk ⟨⟨(by simp only [go_sem, simprocAttr, hL, hX, j2]), (by rw [hL.2.2.2.2]; first | rfl | (congr 1; rw [Bool.eq_iff_iff]; simp; omega))⟩, rfl⟩
    case after2 =>
     clear hL
     obtain ⟨hL, hG⟩ := hJ
     subst hG
     try simp only [go_sem, simprocAttr, j2, hX] at hL
     revert ρ hL
     refine zC ?_ ?_
     · intro c7
       obtain ⟨x1, c, hx1, hs2⟩ := sat_spec_l1Below c (max n 1)
       intro ρ hL
       refine zA ?_
       intro K hK
       refine zF (sat_spec_l1Max _ _) ?_
       refine zFJ [0] (hs2) ?_
       refine zE [4] ?_
       clear hK K hL
       refine zX [] [0] ?_
       refine ⟨?y2_0, ?y2_1, c, ?hq2, ?hv2, ?hh2⟩
       case hv2 => (try simp only [go_sem, simprocAttr, hX]); first | done | rfl
       case hh2 => (try simp only [go_sem, simprocAttr, hX]); first | done | rfl
       all_goals try clear hR1
       all_goals (first | trivial | assumption | omega | (simp; done))
     · intro c7
       refine zS [0, 4, 22] ?_
       refine zC ?_ ?_
       · intro c8
         obtain ⟨x1, c, hx1, hs3⟩ := sat_spec_l1Below c 25
         have hb1 := hx1.2.1 (by decide)
         intro ρ hL
         refine zA ?_
         intro K hK
         refine zFJ [0] (hs3) ?_
         refine zE [4] ?_
         clear hK K hL
         refine zX [] [0] ?_
         refine ⟨?y3_0, ?y3_1, c, ?hq3, ?hv3, ?hh3⟩
         case hv3 => (try simp only [go_sem, simprocAttr, hX]); first | done | rfl
         case hh3 => (try simp only [go_sem, simprocAttr, hX]); first | done | rfl
         all_goals try clear hR1
         all_goals (first | trivial | assumption | omega | (simp; done))
       · intro c8
         intro ρ hL
         refine awl_skip ?_
         refine awl_nil ?_
         refine blk_normal (hR1 _ _ (.mk ?_))
         revert ρ hL
         refine zS [4] ?_
         refine zX [] [0] ?_
         refine ⟨?y4_0, ?y4_1, c, ?hq4, ?hv4, ?hh4⟩
         case hv4 => (try simp only [go_sem, simprocAttr, hX]); first | done | rfl
         case hh4 => (try simp only [go_sem, simprocAttr, hX]); first | done | rfl
         all_goals try clear hR1
         all_goals (first | trivial | assumption | omega | (simp; done))
theorem okC_fit {c : Cor} (h : corOk c = true) : c.fit := by
  have hk := corOk_iff.1 h
  have hg := guessOk_iff.1 hk.2.2.2.2
  exact ⟨ok_fit hk.2.1, by omega, by omega⟩
theorem sat_spec_l12DrawRight (c : Cu)  : ∃ (l : List Ins) (k : Cor) (d : Cu), ((0 < l.length ∧ l.length ≤ 24) ∧ corOk k = true) ∧ Sat Tryz.prog 165 [.ptr 0 0] [⟨3, c.cells, true, false⟩] (.tuple [.slice 1 0 l.length 0, .agg (k.own 2 3 4 5 6)]) (⟨3, d.cells, true, false⟩ :: ⟨5, rows l, true, false⟩ :: k.blks) := by
 suffices hE : ∃ zv zh, (∃ (l : List Ins) (k : Cor) (d : Cu), ((0 < l.length ∧ l.length ≤ 24) ∧ corOk k = true) ∧ zv = (.tuple [.slice 1 0 l.length 0, .agg (k.own 2 3 4 5 6)]) ∧ zh = (⟨3, d.cells, true, false⟩ :: ⟨5, rows l, true, false⟩ :: k.blks)) ∧ Sat Tryz.prog 165 [.ptr 0 0] [⟨3, c.cells, true, false⟩] zv zh from by
   obtain ⟨_, _, ⟨l, k, d, hq, rfl, rfl⟩, hs⟩ := hE
   exact ⟨l, k, d, hq, hs⟩
 have hX := trivial
 refine sat_ex [.tmp 2, .cell 3 37] 1 36 Tryz.call165 Tryz.func165 Tryz.ntmps165 rfl rfl rfl rfl rfl ?_
 refine zI [0] ?_
 refine zS [0, 3] ?_
 obtain ⟨l, s, c, hls, hs1⟩ := sat_spec_l9DrawState c
 obtain ⟨hl, hk⟩ := hls
 have hl9 : l.length ≤ 1048576 := by omega
 have hf9 := ok_fit hk
 intro ρ hL
 refine zA ?_
 intro K hK
 refine zFJ [0] (hs1) ?_
 refine zE [0, 3, 4, 5] ?_
 clear hK K hL
 refine zSF [0, 3, 4, 6] (sat_spec_CoreNew s hf9) ?_
 obtain ⟨x9, c, hx9, hs2⟩ := sat_spec_l1Below c 40
 have hb9 := hx9.2.1 (by decide)
 intro ρ hL
 refine zA ?_
 intro K hK
 refine zFJ [0] (hs2) ?_
 refine zE [0, 3, 4, 6, 7] ?_
 clear hK K hL
 intro ρ hL
 refine zA ?_
 intro K hK
 refine hK _ _ ⟨_, _, (Wk.keep [0, 1, 2, 7, 8, 9, 10, 11, 12] rfl), awl_live' [0, 3, 4, 6, 7, 8] fun ρ hM => ?_⟩
 try simp only [go_sem, simprocAttr, hL, hX] at hM
 clear hK K hL
 try simp only [go_sem, simprocAttr]
 revert ρ hM
 intro ρ hL
 have e1 := hL
 refine awl_loopH (fun H0 n σ G => ∃ (k : Cor) (c : Cu) (i : Nat), n = x9.toNat - i ∧ (i ≤ 40) ∧ (corOk k = true) ∧ (liveE [0, 3, 4, 6, 7] σ ρ ∧ σ 8 = .int .i64 (i : Int)) ∧ G = [⟨3, c.cells, true, false⟩, ⟨19, [.nilsl, .int .i64 0, .bool false, .int .i64 0, .int .i64 0, .int .i64 0, .int .i64 0, .nilsl, .nilsl, .int .i64 0, .nilsl, .int .i64 0, .bool false, .int .i64 0, .int .i64 0, .int .i64 0, .int .i64 0, .bool false, .nilsl], true, false⟩, ⟨5, rows l, true, false⟩, ⟨6, rows k.s.regs, true, false⟩, ⟨6, rows k.s.mem.words, true, false⟩, ⟨1, rows k.s.mem.gone, true, false⟩, ⟨40, rows k.rob, true, false⟩, ⟨1, ints k.guesses, true, false⟩, ⟨19, k.own 3 4 5 6 7, true, false⟩]) (fun H0 σ G => ∃ (k : Cor) (c : Cu), (corOk k = true) ∧ (liveE [3, 4, 6] σ ρ) ∧ G = [⟨3, c.cells, true, false⟩, ⟨19, [.nilsl, .int .i64 0, .bool false, .int .i64 0, .int .i64 0, .int .i64 0, .int .i64 0, .nilsl, .nilsl, .int .i64 0, .nilsl, .int .i64 0, .bool false, .int .i64 0, .int .i64 0, .int .i64 0, .int .i64 0, .bool false, .nilsl], true, false⟩, ⟨5, rows l, true, false⟩, ⟨6, rows k.s.regs, true, false⟩, ⟨6, rows k.s.mem.words, true, false⟩, ⟨1, rows k.s.mem.gone, true, false⟩, ⟨40, rows k.rob, true, false⟩, ⟨1, ints k.guesses, true, false⟩, ⟨19, k.own 3 4 5 6 7, true, false⟩]) ((fun (k : Cor) (c : Cu) (i : Nat) => x9.toNat - i) (corNew s)  c  0) ?init1 (fun n ρ G hI => ?round1) (fun ρ G hJ => ?after1)
 case init1 => exact ⟨(corNew s), c, 0, rfl, (Nat.zero_le _), (corNew_ok hk), ⟨liveE_refl _ _, (hL.2.2.2.2.2)⟩, rfl⟩
 case round1 =>
  clear hL
  obtain ⟨k, c, i, hn, i1_0, i1_1, hL, hG⟩ := hI
  subst hG
  try simp only [go_sem, simprocAttr, e1, hX] at hL
  revert ρ hL
  refine zS [0, 3, 4, 6, 7, 8, 20] ?_
  refine zC ?_ ?_
  · intro c1
    intro ρ hL
    refine awl_skip ?_
    refine awl_seq ?_
    refine awl_block fun R1 hw1 hR1 => ?_
    obtain ⟨a, b, c, hab, hs3⟩ := sat_spec_l16DrawPick c (k.rob.length : Int)
    have hfk := okC_fit i1_1
    refine zAD [0, 0, 0, 0, 8, 24, 60, 127, 255, 511, 511, 1023] ?_
    intro K hK
    refine zFDJ [0, 0, 0, 0, 8, 24, 60, 127, 255, 511, 511, 1023] [0] (hs3) ?_
    refine zFD [0, 0, 0, 0, 8, 24, 60, 127, 255, 511, 511, 1023] (sat_spec_CorePick l k ⟨a, b⟩ hl9 hfk) ?_
    refine zE [0, 3, 4, 6, 7, 8] ?_
    clear hK K hL
    intro ρ hL
    refine awl_nil ?_
    refine blk_normal (hR1 _ _ (.mk ?_))
    have wi : IntKind.i64.wrap ((i : Int) + 1) = ((i + 1 : Nat) : Int) := by rw [wrap64 (by omega)]; omega
    have hX0 := hX
    replace hX := And.intro wi hX
    revert ρ hL
    refine zS [0, 3, 4, 6, 7, 8] ?_
    clear hX
    have hX := hX0
    clear hX0
    intro ρ hL
    refine awl_nil ?_
    refine loop_againW (Wk.keep [0, 1, 2, 9, 10, 11, 12, 13, 8] rfl) _ ?meas ⟨(corPick l k ⟨a, b⟩).1, c, (i + 1), rfl, (by omega), (by exact pick_ok i1_1), ⟨(by simp only [go_sem, simprocAttr, hL, hX, e1]), (by simp only [go_sem, simprocAttr, hL, hX, e1]; first | done | rfl)⟩, (by simp only [go_sem, simprocAttr, hL, hX, e1]; first | done | rfl)⟩
    case meas => subst hn; omega
  · intro c1
    intro ρ hL
    refine awl_exit ?_
    refine loop_break ?_
    exact ⟨k, c, (by exact i1_1), (by simp only [go_sem, simprocAttr, hL, hX, e1]), rfl⟩
 case after1 =>
  clear hL
  obtain ⟨k, c, j1_0, hL, hG⟩ := hJ
  subst hG
  try simp only [go_sem, simprocAttr, e1, hX] at hL
  revert ρ hL
  refine zD [0, 0, 1, 7] [2, 3] ?_
  refine zX [2, 3, 4, 5, 6, 7] [0, 2, 3, 4, 5, 6, 7] ?_
  refine ⟨l, k, c, ?hq1, ?hv1, ?hh1⟩
  case hv1 => (try simp only [go_sem, simprocAttr, hX]); first | done | rfl
  case hh1 => (try simp only [go_sem, simprocAttr, hX]); first | done | rfl
  all_goals try clear hR1
  all_goals (exact ⟨hl, j1_0⟩)
theorem sat_spec_l12Draw (c : Cu)  : ∃ (l : List Ins) (k : Cor) (rs ws : List Word) (gs : List Int) (p o g : Nat) (d : Cu), ((0 < l.length ∧ l.length ≤ 24) ∧ smallC k ∧ cutW rs p k.s.regs ∧ cutW ws o k.s.mem.words ∧ cutI gs g k.guesses) ∧ Sat Tryz.prog 98 [.ptr 0 0] [⟨3, c.cells, true, false⟩] (.tuple [.slice 1 0 l.length 0, .agg (k.ownC 2 3 4 5 6 p o g)]) [⟨3, d.cells, true, false⟩, ⟨5, rows l, true, false⟩, ⟨6, rows rs, true, false⟩, ⟨6, rows ws, true, false⟩, ⟨1, rows k.s.mem.gone, true, false⟩, ⟨40, rows k.rob, true, false⟩, ⟨1, ints gs, true, false⟩] := by
 suffices hE : ∃ zv zh, (∃ (l : List Ins) (k : Cor) (rs ws : List Word) (gs : List Int) (p o g : Nat) (d : Cu), ((0 < l.length ∧ l.length ≤ 24) ∧ smallC k ∧ cutW rs p k.s.regs ∧ cutW ws o k.s.mem.words ∧ cutI gs g k.guesses) ∧ zv = (.tuple [.slice 1 0 l.length 0, .agg (k.ownC 2 3 4 5 6 p o g)]) ∧ zh = [⟨3, d.cells, true, false⟩, ⟨5, rows l, true, false⟩, ⟨6, rows rs, true, false⟩, ⟨6, rows ws, true, false⟩, ⟨1, rows k.s.mem.gone, true, false⟩, ⟨40, rows k.rob, true, false⟩, ⟨1, ints gs, true, false⟩]) ∧ Sat Tryz.prog 98 [.ptr 0 0] [⟨3, c.cells, true, false⟩] zv zh from by
   obtain ⟨_, _, ⟨l, k, rs, ws, gs, p, o, g, d, hq, rfl, rfl⟩, hs⟩ := hE
   exact ⟨l, k, rs, ws, gs, p, o, g, d, hq, hs⟩
 have hX := trivial
 refine sat_ex [.tmp 2, .cell 3 37] 1 90 Tryz.call98 Tryz.func98 Tryz.ntmps98 rfl rfl rfl rfl rfl ?_
 refine zI [0] ?_
 refine zS [0, 3] ?_
 obtain ⟨l, k, c, hlk, hs1⟩ := sat_spec_l12DrawRight c
 obtain ⟨hl, hk⟩ := hlk
 have hkp := corOk_iff.1 hk
 have hsm := ok_small hkp.2.1
 have hr6 := hkp.2.2.1
 have hg48 := (guessOk_iff.1 hkp.2.2.2.2).1
 intro ρ hL
 refine zA ?_
 intro K hK
 refine zFJ [0] (hs1) ?_
 refine zE [0, 3, 4, 5] ?_
 clear hK K hL
 obtain ⟨x0, c, hx0, hs2⟩ := sat_spec_l1Below c 18
 have hb0 := hx0.2.1 (by decide)
 intro ρ hL
 refine zA ?_
 intro K hK
 refine zFJ [0] (hs2) ?_
 refine zE [0, 3, 4, 5, 12] ?_
 clear hK K hL
 intro ρ hL
 refine awl_block fun R1 hw1 hR1 => ?_
 revert ρ hL
 refine zS [0, 3, 4, 5, 12, 13] ?_
 refine zC ?_ ?_
 · intro c1
   obtain ⟨l2, s, rs, ws, p, o, c, hls, hs3⟩ := sat_spec_l9Draw c
   intro ρ hL
   refine zA ?_
   intro K hK
   refine zFJ [0] (hs3) ?_
   refine zE [3, 4, 5] ?_
   clear hK K hL
   intro ρ hL
   refine awl_nil ?_
   refine blk_normal (hR1 _ _ (.mk ?_))
   revert ρ hL
   refine zD [0, 0, 1, 7] [2, 3] ?_
   refine zX [2, 10, 11, 12, 6, 7] [0, 2, 10, 11, 12, 6, 7] ?_
   refine ⟨l, ⟨s, k.rob, k.next, k.stop, k.guesses⟩, rs, ws, k.guesses, p, o, 0, c, ?hq1, ?hv1, ?hh1⟩
   case hv1 => (try simp only [go_sem, simprocAttr, hX]); first | done | rfl
   case hh1 => (try simp only [go_sem, simprocAttr, hX]); first | done | rfl
   all_goals try clear hR1
   all_goals (exact ⟨hl, ⟨hls.2.2.2, by show k.rob.length ≤ 12; omega, by show k.guesses.length ≤ 48; omega⟩, hls.2.1, hls.2.2.1, cutI_all⟩)
 · intro c1
   refine zS [0, 3, 4, 5, 12, 21] ?_
   refine zC ?_ ?_
   · intro c2
     obtain ⟨ys, xs, g, c, hg, hs4⟩ := sat_spec_l11Draw c
     intro ρ hL
     refine zA ?_
     intro K hK
     refine zFJ [0] (hs4) ?_
     refine zE [3, 4, 5] ?_
     clear hK K hL
     intro ρ hL
     refine awl_nil ?_
     refine blk_normal (hR1 _ _ (.mk ?_))
     revert ρ hL
     refine zD [0, 0, 1, 7] [2, 3] ?_
     refine zX [2, 3, 4, 5, 6, 9] [0, 2, 3, 4, 5, 6, 9] ?_
     refine ⟨l, ⟨k.s, k.rob, k.next, k.stop, xs⟩, k.s.regs, k.s.mem.words, ys, 0, 0, g, c, ?hq2, ?hv2, ?hh2⟩
     case hv2 => (try simp only [go_sem, simprocAttr, hX]); first | done | rfl
     case hh2 => (try simp only [go_sem, simprocAttr, hX]); first | done | rfl
     all_goals try clear hR1
     all_goals (exact ⟨hl, ⟨hsm, by show k.rob.length ≤ 12; omega, hg.2.2⟩, cutW_all, cutW_all, hg.1, hg.2.1⟩)
   · intro c2
     refine zS [0, 3, 4, 5, 12, 26] ?_
     refine zC ?_ ?_
     · intro c3
       obtain ⟨w, c, hw, hs5⟩ := sat_spec_l3Draw c
       intro ρ hL
       refine zA ?_
       intro K hK
       refine zFJ [0] (hs5) ?_
       refine zE [3, 4, 5] ?_
       clear hK K hL
       intro ρ hL
       refine awl_nil ?_
       refine blk_normal (hR1 _ _ (.mk ?_))
       revert ρ hL
       refine zD [0, 0, 1, 7] [2, 3] ?_
       refine zX [2, 3, 4, 5, 6, 7] [0, 2, 3, 4, 5, 6, 7] ?_
       refine ⟨l, ⟨k.s, k.rob, w, k.stop, k.guesses⟩, k.s.regs, k.s.mem.words, k.guesses, 0, 0, 0, c, ?hq3, ?hv3, ?hh3⟩
       case hv3 => (try simp only [go_sem, simprocAttr, hX]); first | done | rfl
       case hh3 => (try simp only [go_sem, simprocAttr, hX]); first | done | rfl
       all_goals try clear hR1
       all_goals (exact ⟨hl, ⟨hsm, by show k.rob.length ≤ 12; omega, by show k.guesses.length ≤ 48; omega⟩, cutW_all, cutW_all, cutI_all⟩)
     · intro c3
       refine zS [0, 3, 4, 5, 12, 31] ?_
       refine zC ?_ ?_
       · intro c4
         refine zS [3, 4, 5] ?_
         intro ρ hL
         refine awl_nil ?_
         refine blk_normal (hR1 _ _ (.mk ?_))
         revert ρ hL
         refine zD [0, 0, 1, 7] [2, 3] ?_
         refine zX [2, 3, 4, 5, 6, 7] [0, 2, 3, 4, 5, 6, 7] ?_
         refine ⟨l, ⟨k.s, k.rob, k.next, !k.stop, k.guesses⟩, k.s.regs, k.s.mem.words, k.guesses, 0, 0, 0, c, ?hq4, ?hv4, ?hh4⟩
         case hv4 => (try simp only [go_sem, simprocAttr, hX]); first | done | rfl
         case hh4 => (try simp only [go_sem, simprocAttr, hX]); first | done | rfl
         all_goals try clear hR1
         all_goals (exact ⟨hl, ⟨hsm, by show k.rob.length ≤ 12; omega, by show k.guesses.length ≤ 48; omega⟩, cutW_all, cutW_all, cutI_all⟩)
       · intro c4
         refine zS [0, 3, 4, 5, 12, 37] ?_
         refine zC ?_ ?_
         · intro c5
           refine zS [3, 4, 5, 42] ?_
           refine zC ?_ ?_
           · intro c6
             have hp0 : 0 < k.rob.length := by omega
             have hd11 := ents_done0 hp0
             have hX0 := hX
             replace hX := And.intro hp0 (And.intro hd11 hX)
             refine zD [0, 1, 0, 4, 12, 28, 60, 124, 255, 511, 1023] [3, 4, 5] ?_
             clear hX
             have hX := hX0
             clear hX0
             intro ρ hL
             refine awl_nil ?_
             refine blk_normal (hR1 _ _ (.mk ?_))
             revert ρ hL
             refine zD [0, 0, 1, 7] [2, 3] ?_
             have hpc := rob_done (xs := k.rob) (v := !(k.rob.getD 0 noEnt).done) hp0
             refine zX [2, 3, 4, 5, 6, 7] [0, 2, 3, 4, 5, 6, 7] ?_
             refine ⟨l, ⟨k.s, k.rob.set 0 (withDone (ent0 k.rob) (!(ent0 k.rob).done)), k.next, k.stop, k.guesses⟩, k.s.regs, k.s.mem.words, k.guesses, 0, 0, 0, c, ?hq5, ?hv5, ?hh5⟩
             case hv5 => (try simp only [go_sem, simprocAttr, hX, List.length_set,  hpc]); first | done | rfl
             case hh5 => (try simp only [go_sem, simprocAttr, hX, List.length_set,  hpc]); first | done | rfl
             all_goals try clear hR1
             all_goals (exact ⟨hl, ⟨hsm, by show (k.rob.set 0 _).length ≤ 12; rw [List.length_set]; omega, by show k.guesses.length ≤ 48; omega⟩, cutW_all, cutW_all, cutI_all⟩)
           · intro c6
             intro ρ hL
             refine awl_skip ?_
             refine awl_nil ?_
             refine blk_normal (hR1 _ _ (.mk ?_))
             revert ρ hL
             refine zD [0, 0, 1, 7] [2, 3] ?_
             refine zX [2, 3, 4, 5, 6, 7] [0, 2, 3, 4, 5, 6, 7] ?_
             refine ⟨l, k, k.s.regs, k.s.mem.words, k.guesses, 0, 0, 0, c, ?hq6, ?hv6, ?hh6⟩
             case hv6 => (try simp only [go_sem, simprocAttr, hX]); first | done | rfl
             case hh6 => (try simp only [go_sem, simprocAttr, hX]); first | done | rfl
             all_goals try clear hR1
             all_goals (exact ⟨hl, ⟨hsm, by show k.rob.length ≤ 12; omega, by show k.guesses.length ≤ 48; omega⟩, cutW_all, cutW_all, cutI_all⟩)
         · intro c5
           refine zS [0, 3, 4, 5, 12, 53] ?_
           refine zC ?_ ?_
           · intro c7
             refine zS [0, 3, 4, 5, 58] ?_
             refine zC ?_ ?_
             · intro c8
               obtain ⟨x4, c, hx4, hs6⟩ := sat_spec_l1PickInt c [-2, -1, 7, 8] (by simp)
               have hp0 : 0 < k.rob.length := by omega
               have hd11 := ents_done0 hp0
               have hX0 := hX
               replace hX := And.intro hp0 (And.intro hd11 hX)
               intro ρ hL
               refine zAD [0, 1, 0, 0, 12, 31, 63, 127, 255] ?_
               intro K hK
               refine zFDJ [0, 1, 0, 0, 12, 31, 63, 127, 255] [0, 9] (hs6) ?_
               refine zE [3, 4, 5] ?_
               clear hK K hL
               clear hX
               have hX := hX0
               clear hX0
               intro ρ hL
               refine awl_nil ?_
               refine blk_normal (hR1 _ _ (.mk ?_))
               revert ρ hL
               refine zD [0, 0, 1, 7] [2, 3] ?_
               have hpc := rob_r (xs := k.rob) (n := x4) hp0
               refine zX [2, 3, 4, 5, 6, 7] [0, 2, 3, 4, 5, 6, 7] ?_
               refine ⟨l, ⟨k.s, k.rob.set 0 (withR (ent0 k.rob) x4), k.next, k.stop, k.guesses⟩, k.s.regs, k.s.mem.words, k.guesses, 0, 0, 0, c, ?hq7, ?hv7, ?hh7⟩
               case hv7 => (try simp only [go_sem, simprocAttr, hX, List.length_set,  hpc]); first | done | rfl
               case hh7 => (try simp only [go_sem, simprocAttr, hX, List.length_set,  hpc]); first | done | rfl
               all_goals try clear hR1
               all_goals (exact ⟨hl, ⟨hsm, by show (k.rob.set 0 _).length ≤ 12; rw [List.length_set]; omega, by show k.guesses.length ≤ 48; omega⟩, cutW_all, cutW_all, cutI_all⟩)
             · intro c8
               intro ρ hL
               refine awl_skip ?_
               refine awl_nil ?_
               refine blk_normal (hR1 _ _ (.mk ?_))
               revert ρ hL
               refine zD [0, 0, 1, 7] [2, 3] ?_
               refine zX [2, 3, 4, 5, 6, 7] [0, 2, 3, 4, 5, 6, 7] ?_
               refine ⟨l, k, k.s.regs, k.s.mem.words, k.guesses, 0, 0, 0, c, ?hq8, ?hv8, ?hh8⟩
               case hv8 => (try simp only [go_sem, simprocAttr, hX]); first | done | rfl
               case hh8 => (try simp only [go_sem, simprocAttr, hX]); first | done | rfl
               all_goals try clear hR1
               all_goals (exact ⟨hl, ⟨hsm, by show k.rob.length ≤ 12; omega, by show k.guesses.length ≤ 48; omega⟩, cutW_all, cutW_all, cutI_all⟩)
           · intro c7
             refine zS [0, 3, 4, 5, 12, 67] ?_
             refine zC ?_ ?_
             · intro c9
               refine zS [0, 3, 4, 5, 72] ?_
               refine zC ?_ ?_
               · intro c10
                 obtain ⟨w, c, hw, hs7⟩ := sat_spec_l3Draw c
                 have hp0 : 0 < k.rob.length := by omega
                 have hd11 := ents_done0 hp0
                 have hX0 := hX
                 replace hX := And.intro hp0 (And.intro hd11 hX)
                 intro ρ hL
                 refine zAD [0, 1, 0, 4, 15, 31, 63, 127] ?_
                 intro K hK
                 refine zFDJ [0, 1, 0, 4, 15, 31, 63, 127] [0] (hs7) ?_
                 refine zE [3, 4, 5] ?_
                 clear hK K hL
                 clear hX
                 have hX := hX0
                 clear hX0
                 intro ρ hL
                 refine awl_nil ?_
                 refine blk_normal (hR1 _ _ (.mk ?_))
                 revert ρ hL
                 refine zD [0, 0, 1, 7] [2, 3] ?_
                 have hpc := rob_val (xs := k.rob) (w := w) hp0
                 refine zX [2, 3, 4, 5, 6, 7] [0, 2, 3, 4, 5, 6, 7] ?_
                 refine ⟨l, ⟨k.s, k.rob.set 0 (withVal (ent0 k.rob) w), k.next, k.stop, k.guesses⟩, k.s.regs, k.s.mem.words, k.guesses, 0, 0, 0, c, ?hq9, ?hv9, ?hh9⟩
                 case hv9 => (try simp only [go_sem, simprocAttr, hX, List.length_set,  hpc]); first | done | rfl
                 case hh9 => (try simp only [go_sem, simprocAttr, hX, List.length_set,  hpc]); first | done | rfl
                 all_goals try clear hR1
                 all_goals (exact ⟨hl, ⟨hsm, by show (k.rob.set 0 _).length ≤ 12; rw [List.length_set]; omega, by show k.guesses.length ≤ 48; omega⟩, cutW_all, cutW_all, cutI_all⟩)
               · intro c10
                 intro ρ hL
                 refine awl_skip ?_
                 refine awl_nil ?_
                 refine blk_normal (hR1 _ _ (.mk ?_))
                 revert ρ hL
                 refine zD [0, 0, 1, 7] [2, 3] ?_
                 refine zX [2, 3, 4, 5, 6, 7] [0, 2, 3, 4, 5, 6, 7] ?_
                 refine ⟨l, k, k.s.regs, k.s.mem.words, k.guesses, 0, 0, 0, c, ?hq10, ?hv10, ?hh10⟩
                 case hv10 => (try simp only [go_sem, simprocAttr, hX]); first | done | rfl
                 case hh10 => (try simp only [go_sem, simprocAttr, hX]); first | done | rfl
                 all_goals try clear hR1
                 all_goals (exact ⟨hl, ⟨hsm, by show k.rob.length ≤ 12; omega, by show k.guesses.length ≤ 48; omega⟩, cutW_all, cutW_all, cutI_all⟩)
             · intro c9
               refine zS [3, 4, 5, 80] ?_
               refine zC ?_ ?_
               · intro c11
                 refine zS [3, 4, 5] ?_
                 intro ρ hL
                 refine awl_nil ?_
                 refine blk_normal (hR1 _ _ (.mk ?_))
                 revert ρ hL
                 refine zD [0, 0, 1, 7] [2, 3] ?_
                 refine zX [2, 3, 4, 5, 9, 7] [0, 2, 3, 4, 5, 9, 7] ?_
                 refine ⟨l, ⟨k.s, k.rob ++ k.rob, k.next, k.stop, k.guesses⟩, k.s.regs, k.s.mem.words, k.guesses, 0, 0, 0, c, ?hq11, ?hv11, ?hh11⟩
                 case hv11 => (try simp only [go_sem, simprocAttr, hX, List.length_append,  rows_append]); first | done | rfl
                 case hh11 => (try simp only [go_sem, simprocAttr, hX, List.length_append,  rows_append]); first | done | rfl
                 all_goals try clear hR1
                 all_goals (exact ⟨hl, ⟨hsm, by show (k.rob ++ k.rob).length ≤ 12; rw [List.length_append]; omega, by show k.guesses.length ≤ 48; omega⟩, cutW_all, cutW_all, cutI_all⟩)
               · intro c11
                 intro ρ hL
                 refine awl_skip ?_
                 refine awl_nil ?_
                 refine blk_normal (hR1 _ _ (.mk ?_))
                 revert ρ hL
                 refine zD [0, 0, 1, 7] [2, 3] ?_
                 refine zX [2, 3, 4, 5, 6, 7] [0, 2, 3, 4, 5, 6, 7] ?_
                 refine ⟨l, k, k.s.regs, k.s.mem.words, k.guesses, 0, 0, 0, c, ?hq12, ?hv12, ?hh12⟩
                 case hv12 => (try simp only [go_sem, simprocAttr, hX]); first | done | rfl
                 case hh12 => (try simp only [go_sem, simprocAttr, hX]); first | done | rfl
                 all_goals try clear hR1
                 all_goals (exact ⟨hl, ⟨hsm, by show k.rob.length ≤ 12; omega, by show k.guesses.length ≤ 48; omega⟩, cutW_all, cutW_all, cutI_all⟩)
end Go.Proofs.YtdifphcihhbjlaaGreat.AM
