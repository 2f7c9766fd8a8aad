/- What the laws make, compare and count of picks. No conditions but those each theorem bears. -/
import Derived.Test.YtokjjeibagmgpaaGreatFa
import Derived.Test.YtokjjeibagmgpaaGreatM5
import Derived.Test.YtokjjeibagmgpaaGreatCa31
import Derived.Test.YtokjjeibagmgpaaGreatCa16
set_option linter.unusedSimpArgs false
set_option linter.unusedVariables false
namespace Go.Proofs.YtokjjeibagmgpaaGreat.AM
open Go
set_option maxHeartbeats 8000000
set_option maxRecDepth 100000

theorem sat_laws_toPick (x : Pik)  : Sat Tryz.prog 44 [.agg x.cells] [] (.agg x.cells) [] := by
 have hX := trivial
 refine sat_mk [.cell 2 81] 0 11 Tryz.call44 Tryz.func44 Tryz.ntmps44 rfl rfl rfl rfl rfl ?_
 refine zI [0] ?_
 refine zS [1, 2] ?_
 refine zS [1, 2, 3] ?_
 refine zS [1, 2, 3] ?_
 refine zS [2, 3] ?_
 refine zS [2] ?_
 refine zR ?_
 try simp only [go_sem, simprocAttr]
 all_goals (first | done | rfl | (simp; done) | (simp [inR]; done) | (simp_all [inR]; done) | (simp [inR]; grind))
theorem sat_laws_eqPick (a : Pik) (b : Pik)  : Sat Tryz.prog 87 [.agg a.cells, .agg b.cells] [] (.bool (decide (a = b))) [] := by
 have hX := trivial
 refine sat_mk [.tmp 4] 0 15 Tryz.call87 Tryz.func87 Tryz.ntmps87 rfl rfl rfl rfl rfl ?_
 refine zI [0, 1] ?_
 refine zS [2, 3] ?_
 refine zS [2, 3, 9] ?_
 refine zC ?_ ?_
 · intro c1
   refine zS [4] ?_
   refine zR ?_
   try simp only [go_sem, simprocAttr]
   all_goals (rw [decide_eq_false]; rintro rfl; first | exact c1 rfl | exact c2 rfl | exact c3 rfl | exact c4 rfl | exact c5 rfl | exact c6 rfl | exact c7 rfl | (simp at c1; done) | (simp at c2; done) | (simp at c3; done) | (simp at c4; done)| (simp at c5; done) | (simp at c6; done) | (simp at c7; done))
 · intro c1
   intro ρ hL
   refine awl_skip ?_
   revert ρ hL
   refine zS [14] ?_
   refine zC ?_ ?_
   · intro c2
     refine zS [4] ?_
     refine zR ?_
     try simp only [go_sem, simprocAttr]
     all_goals (rw [decide_eq_false]; rintro rfl; first | exact c1 rfl | exact c2 rfl | exact c3 rfl | exact c4 rfl | exact c5 rfl | exact c6 rfl | exact c7 rfl | (simp at c1; done) | (simp at c2; done) | (simp at c3; done) | (simp at c4; done)| (simp at c5; done) | (simp at c6; done) | (simp at c7; done))
   · intro c2
     intro ρ hL
     refine awl_skip ?_
     revert ρ hL
     refine zS [4] ?_
     refine zR ?_
     try simp only [go_sem, simprocAttr]
     all_goals (rw [decide_eq_true]; cases a; cases b; simp_all)
section
attribute [local go_sem] List.length_append List.length_take List.length_replicate
theorem sat_laws_toPickS (xs : List Pik) (hb : xs.length ≤ 1099511627776) : Sat Tryz.prog 27 [.sl xs.length xs.length (rows xs)] [] (.slice 0 0 xs.length 0) [⟨2, rows xs, true, false⟩] := by
 have hX := trivial
 refine sat_mk [.tmp 2] 0 23 Tryz.call27 Tryz.func27 Tryz.ntmps27 rfl rfl rfl rfl rfl ?_
 refine zI [0] ?_
 refine zS [0] ?_
 refine zS [0, 3] ?_
 refine zS [0, 3, 4] ?_
 intro ρ hL
 have e1 := hL
 refine awl_loopH (fun H0 n σ G => ∃ (i : Nat), n = xs.length - i ∧ (i ≤ xs.length) ∧ (liveE [0, 3] σ ρ ∧ σ 4 = .int .i64 (i : Int)) ∧ G = [⟨2, rows (xs.take i ++ List.replicate (xs.length - i) noPik), true, false⟩]) (fun H0 σ G => (liveE [3] σ ρ) ∧ G = [⟨2, rows xs, true, false⟩]) ((fun (i : Nat) => xs.length - i) 0) ?init1 (fun n ρ G hI => ?round1) (fun ρ G hJ => ?after1)
 case init1 => exact ⟨0, rfl, (Nat.zero_le _), ⟨liveE_refl _ _, (hL.2.2)⟩, rfl⟩
 case round1 =>
  clear hL
  obtain ⟨i, hn, i1_0, hL, hG⟩ := hI
  subst hG
  try simp only [go_sem, simprocAttr, e1, hX] at hL
  revert ρ hL
  refine zS [0, 3, 4, 11] ?_
  refine zC ?_ ?_
  · intro c1
    have hi1 : i < xs.length := by omega
    replace hX := And.intro hi1 hX
    intro ρ hL
    refine awl_skip ?_
    refine awl_seq ?_
    refine awl_block fun R1 hw1 hR1 => ?_
    revert ρ hL
    refine zSF [0, 3, 4] (sat_laws_toPick _) ?_
    intro ρ hL
    refine awl_nil ?_
    refine blk_normal (hR1 _ _ (.mk ?_))
    have w1 : IntKind.i64.wrap ((i : Int) + 1) = ((i + 1 : Nat) : Int) := by rw [wrap64 (by omega)]; omega
    replace hX := And.intro w1 hX
    revert ρ hL
    refine zS [0, 3, 4] ?_
    intro ρ hL
    refine awl_nil ?_
    refine loop_again _ ?meas ⟨i + 1, rfl, (by omega), ⟨(by simp only [go_sem, simprocAttr, hL, hX, e1]), (hL.2.2)⟩, by rw [piks_put (by simp; omega), set_take (d := noPik) hi1 rfl]⟩
    case meas => subst hn; omega
  · intro c1
    intro ρ hL
    refine awl_exit ?_
    refine loop_break ?_
    exact ⟨(by simp only [go_sem, simprocAttr, hL, hX, e1]), by rw [show i = xs.length by omega]; simp⟩
 case after1 =>
  clear hL
  obtain ⟨hL, hG⟩ := hJ
  subst hG
  try simp only [go_sem, simprocAttr, e1, hX] at hL
  revert ρ hL
  refine zS [2] ?_
  intro ρ hL
  refine awl_ret ?_
  refine ret_wk (Wk.norm [] (RefE.refl.upd hL (Ref.cap _ _ _ _ 0 (Nat.zero_le _)))) ?_
  refine retK [0] [0] rfl (by simp only [go_sem, simprocAttr, hL, hX]; exact rfl) (by decide) (by first | rfl | (simp only [go_sem, simprocAttr, hL, hX]; first | done | rfl)) (by first | rfl | (simp only [go_sem, simprocAttr, hL, hX]; first | done | rfl)) ?_ ?_
  all_goals try simp only [go_sem, simprocAttr, hL, hX]
  all_goals try clear hR1
  all_goals (first | done | rfl | (simp; done) | (simp [inR]; done) | (simp_all [inR]; done) | (simp [inR]; grind))
end
theorem sat_laws_eqPickS (xs : List Pik) (ys : List Pik) (hb : xs.length ≤ 1099511627776) : Sat Tryz.prog 29 [.sl xs.length xs.length (rows xs), .sl ys.length ys.length (rows ys)] [] (.bool (decide (xs = ys))) [] := by
 have hX := trivial
 refine sat_mk [.tmp 4] 0 27 Tryz.call29 Tryz.func29 Tryz.ntmps29 rfl rfl rfl rfl rfl ?_
 refine zI [0, 1] ?_
 refine zS [0, 1] ?_
 refine zS [0, 1, 10] ?_
 refine zC ?_ ?_
 · intro c1
   refine zS [4] ?_
   refine zR ?_
   try simp only [go_sem, simprocAttr]
   all_goals (rw [decide_eq_false]; rintro rfl; exact c1 rfl)
 · intro c1
   intro ρ hL
   refine awl_skip ?_
   revert ρ hL
   refine zS [0, 1, 5] ?_
   intro ρ hL
   have e1 := hL
   refine awl_loopH (fun H0 n σ G => ∃ (i : Nat), n = xs.length - i ∧ (i ≤ xs.length) ∧ (xs.take i = ys.take i) ∧ (liveE [0, 1] σ ρ ∧ σ 5 = .int .i64 (i : Int)) ∧ G = H0) (fun H0 σ G => (xs = ys) ∧ (True) ∧ G = H0) ((fun (i : Nat) => xs.length - i) 0) ?init1 (fun n ρ G hI => ?round1) (fun ρ G hJ => ?after1)
   case init1 => exact ⟨0, rfl, (Nat.zero_le _), (by simp), ⟨liveE_refl _ _, (hL.2.2)⟩, rfl⟩
   case round1 =>
    clear hL
    obtain ⟨i, hn, i1_0, i1_1, hL, hG⟩ := hI
    subst hG
    try simp only [go_sem, simprocAttr, e1, hX] at hL
    revert ρ hL
    refine zS [0, 1, 5, 14] ?_
    refine zC ?_ ?_
    · intro c2
      have hi1 : i < xs.length := by omega
      replace hX := And.intro hi1 hX
      intro ρ hL
      refine awl_skip ?_
      refine awl_seq ?_
      refine awl_block fun R1 hw1 hR1 => ?_
      have hj : i < ys.length := by omega
      have hX0 := hX
      replace hX := And.intro hj hX
      refine zAD [0, 0, 3, 7, 0, 0, 48, 112, 255, 511] ?_
      intro K hK
      refine zFD [0, 0, 3, 7, 0, 0, 48, 112, 255, 511] (sat_laws_eqPick _ _) ?_
      refine zE [0, 1, 5, 26] ?_
      clear hK K hL
      clear hX
      have hX := hX0
      clear hX0
      refine zC ?_ ?_
      · intro c3
        refine zS [4] ?_
        refine zR ?_
        try simp only [go_sem, simprocAttr]
        all_goals try clear hR1
        all_goals (rw [decide_eq_false]; rintro rfl; first | exact c3 rfl | (simp at c3; done))
      · intro c3
        intro ρ hL
        refine awl_skip ?_
        refine awl_nil ?_
        refine blk_normal (hR1 _ _ (.mk ?_))
        have w1 : IntKind.i64.wrap ((i : Int) + 1) = ((i + 1 : Nat) : Int) := by rw [wrap64 (by omega)]; omega
        replace hX := And.intro w1 hX
        revert ρ hL
        refine zS [0, 1, 5] ?_
        intro ρ hL
        refine awl_nil ?_
        refine loop_again _ ?meas ⟨i + 1, rfl, (by omega), (by exact take_succ_eq (d := noPik) hi1 hj i1_1 (by simpa using c3)), ⟨(by simp only [go_sem, simprocAttr, hL, hX, e1]), (hL.2.2)⟩, rfl⟩
        case meas => subst hn; omega
    · intro c2
      intro ρ hL
      refine awl_exit ?_
      refine loop_break ?_
      exact ⟨(by exact eq_of_take (i := i) (by omega) (by omega) i1_1), trivial, rfl⟩
   case after1 =>
    clear hL
    obtain ⟨j1_0, hL, hG⟩ := hJ
    subst hG
    refine zA ?_
    intro K hK
    refine zE [4] ?_
    clear hK K hL
    refine zR ?_
    try simp only [go_sem, simprocAttr]
    all_goals try clear hR1
    all_goals (rw [decide_eq_true j1_0])
theorem sat_laws_szPickS (xs : List Pik) (l : Int) (hb : xs.length ≤ 9223372036854775807) (hl : leftOk l) : Sat Tryz.prog 25 [.sl xs.length xs.length (rows xs), .int .i64 l] [] (.int .i64 (szL l xs.length)) [] := by
 have hX := trivial
 refine sat_mk [.tmp 4] 0 12 Tryz.call25 Tryz.func25 Tryz.ntmps25 rfl rfl rfl rfl rfl ?_
 refine zI [0, 1] ?_
 refine zS [0, 1] ?_
 have hl1 := hl.1
 have hl2 := hl.2
 have w0 : IntKind.i64.wrap (l - (xs.length : Int)) = l - (xs.length : Int) := wrap64 (by omega)
 have hX0 := hX
 replace hX := And.intro w0 hX
 refine zS [1] ?_
 clear hX
 have hX := hX0
 clear hX0
 refine zS [1, 10] ?_
 refine zC ?_ ?_
 · intro c1
   refine zS [4] ?_
   refine zR ?_
   try simp only [go_sem, simprocAttr]
   all_goals (rw [szL, if_pos c1])
 · intro c1
   intro ρ hL
   refine awl_skip ?_
   revert ρ hL
   refine zS [4] ?_
   refine zR ?_
   try simp only [go_sem, simprocAttr]
   all_goals (rw [szL, if_neg c1])
section
attribute [local go_sem] List.length_append List.length_drop List.length_cons mrow_len
theorem sat_laws_markPickS (xs : List Pik) (t : Int) (c : Nat) (hb : xs.length ≤ 1099511627776) (ht : 0 ≤ t ∧ t ≤ 1099511627776) : Sat Tryz.prog 49 [.slice 0 0 xs.length c, .int .i64 t] [⟨2, rows xs, true, false⟩] (.int .i64 (t + (2 * xs.length : Nat))) [⟨2, rows (mrow markP 2 t xs.length), true, false⟩] := by
 have hX := trivial
 refine sat_mk [.tmp 4] 1 27 Tryz.call49 Tryz.func49 Tryz.ntmps49 rfl rfl rfl rfl rfl ?_
 refine zI [0, 1] ?_
 refine zS [0, 1] ?_
 refine zS [0, 1, 5] ?_
 intro ρ hL
 have e1 := hL
 refine awl_loopH (fun H0 n σ G => ∃ (i : Nat), n = xs.length - i ∧ (i ≤ xs.length) ∧ (liveE [0] σ ρ ∧ σ 1 = .int .i64 (t + (2 * i : Nat)) ∧ σ 5 = .int .i64 (i : Int)) ∧ G = [⟨2, rows (mrow markP 2 t i) ++ rows (xs.drop i), true, false⟩]) (fun H0 σ G => (σ 1 = .int .i64 (t + (2 * xs.length : Nat))) ∧ G = [⟨2, rows (mrow markP 2 t xs.length), true, false⟩]) ((fun (i : Nat) => xs.length - i) 0) ?init1 (fun n ρ G hI => ?round1) (fun ρ G hJ => ?after1)
 case init1 => exact ⟨0, rfl, (Nat.zero_le _), ⟨liveE_refl _ _, (by rw [hL.2.1]; simp), (hL.2.2)⟩, rfl⟩
 case round1 =>
  clear hL
  obtain ⟨i, hn, i1_0, hL, hG⟩ := hI
  subst hG
  try simp only [go_sem, simprocAttr, e1, hX] at hL
  revert ρ hL
  refine zS [0, 1, 5, 9] ?_
  refine zC ?_ ?_
  · intro c1
    have hi1 : i < xs.length := by omega
    replace hX := And.intro hi1 hX
    intro ρ hL
    refine awl_skip ?_
    refine awl_seq ?_
    refine awl_block fun R1 hw1 hR1 => ?_
    obtain ⟨s, hs⟩ : ∃ s : Int, s = t + (2 * i : Nat) := ⟨_, rfl⟩
    rw [← hs] at hL
    have hd : rows (xs.drop i) = Enc.cells (xs.getD i noPik) ++ rows (xs.drop (i + 1)) := rows_split hi1
    rw [hd]
    have w1_ : IntKind.i64.wrap (s + 1) = s + 1 := wrap64 (by omega)
    have w2_ : IntKind.i64.wrap (s + 1 + 1) = s + 2 := by rw [wrap64 (by omega)]; omega
    repeat refine awl_seq ?_
    refine awl_regS _ rfl fun K hK => ?_
    try simp only [go_sem, simprocAttr, hL, hX, w1_, w2_, putP0, putP1]
    repeat' refine And.intro (by first | rfl | omega | (simp; done)) ?_
    refine hK _ _ (.mk (awl_live' [0, 1, 5] fun ρ hM => ?_))
    try simp only [go_sem, simprocAttr, hL, hX, w1_, w2_, putP0, putP1] at hM
    clear hK K hL
    revert ρ hM
    intro ρ hL
    repeat refine awl_seq ?_
    refine awl_regS _ rfl fun K hK => ?_
    try simp only [go_sem, simprocAttr, hL, hX, w1_, w2_, putP0, putP1]
    repeat' refine And.intro (by first | rfl | omega | (simp; done)) ?_
    refine hK _ _ (.mk (awl_live' [0, 1, 5] fun ρ hM => ?_))
    try simp only [go_sem, simprocAttr, hL, hX, w1_, w2_, putP0, putP1] at hM
    clear hK K hL
    revert ρ hM
    intro ρ hL
    repeat refine awl_seq ?_
    refine awl_regS _ rfl fun K hK => ?_
    try simp only [go_sem, simprocAttr, hL, hX, w1_, w2_, putP0, putP1]
    repeat' refine And.intro (by first | rfl | omega | (simp; done)) ?_
    refine hK _ _ (.mk (awl_live' [0, 1, 5] fun ρ hM => ?_))
    try simp only [go_sem, simprocAttr, hL, hX, w1_, w2_, putP0, putP1] at hM
    clear hK K hL
    revert ρ hM
    intro ρ hL
    repeat refine awl_seq ?_
    refine awl_regS _ rfl fun K hK => ?_
    try simp only [go_sem, simprocAttr, hL, hX, w1_, w2_, putP0, putP1]
    repeat' refine And.intro (by first | rfl | omega | (simp; done)) ?_
    refine hK _ _ (.mk (awl_live' [0, 1, 5] fun ρ hM => ?_))
    try simp only [go_sem, simprocAttr, hL, hX, w1_, w2_, putP0, putP1] at hM
    clear hK K hL
    revert ρ hM
    intro ρ hL
    refine awl_nil ?_
    refine blk_normal (hR1 _ _ (.mk ?_))
    have w1 : IntKind.i64.wrap ((i : Int) + 1) = ((i + 1 : Nat) : Int) := by rw [wrap64 (by omega)]; omega
    replace hX := And.intro w1 hX
    revert ρ hL
    refine zS [0, 1, 5] ?_
    intro ρ hL
    refine awl_nil ?_
    have h1 := hL.2.1
    refine loop_again _ ?meas ⟨i + 1, rfl, (by omega), ⟨(by simp only [go_sem, simprocAttr, hL, hX, e1]), (by rw [h1]; congr 1; omega), (hL.2.2)⟩, congrArg (fun l => [(⟨2, l, true, false⟩ : Blk)]) (mrow_rows (f := markP) (s := 2) (xs := xs.drop (i + 1)) hs rfl)⟩
    case meas => subst hn; omega
  · intro c1
    intro ρ hL
    refine awl_exit ?_
    refine loop_break ?_
    have h1 := hL.2.1
    exact ⟨(by rw [h1, show i = xs.length by omega]), by rw [show i = xs.length by omega, List.drop_length, rows_nil, List.append_nil]⟩
 case after1 =>
  clear hL
  obtain ⟨hL, hG⟩ := hJ
  subst hG
  revert ρ hL
  refine zS [4] ?_
  refine zK [] [0] ?_ ?_
  all_goals try simp only [go_sem, simprocAttr, hX]
  all_goals try clear hR1
  all_goals (first | done | rfl | (simp; done) | (simp [inR]; done) | (simp_all [inR]; done) | (simp [inR]; grind))
end
end Go.Proofs.YtokjjeibagmgpaaGreat.AM
