/- What the laws make, compare and count of rows and states. No conditions but those each theorem bears. -/
import Derived.Test.YtokjjeibagmgpaaGreatFa
import Derived.Test.YtokjjeibagmgpaaGreatCa6
set_option linter.unusedSimpArgs false
set_option linter.unusedVariables false
namespace Go.Proofs.YtokjjeibagmgpaaGreat.AM
open Go
set_option maxHeartbeats 8000000
set_option maxRecDepth 100000

section
attribute [local go_sem] List.length_append List.length_take List.length_replicate
theorem sat_laws_toWordS (xs : List Word) (hb : xs.length ≤ 1099511627776) : Sat Tryz.prog 60 [.sl xs.length xs.length (rows xs)] [] (.slice 0 0 xs.length 0) [⟨6, rows xs, true, false⟩] := by
 have hX := trivial
 refine sat_mk [.tmp 2] 0 23 Tryz.call60 Tryz.func60 Tryz.ntmps60 rfl rfl rfl rfl rfl ?_
 refine zI [0] ?_
 refine zS [0] ?_
 refine zS [0, 3] ?_
 refine zS [0, 3, 4] ?_
 intro ρ hL
 have e1 := hL
 refine awl_loopH (fun H0 n σ G => ∃ (i : Nat), n = xs.length - i ∧ (i ≤ xs.length) ∧ (liveE [0, 3] σ ρ ∧ σ 4 = .int .i64 (i : Int)) ∧ G = [⟨6, rows (xs.take i ++ List.replicate (xs.length - i) noWord), true, false⟩]) (fun H0 σ G => (liveE [3] σ ρ) ∧ G = [⟨6, rows xs, true, false⟩]) ((fun (i : Nat) => xs.length - i) 0) ?init1 (fun n ρ G hI => ?round1) (fun ρ G hJ => ?after1)
 case init1 => exact ⟨0, rfl, (Nat.zero_le _), ⟨liveE_refl _ _, (hL.2.2)⟩, rfl⟩
 case round1 =>
  clear hL
  obtain ⟨i, hn, i1_0, hL, hG⟩ := hI
  subst hG
  try simp only [go_sem, simprocAttr, e1, hX] at hL
  revert ρ hL
  refine zS [0, 3, 4, 11] ?_
  refine zC ?_ ?_
  · intro c1
    have hi1 : i < xs.length := by omega
    replace hX := And.intro hi1 hX
    intro ρ hL
    refine awl_skip ?_
    refine awl_seq ?_
    refine awl_block fun R1 hw1 hR1 => ?_
    revert ρ hL
    refine zSF [0, 3, 4] (sat_laws_toWord _) ?_
    intro ρ hL
    refine awl_nil ?_
    refine blk_normal (hR1 _ _ (.mk ?_))
    have w1 : IntKind.i64.wrap ((i : Int) + 1) = ((i + 1 : Nat) : Int) := by rw [wrap64 (by omega)]; omega
    replace hX := And.intro w1 hX
    revert ρ hL
    refine zS [0, 3, 4] ?_
    intro ρ hL
    refine awl_nil ?_
    refine loop_again _ ?meas ⟨i + 1, rfl, (by omega), ⟨(by simp only [go_sem, simprocAttr, hL, hX, e1]), (hL.2.2)⟩, by rw [words_put (by simp; omega), set_take (d := noWord) hi1 rfl]⟩
    case meas => subst hn; omega
  · intro c1
    intro ρ hL
    refine awl_exit ?_
    refine loop_break ?_
    exact ⟨(by simp only [go_sem, simprocAttr, hL, hX, e1]), by rw [show i = xs.length by omega]; simp⟩
 case after1 =>
  clear hL
  obtain ⟨hL, hG⟩ := hJ
  subst hG
  try simp only [go_sem, simprocAttr, e1, hX] at hL
  revert ρ hL
  refine zS [2] ?_
  intro ρ hL
  refine awl_ret ?_
  refine ret_wk (Wk.norm [] (RefE.refl.upd hL (Ref.cap _ _ _ _ 0 (Nat.zero_le _)))) ?_
  refine retK [0] [0] rfl (by simp only [go_sem, simprocAttr, hL, hX]; exact rfl) (by decide) (by first | rfl | (simp only [go_sem, simprocAttr, hL, hX]; first | done | rfl)) (by first | rfl | (simp only [go_sem, simprocAttr, hL, hX]; first | done | rfl)) ?_ ?_
  all_goals try simp only [go_sem, simprocAttr, hL, hX]
  all_goals try clear hR1
  all_goals (first | done | rfl | (simp; done) | (simp [inR]; done) | (simp_all [inR]; done) | (simp [inR]; grind))
end
theorem sat_laws_eqWordS (xs : List Word) (ys : List Word) (hb : xs.length ≤ 1099511627776) : Sat Tryz.prog 67 [.sl xs.length xs.length (rows xs), .sl ys.length ys.length (rows ys)] [] (.bool (decide (xs = ys))) [] := by
 have hX := trivial
 refine sat_mk [.tmp 4] 0 27 Tryz.call67 Tryz.func67 Tryz.ntmps67 rfl rfl rfl rfl rfl ?_
 refine zI [0, 1] ?_
 refine zS [0, 1] ?_
 refine zS [0, 1, 10] ?_
 refine zC ?_ ?_
 · intro c1
   refine zS [4] ?_
   refine zR ?_
   try simp only [go_sem, simprocAttr]
   all_goals (rw [decide_eq_false]; rintro rfl; exact c1 rfl)
 · intro c1
   intro ρ hL
   refine awl_skip ?_
   revert ρ hL
   refine zS [0, 1, 5] ?_
   intro ρ hL
   have e1 := hL
   refine awl_loopH (fun H0 n σ G => ∃ (i : Nat), n = xs.length - i ∧ (i ≤ xs.length) ∧ (xs.take i = ys.take i) ∧ (liveE [0, 1] σ ρ ∧ σ 5 = .int .i64 (i : Int)) ∧ G = H0) (fun H0 σ G => (xs = ys) ∧ (True) ∧ G = H0) ((fun (i : Nat) => xs.length - i) 0) ?init1 (fun n ρ G hI => ?round1) (fun ρ G hJ => ?after1)
   case init1 => exact ⟨0, rfl, (Nat.zero_le _), (by simp), ⟨liveE_refl _ _, (hL.2.2)⟩, rfl⟩
   case round1 =>
    clear hL
    obtain ⟨i, hn, i1_0, i1_1, hL, hG⟩ := hI
    subst hG
    try simp only [go_sem, simprocAttr, e1, hX] at hL
    revert ρ hL
    refine zS [0, 1, 5, 14] ?_
    refine zC ?_ ?_
    · intro c2
      have hi1 : i < xs.length := by omega
      replace hX := And.intro hi1 hX
      intro ρ hL
      refine awl_skip ?_
      refine awl_seq ?_
      refine awl_block fun R1 hw1 hR1 => ?_
      have hj : i < ys.length := by omega
      have hX0 := hX
      replace hX := And.intro hj hX
      refine zAD [0, 0, 3, 7, 0, 0, 48, 112, 255, 511] ?_
      intro K hK
      refine zFD [0, 0, 3, 7, 0, 0, 48, 112, 255, 511] (sat_laws_eqWord _ _) ?_
      refine zE [0, 1, 5, 26] ?_
      clear hK K hL
      clear hX
      have hX := hX0
      clear hX0
      refine zC ?_ ?_
      · intro c3
        refine zS [4] ?_
        refine zR ?_
        try simp only [go_sem, simprocAttr]
        all_goals try clear hR1
        all_goals (rw [decide_eq_false]; rintro rfl; first | exact c3 rfl | (simp at c3; done))
      · intro c3
        intro ρ hL
        refine awl_skip ?_
        refine awl_nil ?_
        refine blk_normal (hR1 _ _ (.mk ?_))
        have w1 : IntKind.i64.wrap ((i : Int) + 1) = ((i + 1 : Nat) : Int) := by rw [wrap64 (by omega)]; omega
        replace hX := And.intro w1 hX
        revert ρ hL
        refine zS [0, 1, 5] ?_
        intro ρ hL
        refine awl_nil ?_
        refine loop_again _ ?meas ⟨i + 1, rfl, (by omega), (by exact take_succ_eq (d := noWord) hi1 hj i1_1 (by simpa using c3)), ⟨(by simp only [go_sem, simprocAttr, hL, hX, e1]), (hL.2.2)⟩, rfl⟩
        case meas => subst hn; omega
    · intro c2
      intro ρ hL
      refine awl_exit ?_
      refine loop_break ?_
      exact ⟨(by exact eq_of_take (i := i) (by omega) (by omega) i1_1), trivial, rfl⟩
   case after1 =>
    clear hL
    obtain ⟨j1_0, hL, hG⟩ := hJ
    subst hG
    refine zA ?_
    intro K hK
    refine zE [4] ?_
    clear hK K hL
    refine zR ?_
    try simp only [go_sem, simprocAttr]
    all_goals try clear hR1
    all_goals (rw [decide_eq_true j1_0])
theorem sat_laws_szWordS (xs : List Word) (l : Int) (hb : xs.length ≤ 9223372036854775807) (hl : leftOk l) : Sat Tryz.prog 52 [.sl xs.length xs.length (rows xs), .int .i64 l] [] (.int .i64 (szL l xs.length)) [] := by
 have hX := trivial
 refine sat_mk [.tmp 4] 0 12 Tryz.call52 Tryz.func52 Tryz.ntmps52 rfl rfl rfl rfl rfl ?_
 refine zI [0, 1] ?_
 refine zS [0, 1] ?_
 have hl1 := hl.1
 have hl2 := hl.2
 have w0 : IntKind.i64.wrap (l - (xs.length : Int)) = l - (xs.length : Int) := wrap64 (by omega)
 have hX0 := hX
 replace hX := And.intro w0 hX
 refine zS [1] ?_
 clear hX
 have hX := hX0
 clear hX0
 refine zS [1, 10] ?_
 refine zC ?_ ?_
 · intro c1
   refine zS [4] ?_
   refine zR ?_
   try simp only [go_sem, simprocAttr]
   all_goals (rw [szL, if_pos c1])
 · intro c1
   intro ρ hL
   refine awl_skip ?_
   revert ρ hL
   refine zS [4] ?_
   refine zR ?_
   try simp only [go_sem, simprocAttr]
   all_goals (rw [szL, if_neg c1])
section
attribute [local go_sem] List.length_append List.length_take List.length_replicate
theorem sat_laws_toBoolS (xs : List Bool) (hb : xs.length ≤ 1099511627776) : Sat Tryz.prog 120 [.sl xs.length xs.length (rows xs)] [] (.slice 0 0 xs.length 0) [⟨1, rows xs, true, false⟩] := by
 have hX := trivial
 refine sat_mk [.tmp 2] 0 22 Tryz.call120 Tryz.func120 Tryz.ntmps120 rfl rfl rfl rfl rfl ?_
 refine zI [0] ?_
 refine zS [0] ?_
 refine zS [0, 3] ?_
 refine zS [0, 3, 4] ?_
 intro ρ hL
 have e1 := hL
 refine awl_loopH (fun H0 n σ G => ∃ (i : Nat), n = xs.length - i ∧ (i ≤ xs.length) ∧ (liveE [0, 3] σ ρ ∧ σ 4 = .int .i64 (i : Int)) ∧ G = [⟨1, rows (xs.take i ++ List.replicate (xs.length - i) false), true, false⟩]) (fun H0 σ G => (liveE [3] σ ρ) ∧ G = [⟨1, rows xs, true, false⟩]) ((fun (i : Nat) => xs.length - i) 0) ?init1 (fun n ρ G hI => ?round1) (fun ρ G hJ => ?after1)
 case init1 => exact ⟨0, rfl, (Nat.zero_le _), ⟨liveE_refl _ _, (hL.2.2)⟩, rfl⟩
 case round1 =>
  clear hL
  obtain ⟨i, hn, i1_0, hL, hG⟩ := hI
  subst hG
  try simp only [go_sem, simprocAttr, e1, hX] at hL
  revert ρ hL
  refine zS [0, 3, 4, 11] ?_
  refine zC ?_ ?_
  · intro c1
    have hi1 : i < xs.length := by omega
    replace hX := And.intro hi1 hX
    intro ρ hL
    refine awl_skip ?_
    refine awl_seq ?_
    refine awl_block fun R1 hw1 hR1 => ?_
    revert ρ hL
    refine zS [0, 3, 4] ?_
    intro ρ hL
    refine awl_nil ?_
    refine blk_normal (hR1 _ _ (.mk ?_))
    have w1 : IntKind.i64.wrap ((i : Int) + 1) = ((i + 1 : Nat) : Int) := by rw [wrap64 (by omega)]; omega
    replace hX := And.intro w1 hX
    revert ρ hL
    refine zS [0, 3, 4] ?_
    intro ρ hL
    refine awl_nil ?_
    refine loop_again _ ?meas ⟨i + 1, rfl, (by omega), ⟨(by simp only [go_sem, simprocAttr, hL, hX, e1]), (hL.2.2)⟩, by rw [bools_put (by simp; omega), set_take (d := false) hi1 rfl]⟩
    case meas => subst hn; omega
  · intro c1
    intro ρ hL
    refine awl_exit ?_
    refine loop_break ?_
    exact ⟨(by simp only [go_sem, simprocAttr, hL, hX, e1]), by rw [show i = xs.length by omega]; simp⟩
 case after1 =>
  clear hL
  obtain ⟨hL, hG⟩ := hJ
  subst hG
  try simp only [go_sem, simprocAttr, e1, hX] at hL
  revert ρ hL
  refine zS [2] ?_
  intro ρ hL
  refine awl_ret ?_
  refine ret_wk (Wk.norm [] (RefE.refl.upd hL (Ref.cap _ _ _ _ 0 (Nat.zero_le _)))) ?_
  refine retK [0] [0] rfl (by simp only [go_sem, simprocAttr, hL, hX]; exact rfl) (by decide) (by first | rfl | (simp only [go_sem, simprocAttr, hL, hX]; first | done | rfl)) (by first | rfl | (simp only [go_sem, simprocAttr, hL, hX]; first | done | rfl)) ?_ ?_
  all_goals try simp only [go_sem, simprocAttr, hL, hX]
  all_goals try clear hR1
  all_goals (first | done | rfl | (simp; done) | (simp [inR]; done) | (simp_all [inR]; done) | (simp [inR]; grind))
end
theorem sat_laws_eqBoolS (xs : List Bool) (ys : List Bool) (hb : xs.length ≤ 1099511627776) : Sat Tryz.prog 129 [.sl xs.length xs.length (rows xs), .sl ys.length ys.length (rows ys)] [] (.bool (decide (xs = ys))) [] := by
 have hX := trivial
 refine sat_mk [.tmp 4] 0 26 Tryz.call129 Tryz.func129 Tryz.ntmps129 rfl rfl rfl rfl rfl ?_
 refine zI [0, 1] ?_
 refine zS [0, 1] ?_
 refine zS [0, 1, 10] ?_
 refine zC ?_ ?_
 · intro c1
   refine zS [4] ?_
   refine zR ?_
   try simp only [go_sem, simprocAttr]
   all_goals (rw [decide_eq_false]; rintro rfl; exact c1 rfl)
 · intro c1
   intro ρ hL
   refine awl_skip ?_
   revert ρ hL
   refine zS [0, 1, 5] ?_
   intro ρ hL
   have e1 := hL
   refine awl_loopH (fun H0 n σ G => ∃ (i : Nat), n = xs.length - i ∧ (i ≤ xs.length) ∧ (xs.take i = ys.take i) ∧ (liveE [0, 1] σ ρ ∧ σ 5 = .int .i64 (i : Int)) ∧ G = H0) (fun H0 σ G => (xs = ys) ∧ (True) ∧ G = H0) ((fun (i : Nat) => xs.length - i) 0) ?init1 (fun n ρ G hI => ?round1) (fun ρ G hJ => ?after1)
   case init1 => exact ⟨0, rfl, (Nat.zero_le _), (by simp), ⟨liveE_refl _ _, (hL.2.2)⟩, rfl⟩
   case round1 =>
    clear hL
    obtain ⟨i, hn, i1_0, i1_1, hL, hG⟩ := hI
    subst hG
    try simp only [go_sem, simprocAttr, e1, hX] at hL
    revert ρ hL
    refine zS [0, 1, 5, 14] ?_
    refine zC ?_ ?_
    · intro c2
      have hi1 : i < xs.length := by omega
      replace hX := And.intro hi1 hX
      intro ρ hL
      refine awl_skip ?_
      refine awl_seq ?_
      refine awl_block fun R1 hw1 hR1 => ?_
      have hj : i < ys.length := by omega
      have hX0 := hX
      replace hX := And.intro hj hX
      revert ρ hL
      refine zD [0, 0, 3, 7, 0, 0, 48, 112, 255] [0, 1, 5, 25] ?_
      clear hX
      have hX := hX0
      clear hX0
      refine zC ?_ ?_
      · intro c3
        refine zS [4] ?_
        refine zR ?_
        try simp only [go_sem, simprocAttr]
        all_goals try clear hR1
        all_goals (rw [decide_eq_false]; rintro rfl; first | exact c3 rfl | (simp at c3; done))
      · intro c3
        intro ρ hL
        refine awl_skip ?_
        refine awl_nil ?_
        refine blk_normal (hR1 _ _ (.mk ?_))
        have w1 : IntKind.i64.wrap ((i : Int) + 1) = ((i + 1 : Nat) : Int) := by rw [wrap64 (by omega)]; omega
        replace hX := And.intro w1 hX
        revert ρ hL
        refine zS [0, 1, 5] ?_
        intro ρ hL
        refine awl_nil ?_
        refine loop_again _ ?meas ⟨i + 1, rfl, (by omega), (by exact take_succ_eq (d := false) hi1 hj i1_1 (by simpa using c3)), ⟨(by simp only [go_sem, simprocAttr, hL, hX, e1]), (hL.2.2)⟩, rfl⟩
        case meas => subst hn; omega
    · intro c2
      intro ρ hL
      refine awl_exit ?_
      refine loop_break ?_
      exact ⟨(by exact eq_of_take (i := i) (by omega) (by omega) i1_1), trivial, rfl⟩
   case after1 =>
    clear hL
    obtain ⟨j1_0, hL, hG⟩ := hJ
    subst hG
    refine zA ?_
    intro K hK
    refine zE [4] ?_
    clear hK K hL
    refine zR ?_
    try simp only [go_sem, simprocAttr]
    all_goals try clear hR1
    all_goals (rw [decide_eq_true j1_0])
theorem sat_laws_szBoolS (xs : List Bool) (l : Int) (hb : xs.length ≤ 9223372036854775807) (hl : leftOk l) : Sat Tryz.prog 111 [.sl xs.length xs.length (rows xs), .int .i64 l] [] (.int .i64 (szL l xs.length)) [] := by
 have hX := trivial
 refine sat_mk [.tmp 4] 0 12 Tryz.call111 Tryz.func111 Tryz.ntmps111 rfl rfl rfl rfl rfl ?_
 refine zI [0, 1] ?_
 refine zS [0, 1] ?_
 have hl1 := hl.1
 have hl2 := hl.2
 have w0 : IntKind.i64.wrap (l - (xs.length : Int)) = l - (xs.length : Int) := wrap64 (by omega)
 have hX0 := hX
 replace hX := And.intro w0 hX
 refine zS [1] ?_
 clear hX
 have hX := hX0
 clear hX0
 refine zS [1, 10] ?_
 refine zC ?_ ?_
 · intro c1
   refine zS [4] ?_
   refine zR ?_
   try simp only [go_sem, simprocAttr]
   all_goals (rw [szL, if_pos c1])
 · intro c1
   intro ρ hL
   refine awl_skip ?_
   revert ρ hL
   refine zS [4] ?_
   refine zR ?_
   try simp only [go_sem, simprocAttr]
   all_goals (rw [szL, if_neg c1])
theorem sat_laws_szMemory (m : Mem) (l : Int) (hb : m.sm) (hl : leftOk l) : Sat Tryz.prog 53 [.agg m.cells, .int .i64 l] [] (.int .i64 (szM l m)) [] := by
 have hX := trivial
 refine sat_mk [.tmp 4] 0 18 Tryz.call53 Tryz.func53 Tryz.ntmps53 rfl rfl rfl rfl rfl ?_
 refine zI [0, 1] ?_
 refine zS [1, 2] ?_
 refine zSF [1, 2] (sat_laws_szWordS m.words l hb.1 hl) ?_
 refine zS [1, 2, 10] ?_
 refine zC ?_ ?_
 · intro c1
   refine zS [4] ?_
   refine zR ?_
   try simp only [go_sem, simprocAttr]
   all_goals (rw [szM, if_pos c1])
 · intro c1
   intro ρ hL
   refine awl_skip ?_
   revert ρ hL
   refine zSF [1] (sat_laws_szBoolS m.gone _ hb.2 (szL_ok hl c1).2) ?_
   refine zS [1, 16] ?_
   refine zC ?_ ?_
   · intro c2
     refine zS [4] ?_
     refine zR ?_
     try simp only [go_sem, simprocAttr]
     all_goals (rw [szM, if_neg c1, if_pos c2])
   · intro c2
     intro ρ hL
     refine awl_skip ?_
     revert ρ hL
     refine zS [4] ?_
     refine zR ?_
     try simp only [go_sem, simprocAttr]
     all_goals (rw [szM, if_neg c1, if_neg c2])
theorem sat_laws_szState (s : Stt) (l : Int) (hb : s.sm) (hl : leftOk l) : Sat Tryz.prog 13 [.agg s.cells, .int .i64 l] [] (.int .i64 (szS l s)) [] := by
 have hX := trivial
 refine sat_mk [.tmp 4] 0 18 Tryz.call13 Tryz.func13 Tryz.ntmps13 rfl rfl rfl rfl rfl ?_
 refine zI [0, 1] ?_
 refine zS [1, 2] ?_
 refine zSF [1, 2] (sat_laws_szWordS s.regs l hb.1 hl) ?_
 refine zS [1, 2, 10] ?_
 refine zC ?_ ?_
 · intro c1
   refine zS [4] ?_
   refine zR ?_
   try simp only [go_sem, simprocAttr]
   all_goals (rw [szS, if_pos c1])
 · intro c1
   intro ρ hL
   refine awl_skip ?_
   revert ρ hL
   refine zSF [1] (sat_laws_szMemory s.mem _ hb.2 (szL_ok hl c1).2) ?_
   refine zS [1, 16] ?_
   refine zC ?_ ?_
   · intro c2
     refine zS [4] ?_
     refine zR ?_
     try simp only [go_sem, simprocAttr]
     all_goals (rw [szS, if_neg c1, if_pos c2])
   · intro c2
     intro ρ hL
     refine awl_skip ?_
     revert ρ hL
     refine zS [4] ?_
     refine zR ?_
     try simp only [go_sem, simprocAttr]
     all_goals (rw [szS, if_neg c1, if_neg c2])
theorem sat_laws_toMemory (m : Mem) (hb : m.fit) : Sat Tryz.prog 62 [.agg m.cells] [] (.agg (m.own 0 1)) m.blks := by
 have hX := trivial
 refine sat_mk [.cell 2 40] 0 13 Tryz.call62 Tryz.func62 Tryz.ntmps62 rfl rfl rfl rfl rfl ?_
 refine zI [0] ?_
 refine zS [1, 2] ?_
 refine zS [1, 2, 3] ?_
 refine zSF [1, 2, 3] (sat_laws_toWordS m.words (Nat.le_trans hb.1 (by decide))) ?_
 refine zSF [2, 3] (sat_laws_toBoolS m.gone (Nat.le_trans hb.2 (by decide))) ?_
 refine zS [2] ?_
 refine zK [3, 4] [3, 4] ?_ ?_
 all_goals try simp only [go_sem, simprocAttr, hX]
 all_goals (first | done | rfl | (simp; done) | (simp [inR]; done) | (simp_all [inR]; done) | (simp [inR]; grind))
theorem sat_laws_toState (s : Stt) (hb : s.fit) : Sat Tryz.prog 16 [.agg s.cells] [] (.agg (s.own 0 1 2)) s.blks := by
 have hX := trivial
 refine sat_mk [.cell 2 42] 0 20 Tryz.call16 Tryz.func16 Tryz.ntmps16 rfl rfl rfl rfl rfl ?_
 refine zI [0] ?_
 refine zS [1, 2] ?_
 refine zS [1, 2, 3] ?_
 refine zSF [1, 2, 3] (sat_laws_toWordS s.regs (Nat.le_trans hb.1 (by decide))) ?_
 refine zSF [1, 2, 3] (sat_laws_toWord s.pc) ?_
 refine zSF [1, 2, 3] (sat_laws_toMemory s.mem hb.2) ?_
 refine zS [2, 3] ?_
 refine zS [2] ?_
 refine zK [3, 4, 5] [3, 4, 5] ?_ ?_
 all_goals try simp only [go_sem, simprocAttr, hX]
 all_goals (first | done | rfl | (simp; done) | (simp [inR]; done) | (simp_all [inR]; done) | (simp [inR]; grind))
theorem sat_laws_eqMemory (m : Mem) (n : Mem) (hb : m.fit) : Sat Tryz.prog 69 [.agg m.cells, .agg n.cells] [] (.bool (decide (m = n))) [] := by
 have hX := trivial
 refine sat_mk [.tmp 4] 0 17 Tryz.call69 Tryz.func69 Tryz.ntmps69 rfl rfl rfl rfl rfl ?_
 refine zI [0, 1] ?_
 refine zS [2, 3] ?_
 refine zSF [2, 3, 10] (sat_laws_eqWordS m.words n.words (Nat.le_trans hb.1 (by decide))) ?_
 refine zC ?_ ?_
 · intro c1
   refine zS [4] ?_
   refine zR ?_
   try simp only [go_sem, simprocAttr]
   all_goals (rw [decide_eq_false]; rintro rfl; first | exact c1 rfl | exact c2 rfl | exact c3 rfl | exact c4 rfl | exact c5 rfl | exact c6 rfl | exact c7 rfl | (simp at c1; done) | (simp at c2; done) | (simp at c3; done) | (simp at c4; done)| (simp at c5; done))
 · intro c1
   intro ρ hL
   refine awl_skip ?_
   revert ρ hL
   refine zSF [16] (sat_laws_eqBoolS m.gone n.gone (Nat.le_trans hb.2 (by decide))) ?_
   refine zC ?_ ?_
   · intro c2
     refine zS [4] ?_
     refine zR ?_
     try simp only [go_sem, simprocAttr]
     all_goals (rw [decide_eq_false]; rintro rfl; first | exact c1 rfl | exact c2 rfl | exact c3 rfl | exact c4 rfl | exact c5 rfl | exact c6 rfl | exact c7 rfl | (simp at c1; done) | (simp at c2; done) | (simp at c3; done) | (simp at c4; done)| (simp at c5; done))
   · intro c2
     intro ρ hL
     refine awl_skip ?_
     revert ρ hL
     refine zS [4] ?_
     refine zR ?_
     try simp only [go_sem, simprocAttr]
     all_goals (rw [decide_eq_true]; cases m; cases n; simp_all)
theorem sat_laws_eqState (s : Stt) (t : Stt) (hb : s.fit) : Sat Tryz.prog 18 [.agg s.cells, .agg t.cells] [] (.bool (decide (s = t))) [] := by
 have hX := trivial
 refine sat_mk [.tmp 4] 0 28 Tryz.call18 Tryz.func18 Tryz.ntmps18 rfl rfl rfl rfl rfl ?_
 refine zI [0, 1] ?_
 refine zS [2, 3] ?_
 refine zSF [2, 3, 10] (sat_laws_eqWordS s.regs t.regs (Nat.le_trans hb.1 (by decide))) ?_
 refine zC ?_ ?_
 · intro c1
   refine zS [4] ?_
   refine zR ?_
   try simp only [go_sem, simprocAttr]
   all_goals (rw [decide_eq_false]; rintro rfl; first | exact c1 rfl | exact c2 rfl | exact c3 rfl | exact c4 rfl | exact c5 rfl | exact c6 rfl | exact c7 rfl | (simp at c1; done) | (simp at c2; done) | (simp at c3; done) | (simp at c4; done)| (simp at c5; done))
 · intro c1
   intro ρ hL
   refine awl_skip ?_
   revert ρ hL
   refine zSF [2, 3, 16] (sat_laws_eqWord s.pc t.pc) ?_
   refine zC ?_ ?_
   · intro c2
     refine zS [4] ?_
     refine zR ?_
     try simp only [go_sem, simprocAttr]
     all_goals (rw [decide_eq_false]; rintro rfl; first | exact c1 rfl | exact c2 rfl | exact c3 rfl | exact c4 rfl | exact c5 rfl | exact c6 rfl | exact c7 rfl | (simp at c1; done) | (simp at c2; done) | (simp at c3; done) | (simp at c4; done)| (simp at c5; done))
   · intro c2
     intro ρ hL
     refine awl_skip ?_
     revert ρ hL
     refine zSF [2, 3, 22] (sat_laws_eqMemory s.mem t.mem hb.2) ?_
     refine zC ?_ ?_
     · intro c3
       refine zS [4] ?_
       refine zR ?_
       try simp only [go_sem, simprocAttr]
       all_goals (rw [decide_eq_false]; rintro rfl; first | exact c1 rfl | exact c2 rfl | exact c3 rfl | exact c4 rfl | exact c5 rfl | exact c6 rfl | exact c7 rfl | (simp at c1; done) | (simp at c2; done) | (simp at c3; done) | (simp at c4; done)| (simp at c5; done))
     · intro c3
       intro ρ hL
       refine awl_skip ?_
       revert ρ hL
       refine zS [27] ?_
       refine zC ?_ ?_
       · intro c4
         refine zS [4] ?_
         refine zR ?_
         try simp only [go_sem, simprocAttr]
         all_goals (rw [decide_eq_false]; rintro rfl; first | exact c1 rfl | exact c2 rfl | exact c3 rfl | exact c4 rfl | exact c5 rfl | exact c6 rfl | exact c7 rfl | (simp at c1; done) | (simp at c2; done) | (simp at c3; done) | (simp at c4; done)| (simp at c5; done))
       · intro c4
         intro ρ hL
         refine awl_skip ?_
         revert ρ hL
         refine zS [4] ?_
         refine zR ?_
         try simp only [go_sem, simprocAttr]
         all_goals (rw [decide_eq_true]; cases s; cases t; simp_all)
theorem sat_slices_Equal_impl_Word_impl_Word (xs : List Word) (ys : List Word) (hb : xs.length ≤ 1099511627776) : Sat Tryz.prog 138 [.sl xs.length xs.length (rows xs), .sl ys.length ys.length (rows ys)] [] (.bool (decide (xs = ys))) [] := by
 have hX := trivial
 refine sat_mk [.tmp 4] 0 26 Tryz.call138 Tryz.func138 Tryz.ntmps138 rfl rfl rfl rfl rfl ?_
 refine zI [0, 1] ?_
 refine zS [0, 1] ?_
 refine zS [0, 1, 10] ?_
 refine zC ?_ ?_
 · intro c1
   refine zS [4] ?_
   refine zR ?_
   try simp only [go_sem, simprocAttr]
   all_goals (rw [decide_eq_false]; rintro rfl; exact c1 rfl)
 · intro c1
   intro ρ hL
   refine awl_skip ?_
   revert ρ hL
   refine zS [0, 1, 12, 13] ?_
   intro ρ hL
   have e1 := hL
   refine awl_loopH (fun H0 n σ G => ∃ (i : Nat), n = xs.length - i ∧ (i ≤ xs.length) ∧ (xs.take i = ys.take i) ∧ (liveE [0, 1, 12] σ ρ ∧ σ 13 = .int .i64 (i : Int)) ∧ G = H0) (fun H0 σ G => (xs = ys) ∧ (True) ∧ G = H0) ((fun (i : Nat) => xs.length - i) 0) ?init1 (fun n ρ G hI => ?round1) (fun ρ G hJ => ?after1)
   case init1 => exact ⟨0, rfl, (Nat.zero_le _), (by simp), ⟨liveE_refl _ _, (hL.2.2.2)⟩, rfl⟩
   case round1 =>
    clear hL
    obtain ⟨i, hn, i1_0, i1_1, hL, hG⟩ := hI
    subst hG
    try simp only [go_sem, simprocAttr, e1, hX] at hL
    revert ρ hL
    refine zS [0, 1, 12, 13, 14] ?_
    refine zC ?_ ?_
    · intro c2
      have hi1 : i < xs.length := by omega
      replace hX := And.intro hi1 hX
      intro ρ hL
      refine awl_skip ?_
      refine awl_seq ?_
      refine awl_block fun R1 hw1 hR1 => ?_
      revert ρ hL
      refine zS [0, 1, 5, 12, 13] ?_
      have hj : i < ys.length := by omega
      have hX0 := hX
      replace hX := And.intro hj hX
      refine zD [0, 0, 3, 7, 0, 0, 48, 112, 255] [0, 1, 12, 13, 24] ?_
      clear hX
      have hX := hX0
      clear hX0
      refine zC ?_ ?_
      · intro c3
        refine zS [4] ?_
        refine zR ?_
        try simp only [go_sem, simprocAttr]
        all_goals try clear hR1
        all_goals (rw [decide_eq_false]; rintro rfl; simp at c3)
      · intro c3
        intro ρ hL
        refine awl_skip ?_
        refine awl_nil ?_
        refine blk_normal (hR1 _ _ (.mk ?_))
        have w1 : IntKind.i64.wrap ((i : Int) + 1) = ((i + 1 : Nat) : Int) := by rw [wrap64 (by omega)]; omega
        replace hX := And.intro w1 hX
        revert ρ hL
        refine zS [0, 1, 12, 13] ?_
        intro ρ hL
        refine awl_nil ?_
        refine loop_again _ ?meas ⟨i + 1, rfl, (by omega), (by exact take_succ_eq (d := noWord) hi1 hj i1_1 (by simpa [word_eq] using c3)), ⟨(by simp only [go_sem, simprocAttr, hL, hX, e1]), (hL.2.2.2)⟩, rfl⟩
        case meas => subst hn; omega
    · intro c2
      intro ρ hL
      refine awl_exit ?_
      refine loop_break ?_
      exact ⟨(by exact eq_of_take (i := i) (by omega) (by omega) i1_1), trivial, rfl⟩
   case after1 =>
    clear hL
    obtain ⟨j1_0, hL, hG⟩ := hJ
    subst hG
    refine zA ?_
    intro K hK
    refine zE [4] ?_
    clear hK K hL
    refine zR ?_
    try simp only [go_sem, simprocAttr]
    all_goals try clear hR1
    all_goals (rw [decide_eq_true j1_0])
theorem sat_slices_Equal_bool_bool (xs : List Bool) (ys : List Bool) (hb : xs.length ≤ 1099511627776) : Sat Tryz.prog 139 [.sl xs.length xs.length (rows xs), .sl ys.length ys.length (rows ys)] [] (.bool (decide (xs = ys))) [] := by
 have hX := trivial
 refine sat_mk [.tmp 4] 0 26 Tryz.call139 Tryz.func139 Tryz.ntmps139 rfl rfl rfl rfl rfl ?_
 refine zI [0, 1] ?_
 refine zS [0, 1] ?_
 refine zS [0, 1, 10] ?_
 refine zC ?_ ?_
 · intro c1
   refine zS [4] ?_
   refine zR ?_
   try simp only [go_sem, simprocAttr]
   all_goals (rw [decide_eq_false]; rintro rfl; exact c1 rfl)
 · intro c1
   intro ρ hL
   refine awl_skip ?_
   revert ρ hL
   refine zS [0, 1, 12, 13] ?_
   intro ρ hL
   have e1 := hL
   refine awl_loopH (fun H0 n σ G => ∃ (i : Nat), n = xs.length - i ∧ (i ≤ xs.length) ∧ (xs.take i = ys.take i) ∧ (liveE [0, 1, 12] σ ρ ∧ σ 13 = .int .i64 (i : Int)) ∧ G = H0) (fun H0 σ G => (xs = ys) ∧ (True) ∧ G = H0) ((fun (i : Nat) => xs.length - i) 0) ?init1 (fun n ρ G hI => ?round1) (fun ρ G hJ => ?after1)
   case init1 => exact ⟨0, rfl, (Nat.zero_le _), (by simp), ⟨liveE_refl _ _, (hL.2.2.2)⟩, rfl⟩
   case round1 =>
    clear hL
    obtain ⟨i, hn, i1_0, i1_1, hL, hG⟩ := hI
    subst hG
    try simp only [go_sem, simprocAttr, e1, hX] at hL
    revert ρ hL
    refine zS [0, 1, 12, 13, 14] ?_
    refine zC ?_ ?_
    · intro c2
      have hi1 : i < xs.length := by omega
      replace hX := And.intro hi1 hX
      intro ρ hL
      refine awl_skip ?_
      refine awl_seq ?_
      refine awl_block fun R1 hw1 hR1 => ?_
      revert ρ hL
      refine zS [0, 1, 5, 12, 13] ?_
      have hj : i < ys.length := by omega
      have hX0 := hX
      replace hX := And.intro hj hX
      refine zD [0, 0, 3, 7, 0, 0, 48, 112, 255] [0, 1, 12, 13, 24] ?_
      clear hX
      have hX := hX0
      clear hX0
      refine zC ?_ ?_
      · intro c3
        refine zS [4] ?_
        refine zR ?_
        try simp only [go_sem, simprocAttr]
        all_goals try clear hR1
        all_goals (rw [decide_eq_false]; rintro rfl; simp at c3)
      · intro c3
        intro ρ hL
        refine awl_skip ?_
        refine awl_nil ?_
        refine blk_normal (hR1 _ _ (.mk ?_))
        have w1 : IntKind.i64.wrap ((i : Int) + 1) = ((i + 1 : Nat) : Int) := by rw [wrap64 (by omega)]; omega
        replace hX := And.intro w1 hX
        revert ρ hL
        refine zS [0, 1, 12, 13] ?_
        intro ρ hL
        refine awl_nil ?_
        refine loop_again _ ?meas ⟨i + 1, rfl, (by omega), (by exact take_succ_eq (d := false) hi1 hj i1_1 (by simpa [word_eq] using c3)), ⟨(by simp only [go_sem, simprocAttr, hL, hX, e1]), (hL.2.2.2)⟩, rfl⟩
        case meas => subst hn; omega
    · intro c2
      intro ρ hL
      refine awl_exit ?_
      refine loop_break ?_
      exact ⟨(by exact eq_of_take (i := i) (by omega) (by omega) i1_1), trivial, rfl⟩
   case after1 =>
    clear hL
    obtain ⟨j1_0, hL, hG⟩ := hJ
    subst hG
    refine zA ?_
    intro K hK
    refine zE [4] ?_
    clear hK K hL
    refine zR ?_
    try simp only [go_sem, simprocAttr]
    all_goals try clear hR1
    all_goals (rw [decide_eq_true j1_0])
theorem sat_spec_l17Words (xs : List Word) (ys : List Word) (hb : xs.length ≤ 1099511627776) : Sat Tryz.prog 133 [.sl xs.length xs.length (rows xs), .sl ys.length ys.length (rows ys)] [] (.bool (decide (xs = ys))) [] := by
 have hX := trivial
 refine sat_mk [.tmp 4] 0 32 Tryz.call133 Tryz.func133 Tryz.ntmps133 rfl rfl rfl rfl rfl ?_
 refine zI [0, 1] ?_
 refine zS [0, 1] ?_
 refine zS [0, 1, 5] ?_
 intro ρ hL
 have e1 := hL
 refine awl_loopH (fun H0 n σ G => ∃ (i : Nat), n = (min xs.length ys.length) - i ∧ (i ≤ (min xs.length ys.length)) ∧ (xs.take i = ys.take i) ∧ (liveE [0, 1] σ ρ ∧ σ 5 = .int .i64 (i : Int)) ∧ G = H0) (fun H0 σ G => (xs.length = ys.length → xs = ys) ∧ (liveE [0, 1] σ ρ) ∧ G = H0) ((fun (i : Nat) => (min xs.length ys.length) - i) 0) ?init1 (fun n ρ G hI => ?round1) (fun ρ G hJ => ?after1)
 case init1 => exact ⟨0, rfl, (Nat.zero_le _), (by simp), ⟨liveE_refl _ _, (hL.2.2)⟩, rfl⟩
 case round1 =>
  clear hL
  obtain ⟨i, hn, i1_0, i1_1, hL, hG⟩ := hI
  subst hG
  try simp only [go_sem, simprocAttr, e1, hX] at hL
  refine zA ?_
  intro K hK
  refine zL [0, 1, 5, 10] ?_
  clear hL
  intro ρ hL
  refine grp_andN (tc := 10) (tv := 14) (td := 15) (v := ?v1) 4 rfl [0, 1, 5] hL.2.2.2 rfl (fun hb K1 hK1 => ?run) (fun hb => ?skip) (fun ρ hP hM => ?_)
  case skip => exact skA (want := true) (b := _) (by rw [hb]; rfl) hL.2.2.2 rfl
  case run =>
   simp only [List.take_succ_cons, List.take_zero]
   rw [hb] at hL
   try simp only [go_sem, simprocAttr, hL, hX]
   repeat' refine And.intro (by first | rfl | omega | (simp; done)) ?_
   refine hK1 _ ?_ ?_ ?_ <;> simp only [go_sem, simprocAttr, hL, hX] <;> exact rfl
  simp only [List.drop_succ_cons, List.drop_zero]
  try simp only [go_sem, simprocAttr, hL, hX] at hM
  replace hL := And.intro hP hM
  clear hP hM
  try simp only [go_sem, simprocAttr, hL, hX]
  repeat' refine And.intro (by first | rfl | omega | (simp; done)) ?_
  refine zE [0, 1, 5, 15] ?_
  clear hK K hL
  refine zC ?_ ?_
  · intro c1
    have hi1 : i < (min xs.length ys.length) := by omega
    replace hX := And.intro hi1 hX
    intro ρ hL
    refine awl_skip ?_
    refine awl_seq ?_
    refine awl_block fun R1 hw1 hR1 => ?_
    have hx : i < xs.length := by omega
    have hy : i < ys.length := by omega
    have hX0 := hX
    replace hX := And.intro hx (And.intro hy hX)
    revert ρ hL
    refine zD [0, 0, 3, 7, 0, 0, 48, 112, 255] [0, 1, 5, 26] ?_
    clear hX
    have hX := hX0
    clear hX0
    refine zC ?_ ?_
    · intro c2
      refine zS [4] ?_
      refine zR ?_
      try simp only [go_sem, simprocAttr]
      all_goals try clear hR1
      all_goals (rw [decide_eq_false]; rintro rfl; simp at c2)
    · intro c2
      intro ρ hL
      refine awl_skip ?_
      refine awl_nil ?_
      refine blk_normal (hR1 _ _ (.mk ?_))
      have w1 : IntKind.i64.wrap ((i : Int) + 1) = ((i + 1 : Nat) : Int) := by rw [wrap64 (by omega)]; omega
      replace hX := And.intro w1 hX
      revert ρ hL
      refine zS [0, 1, 5] ?_
      intro ρ hL
      refine awl_nil ?_
      refine loop_again _ ?meas ⟨i + 1, rfl, (by omega), (by exact take_succ_eq (d := noWord) hx hy i1_1 (by simpa [word_eq] using c2)), ⟨(by simp only [go_sem, simprocAttr, hL, hX, e1]), (hL.2.2)⟩, rfl⟩
      case meas => subst hn; omega
  · intro c1
    intro ρ hL
    refine awl_exit ?_
    refine loop_break ?_
    exact ⟨(by exact fun hl => eq_of_take (i := i) (by omega) (by omega) i1_1), (by simp only [go_sem, simprocAttr, hL, hX, e1]), rfl⟩
 case after1 =>
  clear hL
  obtain ⟨j1_0, hL, hG⟩ := hJ
  subst hG
  try simp only [go_sem, simprocAttr, e1, hX] at hL
  revert ρ hL
  refine zS [4] ?_
  refine zR ?_
  try simp only [go_sem, simprocAttr]
  all_goals try clear hR1
  all_goals (rw [AV.bool.injEq, decide_eq_decide]; exact ⟨fun h => j1_0 (by omega), fun h => by rw [h]⟩)
end Go.Proofs.YtokjjeibagmgpaaGreat.AM
