/- What the laws make, compare and count of entries and cores. No conditions but those each theorem bears. -/
import Derived.Test.YtokjjeibagmgpaaGreatFa
import Derived.Test.YtokjjeibagmgpaaGreatM5
import Derived.Test.YtokjjeibagmgpaaGreatCa11t
import Derived.Test.YtokjjeibagmgpaaGreatCa7
set_option linter.unusedSimpArgs false
set_option linter.unusedVariables false
namespace Go.Proofs.YtokjjeibagmgpaaGreat.AM
open Go
set_option maxHeartbeats 8000000
set_option maxRecDepth 100000

theorem sat_laws_eqIns (a : Ins) (b : Ins)  : Sat Tryz.prog 70 [.agg a.cells, .agg b.cells] [] (.bool (decide (a = b))) [] := by
 have hX := trivial
 refine sat_mk [.tmp 4] 0 30 Tryz.call70 Tryz.func70 Tryz.ntmps70 rfl rfl rfl rfl rfl ?_
 refine zI [0, 1] ?_
 refine zS [2, 3] ?_
 refine zS [2, 3, 9] ?_
 refine zC ?_ ?_
 · intro c1
   refine zS [4] ?_
   refine zR ?_
   try simp only [go_sem, simprocAttr]
   all_goals (rw [decide_eq_false]; rintro rfl; first | exact c1 rfl | exact c2 rfl | exact c3 rfl | exact c4 rfl | exact c5 rfl | exact c6 rfl | exact c7 rfl | (simp at c1; done) | (simp at c2; done) | (simp at c3; done) | (simp at c4; done)| (simp at c5; done) | (simp at c6; done) | (simp at c7; done))
 · intro c1
   intro ρ hL
   refine awl_skip ?_
   revert ρ hL
   refine zS [2, 3, 14] ?_
   refine zC ?_ ?_
   · intro c2
     refine zS [4] ?_
     refine zR ?_
     try simp only [go_sem, simprocAttr]
     all_goals (rw [decide_eq_false]; rintro rfl; first | exact c1 rfl | exact c2 rfl | exact c3 rfl | exact c4 rfl | exact c5 rfl | exact c6 rfl | exact c7 rfl | (simp at c1; done) | (simp at c2; done) | (simp at c3; done) | (simp at c4; done)| (simp at c5; done) | (simp at c6; done) | (simp at c7; done))
   · intro c2
     intro ρ hL
     refine awl_skip ?_
     revert ρ hL
     refine zS [2, 3, 19] ?_
     refine zC ?_ ?_
     · intro c3
       refine zS [4] ?_
       refine zR ?_
       try simp only [go_sem, simprocAttr]
       all_goals (rw [decide_eq_false]; rintro rfl; first | exact c1 rfl | exact c2 rfl | exact c3 rfl | exact c4 rfl | exact c5 rfl | exact c6 rfl | exact c7 rfl | (simp at c1; done) | (simp at c2; done) | (simp at c3; done) | (simp at c4; done)| (simp at c5; done) | (simp at c6; done) | (simp at c7; done))
     · intro c3
       intro ρ hL
       refine awl_skip ?_
       revert ρ hL
       refine zS [2, 3, 24] ?_
       refine zC ?_ ?_
       · intro c4
         refine zS [4] ?_
         refine zR ?_
         try simp only [go_sem, simprocAttr]
         all_goals (rw [decide_eq_false]; rintro rfl; first | exact c1 rfl | exact c2 rfl | exact c3 rfl | exact c4 rfl | exact c5 rfl | exact c6 rfl | exact c7 rfl | (simp at c1; done) | (simp at c2; done) | (simp at c3; done) | (simp at c4; done)| (simp at c5; done) | (simp at c6; done) | (simp at c7; done))
       · intro c4
         intro ρ hL
         refine awl_skip ?_
         revert ρ hL
         refine zS [29] ?_
         refine zC ?_ ?_
         · intro c5
           refine zS [4] ?_
           refine zR ?_
           try simp only [go_sem, simprocAttr]
           all_goals (rw [decide_eq_false]; rintro rfl; first | exact c1 rfl | exact c2 rfl | exact c3 rfl | exact c4 rfl | exact c5 rfl | exact c6 rfl | exact c7 rfl | (simp at c1; done) | (simp at c2; done) | (simp at c3; done) | (simp at c4; done)| (simp at c5; done) | (simp at c6; done) | (simp at c7; done))
         · intro c5
           intro ρ hL
           refine awl_skip ?_
           revert ρ hL
           refine zS [4] ?_
           refine zR ?_
           try simp only [go_sem, simprocAttr]
           all_goals (rw [decide_eq_true]; cases a; cases b; simp_all)
theorem sat_laws_eqEffect (a : Fx) (b : Fx)  : Sat Tryz.prog 212 [.agg a.cells, .agg b.cells] [] (.bool (decide (a = b))) [] := by
 have hX := trivial
 refine sat_mk [.tmp 4] 0 43 Tryz.call212 Tryz.func212 Tryz.ntmps212 rfl rfl rfl rfl rfl ?_
 refine zI [0, 1] ?_
 refine zS [2, 3] ?_
 refine zS [2, 3, 9] ?_
 refine zC ?_ ?_
 · intro c1
   refine zS [4] ?_
   refine zR ?_
   try simp only [go_sem, simprocAttr]
   all_goals (rw [decide_eq_false]; rintro rfl; first | exact c1 rfl | exact c2 rfl | exact c3 rfl | exact c4 rfl | exact c5 rfl | exact c6 rfl | exact c7 rfl | (simp at c1; done) | (simp at c2; done) | (simp at c3; done) | (simp at c4; done)| (simp at c5; done) | (simp at c6; done) | (simp at c7; done))
 · intro c1
   intro ρ hL
   refine awl_skip ?_
   revert ρ hL
   refine zS [2, 3, 14] ?_
   refine zC ?_ ?_
   · intro c2
     refine zS [4] ?_
     refine zR ?_
     try simp only [go_sem, simprocAttr]
     all_goals (rw [decide_eq_false]; rintro rfl; first | exact c1 rfl | exact c2 rfl | exact c3 rfl | exact c4 rfl | exact c5 rfl | exact c6 rfl | exact c7 rfl | (simp at c1; done) | (simp at c2; done) | (simp at c3; done) | (simp at c4; done)| (simp at c5; done) | (simp at c6; done) | (simp at c7; done))
   · intro c2
     intro ρ hL
     refine awl_skip ?_
     revert ρ hL
     refine zSF [2, 3, 20] (sat_laws_eqWord a.val b.val) ?_
     refine zC ?_ ?_
     · intro c3
       refine zS [4] ?_
       refine zR ?_
       try simp only [go_sem, simprocAttr]
       all_goals (rw [decide_eq_false]; rintro rfl; first | exact c1 rfl | exact c2 rfl | exact c3 rfl | exact c4 rfl | exact c5 rfl | exact c6 rfl | exact c7 rfl | (simp at c1; done) | (simp at c2; done) | (simp at c3; done) | (simp at c4; done)| (simp at c5; done) | (simp at c6; done) | (simp at c7; done))
     · intro c3
       intro ρ hL
       refine awl_skip ?_
       revert ρ hL
       refine zSF [2, 3, 26] (sat_laws_eqWord a.next b.next) ?_
       refine zC ?_ ?_
       · intro c4
         refine zS [4] ?_
         refine zR ?_
         try simp only [go_sem, simprocAttr]
         all_goals (rw [decide_eq_false]; rintro rfl; first | exact c1 rfl | exact c2 rfl | exact c3 rfl | exact c4 rfl | exact c5 rfl | exact c6 rfl | exact c7 rfl | (simp at c1; done) | (simp at c2; done) | (simp at c3; done) | (simp at c4; done)| (simp at c5; done) | (simp at c6; done) | (simp at c7; done))
       · intro c4
         intro ρ hL
         refine awl_skip ?_
         revert ρ hL
         refine zS [2, 3, 31] ?_
         refine zC ?_ ?_
         · intro c5
           refine zS [4] ?_
           refine zR ?_
           try simp only [go_sem, simprocAttr]
           all_goals (rw [decide_eq_false]; rintro rfl; first | exact c1 rfl | exact c2 rfl | exact c3 rfl | exact c4 rfl | exact c5 rfl | exact c6 rfl | exact c7 rfl | (simp at c1; done) | (simp at c2; done) | (simp at c3; done) | (simp at c4; done)| (simp at c5; done) | (simp at c6; done) | (simp at c7; done))
         · intro c5
           intro ρ hL
           refine awl_skip ?_
           revert ρ hL
           refine zSF [2, 3, 37] (sat_laws_eqWord a.put b.put) ?_
           refine zC ?_ ?_
           · intro c6
             refine zS [4] ?_
             refine zR ?_
             try simp only [go_sem, simprocAttr]
             all_goals (rw [decide_eq_false]; rintro rfl; first | exact c1 rfl | exact c2 rfl | exact c3 rfl | exact c4 rfl | exact c5 rfl | exact c6 rfl | exact c7 rfl | (simp at c1; done) | (simp at c2; done) | (simp at c3; done) | (simp at c4; done)| (simp at c5; done) | (simp at c6; done) | (simp at c7; done))
           · intro c6
             intro ρ hL
             refine awl_skip ?_
             revert ρ hL
             refine zS [42] ?_
             refine zC ?_ ?_
             · intro c7
               refine zS [4] ?_
               refine zR ?_
               try simp only [go_sem, simprocAttr]
               all_goals (rw [decide_eq_false]; rintro rfl; first | exact c1 rfl | exact c2 rfl | exact c3 rfl | exact c4 rfl | exact c5 rfl | exact c6 rfl | exact c7 rfl | (simp at c1; done) | (simp at c2; done) | (simp at c3; done) | (simp at c4; done)| (simp at c5; done) | (simp at c6; done) | (simp at c7; done))
             · intro c7
               intro ρ hL
               refine awl_skip ?_
               revert ρ hL
               refine zS [4] ?_
               refine zR ?_
               try simp only [go_sem, simprocAttr]
               all_goals (rw [decide_eq_true]; cases a; cases b; simp_all)
theorem sat_laws_eqEntry (a : Ent) (b : Ent)  : Sat Tryz.prog 166 [.agg a.cells, .agg b.cells] [] (.bool (decide (a = b))) [] := by
 have hX := trivial
 refine sat_mk [.tmp 4] 0 34 Tryz.call166 Tryz.func166 Tryz.ntmps166 rfl rfl rfl rfl rfl ?_
 refine zI [0, 1] ?_
 refine zS [2, 3] ?_
 refine zSF [2, 3, 10] (sat_laws_eqWord a.pc b.pc) ?_
 refine zC ?_ ?_
 · intro c1
   refine zS [4] ?_
   refine zR ?_
   try simp only [go_sem, simprocAttr]
   all_goals (rw [decide_eq_false]; rintro rfl; first | exact c1 rfl | exact c2 rfl | exact c3 rfl | exact c4 rfl | exact c5 rfl | exact c6 rfl | exact c7 rfl | (simp at c1; done) | (simp at c2; done) | (simp at c3; done) | (simp at c4; done)| (simp at c5; done) | (simp at c6; done) | (simp at c7; done))
 · intro c1
   intro ρ hL
   refine awl_skip ?_
   revert ρ hL
   refine zSF [2, 3, 16] (sat_laws_eqIns a.x b.x) ?_
   refine zC ?_ ?_
   · intro c2
     refine zS [4] ?_
     refine zR ?_
     try simp only [go_sem, simprocAttr]
     all_goals (rw [decide_eq_false]; rintro rfl; first | exact c1 rfl | exact c2 rfl | exact c3 rfl | exact c4 rfl | exact c5 rfl | exact c6 rfl | exact c7 rfl | (simp at c1; done) | (simp at c2; done) | (simp at c3; done) | (simp at c4; done)| (simp at c5; done) | (simp at c6; done) | (simp at c7; done))
   · intro c2
     intro ρ hL
     refine awl_skip ?_
     revert ρ hL
     refine zS [2, 3, 21] ?_
     refine zC ?_ ?_
     · intro c3
       refine zS [4] ?_
       refine zR ?_
       try simp only [go_sem, simprocAttr]
       all_goals (rw [decide_eq_false]; rintro rfl; first | exact c1 rfl | exact c2 rfl | exact c3 rfl | exact c4 rfl | exact c5 rfl | exact c6 rfl | exact c7 rfl | (simp at c1; done) | (simp at c2; done) | (simp at c3; done) | (simp at c4; done)| (simp at c5; done) | (simp at c6; done) | (simp at c7; done))
     · intro c3
       intro ρ hL
       refine awl_skip ?_
       revert ρ hL
       refine zSF [2, 3, 27] (sat_laws_eqEffect a.e b.e) ?_
       refine zC ?_ ?_
       · intro c4
         refine zS [4] ?_
         refine zR ?_
         try simp only [go_sem, simprocAttr]
         all_goals (rw [decide_eq_false]; rintro rfl; first | exact c1 rfl | exact c2 rfl | exact c3 rfl | exact c4 rfl | exact c5 rfl | exact c6 rfl | exact c7 rfl | (simp at c1; done) | (simp at c2; done) | (simp at c3; done) | (simp at c4; done)| (simp at c5; done) | (simp at c6; done) | (simp at c7; done))
       · intro c4
         intro ρ hL
         refine awl_skip ?_
         revert ρ hL
         refine zSF [33] (sat_laws_eqWord a.guess b.guess) ?_
         refine zC ?_ ?_
         · intro c5
           refine zS [4] ?_
           refine zR ?_
           try simp only [go_sem, simprocAttr]
           all_goals (rw [decide_eq_false]; rintro rfl; first | exact c1 rfl | exact c2 rfl | exact c3 rfl | exact c4 rfl | exact c5 rfl | exact c6 rfl | exact c7 rfl | (simp at c1; done) | (simp at c2; done) | (simp at c3; done) | (simp at c4; done)| (simp at c5; done) | (simp at c6; done) | (simp at c7; done))
         · intro c5
           intro ρ hL
           refine awl_skip ?_
           revert ρ hL
           refine zS [4] ?_
           refine zR ?_
           try simp only [go_sem, simprocAttr]
           all_goals (rw [decide_eq_true]; cases a; cases b; simp_all)
section
attribute [local go_sem] List.length_append List.length_take List.length_replicate
theorem sat_laws_toEntryS (xs : List Ent) (hb : xs.length ≤ 1073741824) : Sat Tryz.prog 94 [.sl xs.length xs.length (rows xs)] [] (.slice 0 0 xs.length 0) [⟨40, rows xs, true, false⟩] := by
 have hX := trivial
 refine sat_mk [.tmp 2] 0 23 Tryz.call94 Tryz.func94 Tryz.ntmps94 rfl rfl rfl rfl rfl ?_
 refine zI [0] ?_
 refine zS [0] ?_
 refine zS [0, 3] ?_
 refine zS [0, 3, 4] ?_
 intro ρ hL
 have e1 := hL
 refine awl_loopH (fun H0 n σ G => ∃ (i : Nat), n = xs.length - i ∧ (i ≤ xs.length) ∧ (liveE [0, 3] σ ρ ∧ σ 4 = .int .i64 (i : Int)) ∧ G = [⟨40, rows (xs.take i ++ List.replicate (xs.length - i) noEnt), true, false⟩]) (fun H0 σ G => (liveE [3] σ ρ) ∧ G = [⟨40, rows xs, true, false⟩]) ((fun (i : Nat) => xs.length - i) 0) ?init1 (fun n ρ G hI => ?round1) (fun ρ G hJ => ?after1)
 case init1 => exact ⟨0, rfl, (Nat.zero_le _), ⟨liveE_refl _ _, (hL.2.2)⟩, rfl⟩
 case round1 =>
  clear hL
  obtain ⟨i, hn, i1_0, hL, hG⟩ := hI
  subst hG
  try simp only [go_sem, simprocAttr, e1, hX] at hL
  revert ρ hL
  refine zS [0, 3, 4, 11] ?_
  refine zC ?_ ?_
  · intro c1
    have hi1 : i < xs.length := by omega
    replace hX := And.intro hi1 hX
    intro ρ hL
    refine awl_skip ?_
    refine awl_seq ?_
    refine awl_block fun R1 hw1 hR1 => ?_
    revert ρ hL
    refine zSF [0, 3, 4] (sat_laws_toEntry (xs.getD i noEnt)) ?_
    intro ρ hL
    refine awl_nil ?_
    refine blk_normal (hR1 _ _ (.mk ?_))
    have w1 : IntKind.i64.wrap ((i : Int) + 1) = ((i + 1 : Nat) : Int) := by rw [wrap64 (by omega)]; omega
    replace hX := And.intro w1 hX
    revert ρ hL
    refine zS [0, 3, 4] ?_
    intro ρ hL
    refine awl_nil ?_
    refine loop_again _ ?meas ⟨i + 1, rfl, (by omega), ⟨(by simp only [go_sem, simprocAttr, hL, hX, e1]), (hL.2.2)⟩, by rw [ents_put (by simp; omega), set_take (d := noEnt) hi1 rfl]⟩
    case meas => subst hn; omega
  · intro c1
    intro ρ hL
    refine awl_exit ?_
    refine loop_break ?_
    exact ⟨(by simp only [go_sem, simprocAttr, hL, hX, e1]), by rw [show i = xs.length by omega]; simp⟩
 case after1 =>
  clear hL
  obtain ⟨hL, hG⟩ := hJ
  subst hG
  try simp only [go_sem, simprocAttr, e1, hX] at hL
  revert ρ hL
  refine zS [2] ?_
  intro ρ hL
  refine awl_ret ?_
  refine ret_wk (Wk.norm [] (RefE.refl.upd hL (Ref.cap _ _ _ _ 0 (Nat.zero_le _)))) ?_
  refine retK [0] [0] rfl (by simp only [go_sem, simprocAttr, hL, hX]; exact rfl) (by decide) (by first | rfl | (simp only [go_sem, simprocAttr, hL, hX]; first | done | rfl)) (by first | rfl | (simp only [go_sem, simprocAttr, hL, hX]; first | done | rfl)) ?_ ?_
  all_goals try simp only [go_sem, simprocAttr, hL, hX]
  all_goals try clear hR1
  all_goals (first | done | rfl | (simp; done) | (simp [inR]; done) | (simp_all [inR]; done) | (simp [inR]; grind))
end
theorem sat_laws_eqEntryS (xs : List Ent) (ys : List Ent) (hb : xs.length ≤ 1099511627776) : Sat Tryz.prog 100 [.sl xs.length xs.length (rows xs), .sl ys.length ys.length (rows ys)] [] (.bool (decide (xs = ys))) [] := by
 have hX := trivial
 refine sat_mk [.tmp 4] 0 27 Tryz.call100 Tryz.func100 Tryz.ntmps100 rfl rfl rfl rfl rfl ?_
 refine zI [0, 1] ?_
 refine zS [0, 1] ?_
 refine zS [0, 1, 10] ?_
 refine zC ?_ ?_
 · intro c1
   refine zS [4] ?_
   refine zR ?_
   try simp only [go_sem, simprocAttr]
   all_goals (rw [decide_eq_false]; rintro rfl; exact c1 rfl)
 · intro c1
   intro ρ hL
   refine awl_skip ?_
   revert ρ hL
   refine zS [0, 1, 5] ?_
   intro ρ hL
   have e1 := hL
   refine awl_loopH (fun H0 n σ G => ∃ (i : Nat), n = xs.length - i ∧ (i ≤ xs.length) ∧ (xs.take i = ys.take i) ∧ (liveE [0, 1] σ ρ ∧ σ 5 = .int .i64 (i : Int)) ∧ G = H0) (fun H0 σ G => (xs = ys) ∧ (True) ∧ G = H0) ((fun (i : Nat) => xs.length - i) 0) ?init1 (fun n ρ G hI => ?round1) (fun ρ G hJ => ?after1)
   case init1 => exact ⟨0, rfl, (Nat.zero_le _), (by simp), ⟨liveE_refl _ _, (hL.2.2)⟩, rfl⟩
   case round1 =>
    clear hL
    obtain ⟨i, hn, i1_0, i1_1, hL, hG⟩ := hI
    subst hG
    try simp only [go_sem, simprocAttr, e1, hX] at hL
    revert ρ hL
    refine zS [0, 1, 5, 14] ?_
    refine zC ?_ ?_
    · intro c2
      have hi1 : i < xs.length := by omega
      replace hX := And.intro hi1 hX
      intro ρ hL
      refine awl_skip ?_
      refine awl_seq ?_
      refine awl_block fun R1 hw1 hR1 => ?_
      have hj : i < ys.length := by omega
      have hX0 := hX
      replace hX := And.intro hj hX
      refine zAD [0, 0, 3, 7, 0, 0, 48, 112, 255, 511] ?_
      intro K hK
      refine zFD [0, 0, 3, 7, 0, 0, 48, 112, 255, 511] (sat_laws_eqEntry (xs.getD i noEnt) (ys.getD i noEnt)) ?_
      refine zE [0, 1, 5, 26] ?_
      clear hK K hL
      clear hX
      have hX := hX0
      clear hX0
      refine zC ?_ ?_
      · intro c3
        refine zS [4] ?_
        refine zR ?_
        try simp only [go_sem, simprocAttr]
        all_goals try clear hR1
        all_goals (rw [decide_eq_false]; rintro rfl; first | exact c3 rfl | (simp at c3; done))
      · intro c3
        intro ρ hL
        refine awl_skip ?_
        refine awl_nil ?_
        refine blk_normal (hR1 _ _ (.mk ?_))
        have w1 : IntKind.i64.wrap ((i : Int) + 1) = ((i + 1 : Nat) : Int) := by rw [wrap64 (by omega)]; omega
        replace hX := And.intro w1 hX
        revert ρ hL
        refine zS [0, 1, 5] ?_
        intro ρ hL
        refine awl_nil ?_
        refine loop_again _ ?meas ⟨i + 1, rfl, (by omega), (by exact take_succ_eq (d := noEnt) hi1 hj i1_1 (by simpa using c3)), ⟨(by simp only [go_sem, simprocAttr, hL, hX, e1]), (hL.2.2)⟩, rfl⟩
        case meas => subst hn; omega
    · intro c2
      intro ρ hL
      refine awl_exit ?_
      refine loop_break ?_
      exact ⟨(by exact eq_of_take (i := i) (by omega) (by omega) i1_1), trivial, rfl⟩
   case after1 =>
    clear hL
    obtain ⟨j1_0, hL, hG⟩ := hJ
    subst hG
    refine zA ?_
    intro K hK
    refine zE [4] ?_
    clear hK K hL
    refine zR ?_
    try simp only [go_sem, simprocAttr]
    all_goals try clear hR1
    all_goals (rw [decide_eq_true j1_0])
theorem sat_laws_szEntryS (xs : List Ent) (l : Int) (hb : xs.length ≤ 9223372036854775807) (hl : leftOk l) : Sat Tryz.prog 88 [.sl xs.length xs.length (rows xs), .int .i64 l] [] (.int .i64 (szL l xs.length)) [] := by
 have hX := trivial
 refine sat_mk [.tmp 4] 0 12 Tryz.call88 Tryz.func88 Tryz.ntmps88 rfl rfl rfl rfl rfl ?_
 refine zI [0, 1] ?_
 refine zS [0, 1] ?_
 have hl1 := hl.1
 have hl2 := hl.2
 have w0 : IntKind.i64.wrap (l - (xs.length : Int)) = l - (xs.length : Int) := wrap64 (by omega)
 have hX0 := hX
 replace hX := And.intro w0 hX
 refine zS [1] ?_
 clear hX
 have hX := hX0
 clear hX0
 refine zS [1, 10] ?_
 refine zC ?_ ?_
 · intro c1
   refine zS [4] ?_
   refine zR ?_
   try simp only [go_sem, simprocAttr]
   all_goals (rw [szL, if_pos c1])
 · intro c1
   intro ρ hL
   refine awl_skip ?_
   revert ρ hL
   refine zS [4] ?_
   refine zR ?_
   try simp only [go_sem, simprocAttr]
   all_goals (rw [szL, if_neg c1])
theorem sat_laws_szIntS (xs : List Int) (l : Int) (hb : xs.length ≤ 9223372036854775807) (hl : leftOk l) : Sat Tryz.prog 89 [.sl xs.length xs.length (ints xs), .int .i64 l] [] (.int .i64 (szL l xs.length)) [] := by
 have hX := trivial
 refine sat_mk [.tmp 4] 0 12 Tryz.call89 Tryz.func89 Tryz.ntmps89 rfl rfl rfl rfl rfl ?_
 refine zI [0, 1] ?_
 refine zS [0, 1] ?_
 have hl1 := hl.1
 have hl2 := hl.2
 have w0 : IntKind.i64.wrap (l - (xs.length : Int)) = l - (xs.length : Int) := wrap64 (by omega)
 have hX0 := hX
 replace hX := And.intro w0 hX
 refine zS [1] ?_
 clear hX
 have hX := hX0
 clear hX0
 refine zS [1, 10] ?_
 refine zC ?_ ?_
 · intro c1
   refine zS [4] ?_
   refine zR ?_
   try simp only [go_sem, simprocAttr]
   all_goals (rw [szL, if_pos c1])
 · intro c1
   intro ρ hL
   refine awl_skip ?_
   revert ρ hL
   refine zS [4] ?_
   refine zR ?_
   try simp only [go_sem, simprocAttr]
   all_goals (rw [szL, if_neg c1])
theorem sat_laws_szCore (c : Cor) (l : Int) (hb : c.sm) (hl : leftOk l) : Sat Tryz.prog 30 [.agg c.cells, .int .i64 l] [] (.int .i64 (szC l c)) [] := by
 have hX := trivial
 refine sat_mk [.tmp 4] 0 24 Tryz.call30 Tryz.func30 Tryz.ntmps30 rfl rfl rfl rfl rfl ?_
 refine zI [0, 1] ?_
 refine zS [1, 2] ?_
 refine zSF [1, 2] (sat_laws_szState c.s l hb.1 hl) ?_
 refine zS [1, 2, 10] ?_
 refine zC ?_ ?_
 · intro c1
   refine zS [4] ?_
   refine zR ?_
   try simp only [go_sem, simprocAttr]
   all_goals (rw [szC, if_pos c1])
 · intro c1
   intro ρ hL
   refine awl_skip ?_
   revert ρ hL
   refine zSF [1, 2] (sat_laws_szEntryS c.rob _ hb.2.1 (szS_ok hl c1).2) ?_
   refine zS [1, 2, 16] ?_
   refine zC ?_ ?_
   · intro c2
     refine zS [4] ?_
     refine zR ?_
     try simp only [go_sem, simprocAttr]
     all_goals (rw [szC, if_neg c1, if_pos c2])
   · intro c2
     intro ρ hL
     refine awl_skip ?_
     revert ρ hL
     refine zSF [1] (sat_laws_szIntS c.guesses _ hb.2.2 (szL_ok (szS_ok hl c1).2 c2).2) ?_
     refine zS [1, 22] ?_
     refine zC ?_ ?_
     · intro c3
       refine zS [4] ?_
       refine zR ?_
       try simp only [go_sem, simprocAttr]
       all_goals (rw [szC, if_neg c1, if_neg c2, if_pos c3])
     · intro c3
       intro ρ hL
       refine awl_skip ?_
       revert ρ hL
       refine zS [4] ?_
       refine zR ?_
       try simp only [go_sem, simprocAttr]
       all_goals (rw [szC, if_neg c1, if_neg c2, if_neg c3])
theorem sat_laws_toCore (c : Cor) (hb : c.fit) : Sat Tryz.prog 32 [.agg c.cells] [] (.agg (c.own 0 1 2 3 4)) c.blks := by
 have hX := trivial
 refine sat_mk [.cell 2 68] 0 24 Tryz.call32 Tryz.func32 Tryz.ntmps32 rfl rfl rfl rfl rfl ?_
 refine zI [0] ?_
 refine zS [1, 2] ?_
 refine zS [1, 2, 3] ?_
 refine zSF [1, 2, 3] (sat_laws_toState c.s hb.1) ?_
 refine zSF [1, 2, 3] (sat_laws_toEntryS c.rob (Nat.le_trans hb.2.1 (by decide))) ?_
 refine zSF [1, 2, 3] (sat_laws_toWord c.next) ?_
 refine zS [1, 2, 3] ?_
 refine zSF [2, 3] (sat_laws_toIntS c.guesses c.guesses.length (Nat.le_trans hb.2.2 (by decide))) ?_
 refine zS [2] ?_
 refine zK [3, 4, 5, 6, 7] [3, 4, 5, 6, 7] ?_ ?_
 all_goals try simp only [go_sem, simprocAttr, hX]
 all_goals (first | done | rfl | (simp; done) | (simp [inR]; done) | (simp_all [inR]; done) | (simp [inR]; grind))
theorem sat_laws_eqCore (a : Cor) (b : Cor) (hf : a.fit) : Sat Tryz.prog 34 [.agg a.cells, .agg b.cells] [] (.bool (decide (a = b))) [] := by
 have hX := trivial
 refine sat_mk [.tmp 4] 0 34 Tryz.call34 Tryz.func34 Tryz.ntmps34 rfl rfl rfl rfl rfl ?_
 refine zI [0, 1] ?_
 refine zS [2, 3] ?_
 refine zSF [2, 3, 10] (sat_laws_eqState a.s b.s hf.1) ?_
 refine zC ?_ ?_
 · intro c1
   refine zS [4] ?_
   refine zR ?_
   try simp only [go_sem, simprocAttr]
   all_goals (rw [decide_eq_false]; rintro rfl; first | exact c1 rfl | exact c2 rfl | exact c3 rfl | exact c4 rfl | exact c5 rfl | exact c6 rfl | exact c7 rfl | (simp at c1; done) | (simp at c2; done) | (simp at c3; done) | (simp at c4; done)| (simp at c5; done) | (simp at c6; done) | (simp at c7; done))
 · intro c1
   intro ρ hL
   refine awl_skip ?_
   revert ρ hL
   refine zSF [2, 3, 16] (sat_laws_eqEntryS a.rob b.rob (Nat.le_trans hf.2.1 (by decide))) ?_
   refine zC ?_ ?_
   · intro c2
     refine zS [4] ?_
     refine zR ?_
     try simp only [go_sem, simprocAttr]
     all_goals (rw [decide_eq_false]; rintro rfl; first | exact c1 rfl | exact c2 rfl | exact c3 rfl | exact c4 rfl | exact c5 rfl | exact c6 rfl | exact c7 rfl | (simp at c1; done) | (simp at c2; done) | (simp at c3; done) | (simp at c4; done)| (simp at c5; done) | (simp at c6; done) | (simp at c7; done))
   · intro c2
     intro ρ hL
     refine awl_skip ?_
     revert ρ hL
     refine zSF [2, 3, 22] (sat_laws_eqWord a.next b.next) ?_
     refine zC ?_ ?_
     · intro c3
       refine zS [4] ?_
       refine zR ?_
       try simp only [go_sem, simprocAttr]
       all_goals (rw [decide_eq_false]; rintro rfl; first | exact c1 rfl | exact c2 rfl | exact c3 rfl | exact c4 rfl | exact c5 rfl | exact c6 rfl | exact c7 rfl | (simp at c1; done) | (simp at c2; done) | (simp at c3; done) | (simp at c4; done)| (simp at c5; done) | (simp at c6; done) | (simp at c7; done))
     · intro c3
       intro ρ hL
       refine awl_skip ?_
       revert ρ hL
       refine zS [2, 3, 27] ?_
       refine zC ?_ ?_
       · intro c4
         refine zS [4] ?_
         refine zR ?_
         try simp only [go_sem, simprocAttr]
         all_goals (rw [decide_eq_false]; rintro rfl; first | exact c1 rfl | exact c2 rfl | exact c3 rfl | exact c4 rfl | exact c5 rfl | exact c6 rfl | exact c7 rfl | (simp at c1; done) | (simp at c2; done) | (simp at c3; done) | (simp at c4; done)| (simp at c5; done) | (simp at c6; done) | (simp at c7; done))
       · intro c4
         intro ρ hL
         refine awl_skip ?_
         revert ρ hL
         refine zSF [33] (sat_laws_eqIntS a.guesses b.guesses a.guesses.length b.guesses.length (Nat.le_trans hf.2.2 (by decide))) ?_
         refine zC ?_ ?_
         · intro c5
           refine zS [4] ?_
           refine zR ?_
           try simp only [go_sem, simprocAttr]
           all_goals (rw [decide_eq_false]; rintro rfl; first | exact c1 rfl | exact c2 rfl | exact c3 rfl | exact c4 rfl | exact c5 rfl | exact c6 rfl | exact c7 rfl | (simp at c1; done) | (simp at c2; done) | (simp at c3; done) | (simp at c4; done)| (simp at c5; done) | (simp at c6; done) | (simp at c7; done))
         · intro c5
           intro ρ hL
           refine awl_skip ?_
           revert ρ hL
           refine zS [4] ?_
           refine zR ?_
           try simp only [go_sem, simprocAttr]
           all_goals (rw [decide_eq_true]; cases a; cases b; simp_all)
end Go.Proofs.YtokjjeibagmgpaaGreat.AM
