/- Rows of commands as texts. No conditions but those each theorem bears. -/
import Derived.Test.YtgpjgljgplngpaaGreatDoorFa
import Derived.Test.YtgpjgljgplngpaaGreatDoorCa84
import Derived.Test.YtgpjgljgplngpaaGreatDoorX1
import Derived.Test.YtgpjgljgplngpaaGreatDoorX4
set_option linter.unusedSimpArgs false
set_option linter.unusedVariables false
namespace Go.Proofs.YtgpjgljgplngpaaGreatDoor.AM
open Go
set_option maxHeartbeats 8000000
set_option maxRecDepth 100000
theorem sat_spec_CodeOk (l : List Ins) (hlb : l.length ≤ 1099511627776) : Sat Tryz.prog 119 [.sl l.length l.length (rows l)] [] (.bool (codeOk l)) [] := by
 have hX := trivial
 refine sat_mk [.tmp 2] 0 19 Tryz.call119 Tryz.func119 Tryz.ntmps119 rfl rfl rfl rfl rfl ?_
 refine zI [0] ?_
 refine zS [0] ?_
 refine zS [0, 3] ?_
 intro ρ hL
 have e1 := hL
 refine awl_loopH (fun H0 n σ G => ∃ (i : Nat), n = l.length - i ∧ (i ≤ l.length) ∧ ((l.take i).all insOk = true) ∧ (liveE [0] σ ρ ∧ σ 3 = .int .i64 (i : Int)) ∧ G = H0) (fun H0 σ G => (l.all insOk = true) ∧ (liveE [0] σ ρ) ∧ G = H0) ((fun (i : Nat) => l.length - i) 0) ?init1 (fun n ρ G hI => ?round1) (fun ρ G hJ => ?after1)
 case init1 => exact ⟨0, rfl, (Nat.zero_le _), (by simp), ⟨liveE_refl _ _, (hL.2)⟩, rfl⟩
 case round1 =>
  clear hL
  obtain ⟨i, hn, i1_0, i1_1, hL, hG⟩ := hI
  subst hG
  try simp only [go_sem, simprocAttr, e1, hX] at hL
  revert ρ hL
  refine zS [0, 3, 7] ?_
  refine zC ?_ ?_
  ·intro c1
   have hi1 : i < l.length := by omega
   replace hX := And.intro hi1 hX
   intro ρ hL
   refine awl_skip (awl_seq (awl_block fun R1 hw1 hR1 => ?_))
   revert ρ hL
   refine zSF [0, 3, 15] (sat_spec_InsOk (l.getD i noIns)) ?_
   refine zC ?_ ?_
   ·intro c2
    refine zS [2] ?_
    refine zR ?_
    try simp only [go_sem, simprocAttr]
    all_goals ((try clear hR1); rw [codeOk_no hi1 (by simpa using c2)])
   ·intro c2 ρ hL
    refine awl_skip (awl_nil (blk_normal (hR1 _ _ (.mk ?_))))
    have w1 : IntKind.i64.wrap ((i : Int) + 1) = ((i + 1 : Nat) : Int) := by rw [wrap64 (by omega)]; omega
    replace hX := And.intro w1 hX
    revert ρ hL
    refine zS [0, 3] ?_
    intro ρ hL
    refine awl_nil ?_
    refine loop_again _ ?meas ⟨i + 1, rfl, (by omega), (by exact all_take_succ (d := noIns) hi1 i1_1 (by simpa using c2)), ⟨(by simp only [go_sem, simprocAttr, hL, hX, e1]), (hL.2)⟩, rfl⟩
    case meas => subst hn; omega
  ·intro c1 ρ hL
   refine awl_exit (loop_break ?_)
   exact ⟨(by rw [← List.take_of_length_le (l := l) (i := i) (by omega)]; exact i1_1), (by simp only [go_sem, simprocAttr, hL, hX, e1]), rfl⟩
 case after1 =>
  clear hL
  obtain ⟨j1_0, hL, hG⟩ := hJ
  subst hG
  try simp only [go_sem, simprocAttr, e1, hX] at hL
  revert ρ hL
  refine zSF [2] (sat_spec_l1In _ _ _) ?_
  refine zR ?_
  try simp only [go_sem, simprocAttr]
  all_goals ((try clear hR1); rw [codeOk, j1_0, Bool.and_true])
section
attribute [local go_sem] mk_bt bt_app bt_fits
theorem sat_spec_CodeText (l : List Ins) (hlb : l.length ≤ 1099511627776) : Sat Tryz.prog 60 [.sl l.length l.length (rows l)] [] (.str (bt (codeT l))) [] := by
 have hX := trivial
 refine sat_mk [.tmp 2] 0 24 Tryz.call60 Tryz.func60 Tryz.ntmps60 rfl rfl rfl rfl rfl ?_
 refine zI [0] ?_
 refine zS [0] ?_
 refine zS [0, 3] ?_
 refine zS [0, 3, 4] ?_
 intro ρ hL
 have e1 := hL
 refine awl_loopH (fun H0 n σ G => ∃ (i : Nat), n = l.length - i ∧ (i ≤ l.length) ∧ (i = 0 ∨ codeOk l = true) ∧ (liveE [0] σ ρ ∧ σ 3 = .str (bt (codeB (l.take i))) ∧ σ 4 = .int .i64 (i : Int)) ∧ G = H0) (fun H0 σ G => (σ 3 = .str (bt (codeT l))) ∧ G = H0) ((fun (i : Nat) => l.length - i) 0) ?init1 (fun n ρ G hI => ?round1) (fun ρ G hJ => ?after1)
 case init1 => exact ⟨0, rfl, (Nat.zero_le _), (Or.inl rfl), ⟨liveE_refl _ _, (hL.2.1), (hL.2.2)⟩, rfl⟩
 case round1 =>
  clear hL
  obtain ⟨i, hn, i1_0, i1_1, hL, hG⟩ := hI
  subst hG
  try simp only [go_sem, simprocAttr, e1, hX] at hL
  refine zA ?_
  intro K hK
  refine zL [0, 3, 4, 9] ?_
  clear hL
  intro ρ hL
  refine grp_andN (v := ?v1) 2 rfl [0, 3, 4] hL.2.2.2 rfl (fun hb K1 hK1 => ?run) (fun hb => skA (want := true) (b := _) (by rw [hb]; rfl) hL.2.2.2 rfl) (fun ρ hP hM => ?_)
  case run =>
   refine zRn ?_
   intro hL
   refine zF (sat_spec_CodeOk l hlb) ?_
   exact zK1
  refine zPp ?_
  clear hL hP hM
  intro hL
  refine zE [0, 3, 4, 12] ?_
  clear hK K hL
  refine zC ?_ ?_
  ·intro c1
   have hi1 : i < l.length := by omega
   replace hX := And.intro hi1 hX
   intro ρ hL
   refine awl_skip (awl_seq (awl_block fun R1 hw1 hR1 => ?_))
   have hcl := codeOk_len c1.2
   have hct := codeB_take (l := l) (i := i) (by omega)
   have hil := insT_len (x := l.getD i noIns)
   have hi1 : i < l.length := by omega
   have hfa : lenOk (codeB (l.take i)) (insT (l.getD i noIns)) = true := lenOk_of (by omega)
   have hfb : lenOk (codeB (l.take i) ++ insT (l.getD i noIns)) [10] = true := lenOk_of (by simp only [List.length_append, List.length_cons, List.length_nil]; omega)
   revert ρ hL
   refine zSFX [0, 3, 4] (sat_spec_InsText (l.getD i noIns)) (And.intro hi1 (And.intro hfa (And.intro hfb hX))) ?_
   intro ρ hL
   refine awl_nil (blk_normal (hR1 _ _ (.mk ?_)))
   have w1 : IntKind.i64.wrap ((i : Int) + 1) = ((i + 1 : Nat) : Int) := by rw [wrap64 (by omega)]; omega
   replace hX := And.intro w1 hX
   revert ρ hL
   refine zS [0, 3, 4] ?_
   intro ρ hL
   refine awl_nil ?_
   refine loop_again _ ?meas ⟨(i + 1), rfl, (by omega), (by exact Or.inr c1.2), ⟨(by simp only [go_sem, simprocAttr, hL, hX, e1]), (by simp only [go_sem, simprocAttr, hL, hX, e1]; rw [← codeB_step (by omega)]), (hL.2.2)⟩, rfl⟩
   case meas => subst hn; omega
  ·intro c1 ρ hL
   refine awl_exit (loop_break ?_)
   exact ⟨(by rw [hL.2.1, codeT_at i1_1 (by revert c1; cases codeOk l <;> simp <;> omega)]), rfl⟩
 case after1 =>
  clear hL
  obtain ⟨hL, hG⟩ := hJ
  subst hG
  revert ρ hL
  refine zS [2] ?_
  refine zR ?_
  try simp only [go_sem, simprocAttr]
  all_goals ((try clear hR1); rfl)
end
end Go.Proofs.YtgpjgljgplngpaaGreatDoor.AM
