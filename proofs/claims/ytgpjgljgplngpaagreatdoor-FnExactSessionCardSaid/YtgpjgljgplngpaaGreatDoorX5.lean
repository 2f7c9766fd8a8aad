/- What a pick is noted by; A number, as often as one likes. No conditions but those each theorem bears. -/
import Derived.Test.YtgpjgljgplngpaaGreatDoorFa
import Derived.Test.YtgpjgljgplngpaaGreatDoorM5
import Derived.Test.YtgpjgljgplngpaaGreatDoorX3
import Derived.Test.YtgpjgljgplngpaaGreatDoorCb1
set_option linter.unusedSimpArgs false
set_option linter.unusedVariables false
namespace Go.Proofs.YtgpjgljgplngpaaGreatDoor.AM
open Go
set_option maxHeartbeats 8000000
set_option maxRecDepth 100000
theorem sat_spec_l16Number (p : Pik)  : Sat Tryz.prog 52 [.agg p.cells] [] (.tuple [.int .i64 (numS p), .bool (isN p)]) [] := by
 have hX := trivial
 refine sat_mk [.tmp 2, .tmp 3] 0 12 Tryz.call52 Tryz.func52 Tryz.ntmps52 rfl rfl rfl rfl rfl ?_
 refine zI [0] ?_
 refine zS [1] ?_
 refine zS [1, 6] ?_
 refine zC ?_ ?_
 ·intro c1
  refine zS [2, 3] ?_
  refine zR ?_
  try simp only [go_sem, simprocAttr]
  all_goals (simp [numS, isN, c1])
 ·intro c1 ρ hL
  refine awl_skip ?_
  revert ρ hL
  refine zD [0, 1, 3, 0, 15] [2, 3] ?_
  refine zR ?_
  try simp only [go_sem, simprocAttr]
  all_goals (simp [numS, isN, c1])
theorem sat_impl_noted (p : Pik)  : Sat Tryz.prog 161 [.agg p.cells] [] (.tuple [.int .i64 (numI p), .bool (isN p)]) [] := by
 have hX := trivial
 refine sat_mk [.tmp 2, .tmp 3] 0 12 Tryz.call161 Tryz.func161 Tryz.ntmps161 rfl rfl rfl rfl rfl ?_
 refine zI [0] ?_
 refine zS [1] ?_
 refine zS [1, 5] ?_
 intro ρ hL
 refine awl_block fun R1 hw1 hR1 => ?_
 revert ρ hL
 refine zS [1, 5, 6] ?_
 refine zC ?_ ?_
 ·intro c1
  refine zS [2, 3] ?_
  refine zR ?_
  try simp only [go_sem, simprocAttr]
  all_goals ((try clear hR1); simp [numI, isN, c1])
 ·intro c1
  refine zS [1, 8] ?_
  refine zC ?_ ?_
  ·intro c2
   refine zS [2, 3] ?_
   refine zR ?_
   try simp only [go_sem, simprocAttr]
   all_goals ((try clear hR1); simp [numI, isN, c1, c2])
  ·intro c2 ρ hL
   refine awl_skip (awl_nil (blk_normal (hR1 _ _ (.mk ?_))))
   revert ρ hL
   refine zS [2, 3] ?_
   refine zR ?_
   try simp only [go_sem, simprocAttr]
   all_goals ((try clear hR1); simp [numI, isN, c1, c2])
end Go.Proofs.YtgpjgljgplngpaaGreatDoor.AM
namespace Go.Proofs.YtgpjgljgplngpaaGreatDoor.AM
open Go
set_option maxHeartbeats 8000000
set_option maxRecDepth 100000
theorem sat_Mul64K (k : Nat) (hk : k ≤ 600) : Sat Tryz.prog 209 [.int .u64 1, .int .u64 (k : Int)] [] (.tuple [.int .u64 0, .int .u64 (k : Int)]) [] := by
 have hX := trivial
 refine sat_mk [.tmp 4, .tmp 5] 0 51 Tryz.call209 Tryz.func209 Tryz.ntmps209 rfl rfl rfl rfl rfl ?_
 refine zI [0, 1] ?_
 refine zS [0, 1] ?_
 refine zS [0, 1, 6] ?_
 refine zS [0, 1, 6, 7] ?_
 refine zS [0, 1, 6, 7, 8] ?_
 refine zS [0, 1, 6, 7, 8, 9] ?_
 refine zS [0, 1, 6, 7, 8, 9, 10] ?_
 refine zS [0, 1, 6, 7, 9, 11] ?_
 refine zS [0, 1, 6, 7, 9, 11, 12] ?_
 refine zS [0, 1, 6, 7, 9, 12, 13] ?_
 refine zS [0, 1, 7, 9, 12, 13] ?_
 refine zS [0, 1, 4] ?_
 refine zS [4, 5] ?_
 refine zR ?_
 try simp only [go_sem, simprocAttr]
 all_goals (obtain ⟨n, rfl⟩ : ∃ n : Fin 601, n.val = k := ⟨⟨k, by omega⟩, rfl⟩; clear hk; simp only [AV.tuple.injEq, List.cons.injEq, AV.int.injEq, true_and, and_true]; revert n; decide +kernel)
theorem sat_MulK (k : Nat) (hk : k ≤ 600) : Sat Tryz.prog 164 [.int .u64 1, .int .u64 (k : Int)] [] (.tuple [.int .u64 0, .int .u64 (k : Int)]) [] := by
 have hX := trivial
 refine sat_mk [.tmp 4, .tmp 5] 0 30 Tryz.call164 Tryz.func164 Tryz.ntmps164 rfl rfl rfl rfl rfl ?_
 refine zI [0, 1] ?_
 refine zS [0, 1] ?_
 intro ρ hL
 refine awl_seq ?_
 refine awl_cond rfl (fun c1 => ?_) (fun c1 => ?_)
 ·
  first | done | cases c1 | (simp at c1)
 ·
  refine awl_skip ?_
  revert ρ hL
  refine zSF [8, 9] (sat_Mul64K k hk) ?_
  refine zS [4, 5] ?_
  refine zR ?_
  try simp only [go_sem, simprocAttr]
  all_goals (rfl)
theorem sat_RepeatK (k : Nat) (hk : k ≤ 600) : Sat Tryz.prog 97 [.sl 1 1 [.int .i64 (-1)], .int .i64 (k : Int)] [] (.slice 0 0 k 0) [⟨1, ints (List.replicate k (-1)), true, false⟩] := by
 have hX := trivial
 refine sat_mk [.tmp 4] 0 48 Tryz.call97 Tryz.func97 Tryz.ntmps97 rfl rfl rfl rfl rfl ?_
 refine zI [0, 1] ?_
 refine zS [0, 1] ?_
 refine zS [0, 1, 10] ?_
 refine zQ ?_ ?_
 ·intro c1
  try simp only [cnd] at c1
  omega
 ·intro c1
  try simp only [cnd] at c1
  intro ρ hL
  refine awl_skip ?_
  have wu1 : IntKind.u64.wrap 1 = 1 := by decide
  have wuk := wrapU_small hk
  revert ρ hL
  refine zSFX [0, 5, 6] (sat_MulK k hk) (And.intro wu1 (And.intro wuk hX)) ?_
  intro ρ hL
  refine zA ?_
  intro K hK
  refine zL [0, 6, 23] ?_
  clear hL
  intro ρ hL
  refine grp_orN (v := ?v1) 2 rfl [0, 6] hL.2.2 rfl (fun hb K1 hK1 => ?run) (fun hb => skA (want := false) (b := _) (by rw [hb]; rfl) hL.2.2 rfl) (fun ρ hP hM => ?_)
  case run => exact zR1
  refine zPp ?_
  clear hL hP hM
  intro hL
  refine zE [0, 6, 26] ?_
  clear hK K hL
  refine zQ ?_ ?_
  ·intro c2
   try simp only [cnd] at c2
   first | done | omega | (simp at c2; done) | (simp at c2; omega)
  ·intro c2
   try simp only [cnd] at c2
   intro ρ hL
   refine awl_skip ?_
   have wik : IntKind.i64.wrap (k : Int) = (k : Int) := wrap64 (by omega)
   revert ρ hL
   refine zSX [0, 7] (And.intro wik hX) ?_
   have wi1 : IntKind.i64.wrap 1 = 1 := by decide
   refine zS [7, 8] ?_
   intro ρ hL
   refine awl_seq ?_
   have e1 := hL
   refine awl_loopH (fun H0 n σ G => ∃ (m : Nat), n = k - m ∧ (min k 1 ≤ m) ∧ (m ≤ k) ∧ (liveE [7] σ ρ ∧ σ 8 = .int .i64 (m : Int)) ∧ G = [⟨1, ints (fillK k m), true, false⟩]) (fun H0 σ G => (liveE [7] σ ρ) ∧ G = [⟨1, ints (List.replicate k (-1)), true, false⟩]) ((fun (m : Nat) => k - m) (Nat.min 1 k)) ?init1 (fun n ρ G hI => ?round1) (fun ρ G hJ => ?after1)
   case init1 => exact ⟨(Nat.min 1 k), rfl, (by show min k 1 ≤ min 1 k; omega), (by show min 1 k ≤ k; omega), ⟨liveE_refl _ _, (hL.2)⟩, by rw [fillK_start]⟩
   case round1 =>
    clear hL
    obtain ⟨m, hn, i1_0, i1_1, hL, hG⟩ := hI
    subst hG
    try simp only [go_sem, simprocAttr, e1, hX] at hL
    revert ρ hL
    refine zS [7, 8, 37] ?_
    refine zC ?_ ?_
    ·intro c3 ρ hL
     refine awl_skip (awl_block fun R1 hw1 hR1 => ?_)
     have hmk : m ≤ k := i1_1
     have ha9 : (0 : Int) ≤ (m : Int) := by omega
     have hb9 : (m : Int) ≤ (k : Int) := by omega
     have hmm : m + (k - m) ≤ k := by omega
     have hfc := fillK_copy hmk
     have hfl := fillK_lenI hmk
     have hw9 : IntKind.i64.wrap ((m : Int) + ((Nat.min m (k - m) : Nat) : Int)) = ((m + Nat.min m (k - m) : Nat) : Int) := by rw [show Nat.min m (k - m) = min m (k - m) from rfl, wrap64 (by omega)]; omega
     repeat refine awl_seq ?_
     refine awl_regD mixed _ rfl fun K hK => ?_
     try simp only [go_sem, simprocAttr, hL, hX, ha9, hb9, hmk, hmm, hfc, hfl, hw9, Nat.sub_zero, Nat.sub_self, Nat.max_zero, Nat.zero_max, Nat.max_self, Option.isSome_none, Option.isNone_some, Option.isNone_none]
     repeat' refine And.intro (by first | omega | (exact ⟨[0, 0, 0, 6, 0, 0, 48, 126, 255, 511], by kernel_rfl⟩) | kernel_rfl) ?_
     refine hK _ _ (.mk (awl_live' [7, 8] fun ρ hM => ?_))
     try simp only [go_sem, simprocAttr, hL, hX, ha9, hb9, hmk, hmm, hfc, hfl, hw9, Nat.sub_zero, Nat.sub_self, Nat.max_zero, Nat.zero_max, Nat.max_self, Option.isSome_none, Option.isNone_some, Option.isNone_none] at hM
     clear hK K hL
     revert ρ hM
     intro ρ hL
     refine awl_nil (blk_normal (hR1 _ _ (.mk ?_)))
     refine awl_nil ?_
     refine loop_again _ ?meas ⟨(m + Nat.min m (k - m)), rfl, (by omega), (by rw [show Nat.min m (k - m) = min m (k - m) from rfl]; omega), ⟨(by simp only [go_sem, simprocAttr, hL, hX, e1]), (hL.2)⟩, rfl⟩
     case meas => subst hn; rw [show Nat.min m (k - m) = min m (k - m) from rfl]; omega
    ·intro c3 ρ hL
     refine awl_exit (loop_break ?_)
     exact ⟨(by simp only [go_sem, simprocAttr, hL, hX, e1]), by rw [show m = k by omega, fillK_end]⟩
   case after1 =>
    clear hL
    obtain ⟨hL, hG⟩ := hJ
    subst hG
    try simp only [go_sem, simprocAttr, e1, hX] at hL
    revert ρ hL
    refine zS [4] ?_
    intro ρ hL
    refine awl_ret ?_
    have h4 := hL
    refine ret_wk (Wk.norm [] (RefE.refl.upd h4 (Ref.cap _ _ _ _ 0 (Nat.zero_le _)))) ?_
    refine retK [0] [0] rfl (by simp only [go_sem, simprocAttr, hL, hX]; exact rfl) (by decide) (by first | rfl | (simp only [go_sem, simprocAttr, hL, hX]; first | done | rfl)) (by first | rfl | (simp only [go_sem, simprocAttr, hL, hX]; first | done | rfl)) ?_ ?_
    all_goals try simp only [go_sem, simprocAttr, hL, hX]
    all_goals ((try clear hR1); first | done | rfl | (simp; done) | (simp [inR]; done) | (simp_all [inR]; done) | (simp [inR]; grind))
end Go.Proofs.YtgpjgljgplngpaaGreatDoor.AM
