/- What the laws mark, and find again. No conditions but those each theorem bears. -/
import Derived.Test.YtgpjgljgplngpaaGreatDoorFa
import Derived.Test.YtgpjgljgplngpaaGreatDoorM5
import Derived.Test.YtgpjgljgplngpaaGreatDoorCb1
set_option linter.unusedSimpArgs false
set_option linter.unusedVariables false
namespace Go.Proofs.YtgpjgljgplngpaaGreatDoor.AM
open Go
set_option maxHeartbeats 8000000
set_option maxRecDepth 100000

section
attribute [local go_sem] List.length_append List.length_drop List.length_cons mrow_len
theorem sat_laws_markWordS (xs : List Word) (t : Int) (c : Nat) (hb : xs.length ≤ 1099511627776) (ht : 0 ≤ t ∧ t ≤ 1099511627776) : Sat Tryz.prog 148 [.slice 0 0 xs.length c, .int .i64 t] [⟨6, rows xs, true, false⟩] (.int .i64 (t + (6 * xs.length : Nat))) [⟨6, rows (mrow markW 6 t xs.length), true, false⟩] := by
 have hX := trivial
 refine sat_mk [.tmp 4] 1 61 Tryz.call148 Tryz.func148 Tryz.ntmps148 rfl rfl rfl rfl rfl ?_
 refine zI [0, 1] ?_
 refine zS [0, 1] ?_
 refine zS [0, 1, 5] ?_
 intro ρ hL
 have e1 := hL
 refine awl_loopH (fun H0 n σ G => ∃ (i : Nat), n = xs.length - i ∧ (i ≤ xs.length) ∧ (liveE [0] σ ρ ∧ σ 1 = .int .i64 (t + (6 * i : Nat)) ∧ σ 5 = .int .i64 (i : Int)) ∧ G = [⟨6, rows (mrow markW 6 t i) ++ rows (xs.drop i), true, false⟩]) (fun H0 σ G => (σ 1 = .int .i64 (t + (6 * xs.length : Nat))) ∧ G = [⟨6, rows (mrow markW 6 t xs.length), true, false⟩]) ((fun (i : Nat) => xs.length - i) 0) ?init1 (fun n ρ G hI => ?round1) (fun ρ G hJ => ?after1)
 case init1 => exact ⟨0, rfl, (Nat.zero_le _), ⟨liveE_refl _ _, (by rw [hL.2.1]; simp), (hL.2.2)⟩, rfl⟩
 case round1 =>
  clear hL
  obtain ⟨i, hn, i1_0, hL, hG⟩ := hI
  subst hG
  try simp only [go_sem, simprocAttr, e1, hX] at hL
  revert ρ hL
  refine zS [0, 1, 5, 9] ?_
  refine zC ?_ ?_
  · intro c1
    have hi1 : i < xs.length := by omega
    replace hX := And.intro hi1 hX
    intro ρ hL
    refine awl_skip ?_
    refine awl_seq ?_
    refine awl_block fun R1 hw1 hR1 => ?_
    obtain ⟨s, hs⟩ : ∃ s : Int, s = t + (6 * i : Nat) := ⟨_, rfl⟩
    rw [← hs] at hL
    have hd : rows (xs.drop i) = Enc.cells (xs.getD i noWord) ++ rows (xs.drop (i + 1)) := rows_split hi1
    rw [hd]
    have w1_ : IntKind.i64.wrap (s + 1) = s + 1 := wrap64 (by omega)
    have w2_ : IntKind.i64.wrap (s + 1 + 1) = s + 2 := by rw [wrap64 (by omega)]; omega
    have w3_ : IntKind.i64.wrap (s + 2 + 1) = s + 3 := by rw [wrap64 (by omega)]; omega
    have w4_ : IntKind.i64.wrap (s + 3 + 1) = s + 4 := by rw [wrap64 (by omega)]; omega
    have w5_ : IntKind.i64.wrap (s + 4 + 1) = s + 5 := by rw [wrap64 (by omega)]; omega
    have w6_ : IntKind.i64.wrap (s + 5 + 1) = s + 6 := by rw [wrap64 (by omega)]; omega
    repeat refine awl_seq ?_
    refine awl_regS _ rfl fun K hK => ?_
    try simp only [go_sem, simprocAttr, hL, hX, w1_, w2_, w3_, w4_, w5_, w6_, putW0, putW1, putW2]
    repeat' refine And.intro (by first | rfl | omega | (simp; done)) ?_
    refine hK _ _ (.mk (awl_live' [0, 1, 5] fun ρ hM => ?_))
    try simp only [go_sem, simprocAttr, hL, hX, w1_, w2_, w3_, w4_, w5_, w6_, putW0, putW1, putW2] at hM
    clear hK K hL
    revert ρ hM
    intro ρ hL
    repeat refine awl_seq ?_
    refine awl_regS _ rfl fun K hK => ?_
    try simp only [go_sem, simprocAttr, hL, hX, w1_, w2_, w3_, w4_, w5_, w6_, putW0, putW1, putW2]
    repeat' refine And.intro (by first | rfl | omega | (simp; done)) ?_
    refine hK _ _ (.mk (awl_live' [0, 1, 5] fun ρ hM => ?_))
    try simp only [go_sem, simprocAttr, hL, hX, w1_, w2_, w3_, w4_, w5_, w6_, putW0, putW1, putW2] at hM
    clear hK K hL
    revert ρ hM
    intro ρ hL
    repeat refine awl_seq ?_
    refine awl_regS _ rfl fun K hK => ?_
    try simp only [go_sem, simprocAttr, hL, hX, w1_, w2_, w3_, w4_, w5_, w6_, putW0, putW1, putW2]
    repeat' refine And.intro (by first | rfl | omega | (simp; done)) ?_
    refine hK _ _ (.mk (awl_live' [0, 1, 5] fun ρ hM => ?_))
    try simp only [go_sem, simprocAttr, hL, hX, w1_, w2_, w3_, w4_, w5_, w6_, putW0, putW1, putW2] at hM
    clear hK K hL
    revert ρ hM
    intro ρ hL
    repeat refine awl_seq ?_
    refine awl_regS _ rfl fun K hK => ?_
    try simp only [go_sem, simprocAttr, hL, hX, w1_, w2_, w3_, w4_, w5_, w6_, putW0, putW1, putW2]
    repeat' refine And.intro (by first | rfl | omega | (simp; done)) ?_
    refine hK _ _ (.mk (awl_live' [0, 1, 5] fun ρ hM => ?_))
    try simp only [go_sem, simprocAttr, hL, hX, w1_, w2_, w3_, w4_, w5_, w6_, putW0, putW1, putW2] at hM
    clear hK K hL
    revert ρ hM
    intro ρ hL
    repeat refine awl_seq ?_
    refine awl_regS _ rfl fun K hK => ?_
    try simp only [go_sem, simprocAttr, hL, hX, w1_, w2_, w3_, w4_, w5_, w6_, putW0, putW1, putW2]
    repeat' refine And.intro (by first | rfl | omega | (simp; done)) ?_
    refine hK _ _ (.mk (awl_live' [0, 1, 5] fun ρ hM => ?_))
    try simp only [go_sem, simprocAttr, hL, hX, w1_, w2_, w3_, w4_, w5_, w6_, putW0, putW1, putW2] at hM
    clear hK K hL
    revert ρ hM
    intro ρ hL
    repeat refine awl_seq ?_
    refine awl_regS _ rfl fun K hK => ?_
    try simp only [go_sem, simprocAttr, hL, hX, w1_, w2_, w3_, w4_, w5_, w6_, putW0, putW1, putW2]
    repeat' refine And.intro (by first | rfl | omega | (simp; done)) ?_
    refine hK _ _ (.mk (awl_live' [0, 1, 5] fun ρ hM => ?_))
    try simp only [go_sem, simprocAttr, hL, hX, w1_, w2_, w3_, w4_, w5_, w6_, putW0, putW1, putW2] at hM
    clear hK K hL
    revert ρ hM
    intro ρ hL
    repeat refine awl_seq ?_
    refine awl_regS _ rfl fun K hK => ?_
    try simp only [go_sem, simprocAttr, hL, hX, w1_, w2_, w3_, w4_, w5_, w6_, putW0, putW1, putW2]
    repeat' refine And.intro (by first | rfl | omega | (simp; done)) ?_
    refine hK _ _ (.mk (awl_live' [0, 1, 5] fun ρ hM => ?_))
    try simp only [go_sem, simprocAttr, hL, hX, w1_, w2_, w3_, w4_, w5_, w6_, putW0, putW1, putW2] at hM
    clear hK K hL
    revert ρ hM
    intro ρ hL
    repeat refine awl_seq ?_
    refine awl_regS _ rfl fun K hK => ?_
    try simp only [go_sem, simprocAttr, hL, hX, w1_, w2_, w3_, w4_, w5_, w6_, putW0, putW1, putW2]
    repeat' refine And.intro (by first | rfl | omega | (simp; done)) ?_
    refine hK _ _ (.mk (awl_live' [0, 1, 5] fun ρ hM => ?_))
    try simp only [go_sem, simprocAttr, hL, hX, w1_, w2_, w3_, w4_, w5_, w6_, putW0, putW1, putW2] at hM
    clear hK K hL
    revert ρ hM
    intro ρ hL
    repeat refine awl_seq ?_
    refine awl_regS _ rfl fun K hK => ?_
    try simp only [go_sem, simprocAttr, hL, hX, w1_, w2_, w3_, w4_, w5_, w6_, putW0, putW1, putW2]
    repeat' refine And.intro (by first | rfl | omega | (simp; done)) ?_
    refine hK _ _ (.mk (awl_live' [0, 1, 5] fun ρ hM => ?_))
    try simp only [go_sem, simprocAttr, hL, hX, w1_, w2_, w3_, w4_, w5_, w6_, putW0, putW1, putW2] at hM
    clear hK K hL
    revert ρ hM
    intro ρ hL
    repeat refine awl_seq ?_
    refine awl_regS _ rfl fun K hK => ?_
    try simp only [go_sem, simprocAttr, hL, hX, w1_, w2_, w3_, w4_, w5_, w6_, putW0, putW1, putW2]
    repeat' refine And.intro (by first | rfl | omega | (simp; done)) ?_
    refine hK _ _ (.mk (awl_live' [0, 1, 5] fun ρ hM => ?_))
    try simp only [go_sem, simprocAttr, hL, hX, w1_, w2_, w3_, w4_, w5_, w6_, putW0, putW1, putW2] at hM
    clear hK K hL
    revert ρ hM
    intro ρ hL
    repeat refine awl_seq ?_
    refine awl_regS _ rfl fun K hK => ?_
    try simp only [go_sem, simprocAttr, hL, hX, w1_, w2_, w3_, w4_, w5_, w6_, putW0, putW1, putW2]
    repeat' refine And.intro (by first | rfl | omega | (simp; done)) ?_
    refine hK _ _ (.mk (awl_live' [0, 1, 5] fun ρ hM => ?_))
    try simp only [go_sem, simprocAttr, hL, hX, w1_, w2_, w3_, w4_, w5_, w6_, putW0, putW1, putW2] at hM
    clear hK K hL
    revert ρ hM
    intro ρ hL
    repeat refine awl_seq ?_
    refine awl_regS _ rfl fun K hK => ?_
    try simp only [go_sem, simprocAttr, hL, hX, w1_, w2_, w3_, w4_, w5_, w6_, putW0, putW1, putW2]
    repeat' refine And.intro (by first | rfl | omega | (simp; done)) ?_
    refine hK _ _ (.mk (awl_live' [0, 1, 5] fun ρ hM => ?_))
    try simp only [go_sem, simprocAttr, hL, hX, w1_, w2_, w3_, w4_, w5_, w6_, putW0, putW1, putW2] at hM
    clear hK K hL
    revert ρ hM
    intro ρ hL
    refine awl_nil ?_
    refine blk_normal (hR1 _ _ (.mk ?_))
    have w1 : IntKind.i64.wrap ((i : Int) + 1) = ((i + 1 : Nat) : Int) := by rw [wrap64 (by omega)]; omega
    replace hX := And.intro w1 hX
    revert ρ hL
    refine zS [0, 1, 5] ?_
    intro ρ hL
    refine awl_nil ?_
    have h1 := hL.2.1
    refine loop_again _ ?meas ⟨i + 1, rfl, (by omega), ⟨(by simp only [go_sem, simprocAttr, hL, hX, e1]), (by rw [h1]; congr 1; omega), (hL.2.2)⟩, congrArg (fun l => [(⟨6, l, true, false⟩ : Blk)]) (mrow_rows (f := markW) (s := 6) (xs := xs.drop (i + 1)) hs rfl)⟩
    case meas => subst hn; omega
  · intro c1
    intro ρ hL
    refine awl_exit ?_
    refine loop_break ?_
    have h1 := hL.2.1
    exact ⟨(by rw [h1, show i = xs.length by omega]), by rw [show i = xs.length by omega, List.drop_length, rows_nil, List.append_nil]⟩
 case after1 =>
  clear hL
  obtain ⟨hL, hG⟩ := hJ
  subst hG
  revert ρ hL
  refine zS [4] ?_
  refine zK [] [0] ?_ ?_
  all_goals try simp only [go_sem, simprocAttr, hX]
  all_goals try clear hR1
  all_goals (first | done | rfl | (simp; done) | (simp [inR]; done) | (simp_all [inR]; done) | (simp [inR]; grind))
end
section
attribute [local go_sem] mrow_len
theorem sat_laws_heldWordS (z : Nat) (t : Int) (c : Nat) (hb : z ≤ 1099511627776) (ht : 0 ≤ t ∧ t ≤ 1099511627776) : Sat Tryz.prog 150 [.sl z c (rows (mrow markW 6 t z)), .int .i64 t] [] (.int .i64 (t + (6 * z : Nat))) [] := by
 have hX := trivial
 refine sat_mk [.tmp 4] 0 73 Tryz.call150 Tryz.func150 Tryz.ntmps150 rfl rfl rfl rfl rfl ?_
 refine zI [0, 1] ?_
 refine zS [0, 1] ?_
 refine zS [0, 1, 5] ?_
 intro ρ hL
 have e1 := hL
 refine awl_loopH (fun H0 n σ G => ∃ (i : Nat), n = z - i ∧ (i ≤ z) ∧ (liveE [0] σ ρ ∧ σ 1 = .int .i64 (t + (6 * i : Nat)) ∧ σ 5 = .int .i64 (i : Int)) ∧ G = H0) (fun H0 σ G => (σ 1 = .int .i64 (t + (6 * z : Nat))) ∧ G = H0) ((fun (i : Nat) => z - i) 0) ?init1 (fun n ρ G hI => ?round1) (fun ρ G hJ => ?after1)
 case init1 => exact ⟨0, rfl, (Nat.zero_le _), ⟨liveE_refl _ _, (by rw [hL.2.1]; simp), (hL.2.2)⟩, rfl⟩
 case round1 =>
  clear hL
  obtain ⟨i, hn, i1_0, hL, hG⟩ := hI
  subst hG
  try simp only [go_sem, simprocAttr, e1, hX] at hL
  revert ρ hL
  refine zS [0, 1, 5, 9] ?_
  refine zC ?_ ?_
  · intro c1
    have hi1 : i < z := by omega
    replace hX := And.intro hi1 hX
    intro ρ hL
    refine awl_skip ?_
    refine awl_seq ?_
    refine awl_block fun R1 hw1 hR1 => ?_
    obtain ⟨s, hs⟩ : ∃ s : Int, s = t + (6 * i : Nat) := ⟨_, rfl⟩
    rw [← hs] at hL
    have hm : (mrow markW 6 t z).getD i noWord = markW s := by rw [mrow_get hi1, hs]
    have w1_ : IntKind.i64.wrap (s + 1) = s + 1 := wrap64 (by omega)
    have w2_ : IntKind.i64.wrap (s + 1 + 1) = s + 2 := by rw [wrap64 (by omega)]; omega
    have w3_ : IntKind.i64.wrap (s + 2 + 1) = s + 3 := by rw [wrap64 (by omega)]; omega
    have w4_ : IntKind.i64.wrap (s + 3 + 1) = s + 4 := by rw [wrap64 (by omega)]; omega
    have w5_ : IntKind.i64.wrap (s + 4 + 1) = s + 5 := by rw [wrap64 (by omega)]; omega
    have w6_ : IntKind.i64.wrap (s + 5 + 1) = s + 6 := by rw [wrap64 (by omega)]; omega
    repeat refine awl_seq ?_
    refine awl_regS _ rfl fun K hK => ?_
    try simp only [go_sem, simprocAttr, hL, hX, w1_, w2_, w3_, w4_, w5_, w6_, hm, markW, mk3]
    repeat' refine And.intro (by first | rfl | omega | (simp; done)) ?_
    refine hK _ _ (.mk (awl_live' [0, 1, 5, 18] fun ρ hM => ?_))
    try simp only [go_sem, simprocAttr, hL, hX, w1_, w2_, w3_, w4_, w5_, w6_, hm, markW, mk3] at hM
    clear hK K hL
    revert ρ hM
    refine zQ ?_ ?_
    · intro c2
      try simp only [cnd] at c2
      simp at c2
    · intro c2
      try simp only [cnd] at c2
      intro ρ hL
      refine awl_skip ?_
      repeat refine awl_seq ?_
      refine awl_regS _ rfl fun K hK => ?_
      try simp only [go_sem, simprocAttr, hL, hX, w1_, w2_, w3_, w4_, w5_, w6_, hm, markW, mk3]
      repeat' refine And.intro (by first | rfl | omega | (simp; done)) ?_
      refine hK _ _ (.mk (awl_live' [0, 1, 5] fun ρ hM => ?_))
      try simp only [go_sem, simprocAttr, hL, hX, w1_, w2_, w3_, w4_, w5_, w6_, hm, markW, mk3] at hM
      clear hK K hL
      revert ρ hM
      intro ρ hL
      repeat refine awl_seq ?_
      refine awl_regS _ rfl fun K hK => ?_
      try simp only [go_sem, simprocAttr, hL, hX, w1_, w2_, w3_, w4_, w5_, w6_, hm, markW, mk3]
      repeat' refine And.intro (by first | rfl | omega | (simp; done)) ?_
      refine hK _ _ (.mk (awl_live' [0, 1, 5, 29] fun ρ hM => ?_))
      try simp only [go_sem, simprocAttr, hL, hX, w1_, w2_, w3_, w4_, w5_, w6_, hm, markW, mk3] at hM
      clear hK K hL
      revert ρ hM
      refine zQ ?_ ?_
      · intro c3
        try simp only [cnd] at c3
        simp at c3
      · intro c3
        try simp only [cnd] at c3
        intro ρ hL
        refine awl_skip ?_
        repeat refine awl_seq ?_
        refine awl_regS _ rfl fun K hK => ?_
        try simp only [go_sem, simprocAttr, hL, hX, w1_, w2_, w3_, w4_, w5_, w6_, hm, markW, mk3]
        repeat' refine And.intro (by first | rfl | omega | (simp; done)) ?_
        refine hK _ _ (.mk (awl_live' [0, 1, 5] fun ρ hM => ?_))
        try simp only [go_sem, simprocAttr, hL, hX, w1_, w2_, w3_, w4_, w5_, w6_, hm, markW, mk3] at hM
        clear hK K hL
        revert ρ hM
        intro ρ hL
        repeat refine awl_seq ?_
        refine awl_regS _ rfl fun K hK => ?_
        try simp only [go_sem, simprocAttr, hL, hX, w1_, w2_, w3_, w4_, w5_, w6_, hm, markW, mk3]
        repeat' refine And.intro (by first | rfl | omega | (simp; done)) ?_
        refine hK _ _ (.mk (awl_live' [0, 1, 5, 39] fun ρ hM => ?_))
        try simp only [go_sem, simprocAttr, hL, hX, w1_, w2_, w3_, w4_, w5_, w6_, hm, markW, mk3] at hM
        clear hK K hL
        revert ρ hM
        refine zQ ?_ ?_
        · intro c4
          try simp only [cnd] at c4
          simp at c4
        · intro c4
          try simp only [cnd] at c4
          intro ρ hL
          refine awl_skip ?_
          repeat refine awl_seq ?_
          refine awl_regS _ rfl fun K hK => ?_
          try simp only [go_sem, simprocAttr, hL, hX, w1_, w2_, w3_, w4_, w5_, w6_, hm, markW, mk3]
          repeat' refine And.intro (by first | rfl | omega | (simp; done)) ?_
          refine hK _ _ (.mk (awl_live' [0, 1, 5] fun ρ hM => ?_))
          try simp only [go_sem, simprocAttr, hL, hX, w1_, w2_, w3_, w4_, w5_, w6_, hm, markW, mk3] at hM
          clear hK K hL
          revert ρ hM
          intro ρ hL
          repeat refine awl_seq ?_
          refine awl_regS _ rfl fun K hK => ?_
          try simp only [go_sem, simprocAttr, hL, hX, w1_, w2_, w3_, w4_, w5_, w6_, hm, markW, mk3]
          repeat' refine And.intro (by first | rfl | omega | (simp; done)) ?_
          refine hK _ _ (.mk (awl_live' [0, 1, 5, 49] fun ρ hM => ?_))
          try simp only [go_sem, simprocAttr, hL, hX, w1_, w2_, w3_, w4_, w5_, w6_, hm, markW, mk3] at hM
          clear hK K hL
          revert ρ hM
          refine zQ ?_ ?_
          · intro c5
            try simp only [cnd] at c5
            simp at c5
          · intro c5
            try simp only [cnd] at c5
            intro ρ hL
            refine awl_skip ?_
            repeat refine awl_seq ?_
            refine awl_regS _ rfl fun K hK => ?_
            try simp only [go_sem, simprocAttr, hL, hX, w1_, w2_, w3_, w4_, w5_, w6_, hm, markW, mk3]
            repeat' refine And.intro (by first | rfl | omega | (simp; done)) ?_
            refine hK _ _ (.mk (awl_live' [0, 1, 5] fun ρ hM => ?_))
            try simp only [go_sem, simprocAttr, hL, hX, w1_, w2_, w3_, w4_, w5_, w6_, hm, markW, mk3] at hM
            clear hK K hL
            revert ρ hM
            intro ρ hL
            repeat refine awl_seq ?_
            refine awl_regS _ rfl fun K hK => ?_
            try simp only [go_sem, simprocAttr, hL, hX, w1_, w2_, w3_, w4_, w5_, w6_, hm, markW, mk3]
            repeat' refine And.intro (by first | rfl | omega | (simp; done)) ?_
            refine hK _ _ (.mk (awl_live' [0, 1, 5, 59] fun ρ hM => ?_))
            try simp only [go_sem, simprocAttr, hL, hX, w1_, w2_, w3_, w4_, w5_, w6_, hm, markW, mk3] at hM
            clear hK K hL
            revert ρ hM
            refine zQ ?_ ?_
            · intro c6
              try simp only [cnd] at c6
              simp at c6
            · intro c6
              try simp only [cnd] at c6
              intro ρ hL
              refine awl_skip ?_
              repeat refine awl_seq ?_
              refine awl_regS _ rfl fun K hK => ?_
              try simp only [go_sem, simprocAttr, hL, hX, w1_, w2_, w3_, w4_, w5_, w6_, hm, markW, mk3]
              repeat' refine And.intro (by first | rfl | omega | (simp; done)) ?_
              refine hK _ _ (.mk (awl_live' [0, 1, 5] fun ρ hM => ?_))
              try simp only [go_sem, simprocAttr, hL, hX, w1_, w2_, w3_, w4_, w5_, w6_, hm, markW, mk3] at hM
              clear hK K hL
              revert ρ hM
              intro ρ hL
              repeat refine awl_seq ?_
              refine awl_regS _ rfl fun K hK => ?_
              try simp only [go_sem, simprocAttr, hL, hX, w1_, w2_, w3_, w4_, w5_, w6_, hm, markW, mk3]
              repeat' refine And.intro (by first | rfl | omega | (simp; done)) ?_
              refine hK _ _ (.mk (awl_live' [0, 1, 5, 69] fun ρ hM => ?_))
              try simp only [go_sem, simprocAttr, hL, hX, w1_, w2_, w3_, w4_, w5_, w6_, hm, markW, mk3] at hM
              clear hK K hL
              revert ρ hM
              refine zQ ?_ ?_
              · intro c7
                try simp only [cnd] at c7
                simp at c7
              · intro c7
                try simp only [cnd] at c7
                intro ρ hL
                refine awl_skip ?_
                repeat refine awl_seq ?_
                refine awl_regS _ rfl fun K hK => ?_
                try simp only [go_sem, simprocAttr, hL, hX, w1_, w2_, w3_, w4_, w5_, w6_, hm, markW, mk3]
                repeat' refine And.intro (by first | rfl | omega | (simp; done)) ?_
                refine hK _ _ (.mk (awl_live' [0, 1, 5] fun ρ hM => ?_))
                try simp only [go_sem, simprocAttr, hL, hX, w1_, w2_, w3_, w4_, w5_, w6_, hm, markW, mk3] at hM
                clear hK K hL
                revert ρ hM
                intro ρ hL
                refine awl_nil ?_
                refine blk_normal (hR1 _ _ (.mk ?_))
                have w1 : IntKind.i64.wrap ((i : Int) + 1) = ((i + 1 : Nat) : Int) := by rw [wrap64 (by omega)]; omega
                replace hX := And.intro w1 hX
                revert ρ hL
                refine zS [0, 1, 5] ?_
                intro ρ hL
                refine awl_nil ?_
                have h1 := hL.2.1
                refine loop_again _ ?meas ⟨i + 1, rfl, (by omega), ⟨(by simp only [go_sem, simprocAttr, hL, hX, e1]), (by rw [h1]; congr 1; omega), (hL.2.2)⟩, rfl⟩
                case meas => subst hn; omega
  · intro c1
    intro ρ hL
    refine awl_exit ?_
    refine loop_break ?_
    have h1 := hL.2.1
    exact ⟨(by rw [h1, show i = z by omega]), rfl⟩
 case after1 =>
  clear hL
  obtain ⟨hL, hG⟩ := hJ
  subst hG
  revert ρ hL
  refine zS [4] ?_
  refine zR ?_
  try simp only [go_sem, simprocAttr]
  all_goals try clear hR1
  all_goals (first | done | rfl | (simp; done) | (simp [inR]; done) | (simp_all [inR]; done) | (simp [inR]; grind))
end
section
attribute [local go_sem] List.length_append List.length_drop List.length_cons mrow_len
theorem sat_laws_markBoolS (xs : List Bool) (t : Int) (c : Nat) (hb : xs.length ≤ 1099511627776) (ht : 0 ≤ t ∧ t ≤ 1099511627776) : Sat Tryz.prog 194 [.slice 0 0 xs.length c, .int .i64 t] [⟨1, rows xs, true, false⟩] (.int .i64 (t + (xs.length : Nat))) [⟨1, rows (mrow mk3 1 t xs.length), true, false⟩] := by
 have hX := trivial
 refine sat_mk [.tmp 4] 1 21 Tryz.call194 Tryz.func194 Tryz.ntmps194 rfl rfl rfl rfl rfl ?_
 refine zI [0, 1] ?_
 refine zS [0, 1] ?_
 refine zS [0, 1, 5] ?_
 intro ρ hL
 have e1 := hL
 refine awl_loopH (fun H0 n σ G => ∃ (i : Nat), n = xs.length - i ∧ (i ≤ xs.length) ∧ (liveE [0] σ ρ ∧ σ 1 = .int .i64 (t + (i : Nat)) ∧ σ 5 = .int .i64 (i : Int)) ∧ G = [⟨1, rows (mrow mk3 1 t i) ++ rows (xs.drop i), true, false⟩]) (fun H0 σ G => (σ 1 = .int .i64 (t + (xs.length : Nat))) ∧ G = [⟨1, rows (mrow mk3 1 t xs.length), true, false⟩]) ((fun (i : Nat) => xs.length - i) 0) ?init1 (fun n ρ G hI => ?round1) (fun ρ G hJ => ?after1)
 case init1 => exact ⟨0, rfl, (Nat.zero_le _), ⟨liveE_refl _ _, (by rw [hL.2.1]; simp), (hL.2.2)⟩, rfl⟩
 case round1 =>
  clear hL
  obtain ⟨i, hn, i1_0, hL, hG⟩ := hI
  subst hG
  try simp only [go_sem, simprocAttr, e1, hX] at hL
  revert ρ hL
  refine zS [0, 1, 5, 9] ?_
  refine zC ?_ ?_
  · intro c1
    have hi1 : i < xs.length := by omega
    replace hX := And.intro hi1 hX
    intro ρ hL
    refine awl_skip ?_
    refine awl_seq ?_
    refine awl_block fun R1 hw1 hR1 => ?_
    obtain ⟨s, hs⟩ : ∃ s : Int, s = t + (i : Nat) := ⟨_, rfl⟩
    rw [← hs] at hL
    have hd : rows (xs.drop i) = Enc.cells (xs.getD i false) ++ rows (xs.drop (i + 1)) := rows_split hi1
    rw [hd]
    have w1_ : IntKind.i64.wrap (s + 1) = s + 1 := wrap64 (by omega)
    repeat refine awl_seq ?_
    refine awl_regS _ rfl fun K hK => ?_
    try simp only [go_sem, simprocAttr, hL, hX, w1_, putB0]
    repeat' refine And.intro (by first | rfl | omega | (simp; done)) ?_
    refine hK _ _ (.mk (awl_live' [0, 1, 5] fun ρ hM => ?_))
    try simp only [go_sem, simprocAttr, hL, hX, w1_, putB0] at hM
    clear hK K hL
    revert ρ hM
    intro ρ hL
    repeat refine awl_seq ?_
    refine awl_regS _ rfl fun K hK => ?_
    try simp only [go_sem, simprocAttr, hL, hX, w1_, putB0]
    repeat' refine And.intro (by first | rfl | omega | (simp; done)) ?_
    refine hK _ _ (.mk (awl_live' [0, 1, 5] fun ρ hM => ?_))
    try simp only [go_sem, simprocAttr, hL, hX, w1_, putB0] at hM
    clear hK K hL
    revert ρ hM
    intro ρ hL
    refine awl_nil ?_
    refine blk_normal (hR1 _ _ (.mk ?_))
    have w1 : IntKind.i64.wrap ((i : Int) + 1) = ((i + 1 : Nat) : Int) := by rw [wrap64 (by omega)]; omega
    replace hX := And.intro w1 hX
    revert ρ hL
    refine zS [0, 1, 5] ?_
    intro ρ hL
    refine awl_nil ?_
    have h1 := hL.2.1
    refine loop_again _ ?meas ⟨i + 1, rfl, (by omega), ⟨(by simp only [go_sem, simprocAttr, hL, hX, e1]), (by rw [h1]; congr 1; omega), (hL.2.2)⟩, congrArg (fun l => [(⟨1, l, true, false⟩ : Blk)]) (mrow_rows (f := mk3) (s := 1) (xs := xs.drop (i + 1)) (by rw [hs, Nat.one_mul]) rfl)⟩
    case meas => subst hn; omega
  · intro c1
    intro ρ hL
    refine awl_exit ?_
    refine loop_break ?_
    have h1 := hL.2.1
    exact ⟨(by rw [h1, show i = xs.length by omega]), by rw [show i = xs.length by omega, List.drop_length, rows_nil, List.append_nil]⟩
 case after1 =>
  clear hL
  obtain ⟨hL, hG⟩ := hJ
  subst hG
  revert ρ hL
  refine zS [4] ?_
  refine zK [] [0] ?_ ?_
  all_goals try simp only [go_sem, simprocAttr, hX]
  all_goals try clear hR1
  all_goals (first | done | rfl | (simp; done) | (simp [inR]; done) | (simp_all [inR]; done) | (simp [inR]; grind))
end
section
attribute [local go_sem] mrow_len
theorem sat_laws_heldBoolS (z : Nat) (t : Int) (c : Nat) (hb : z ≤ 1099511627776) (ht : 0 ≤ t ∧ t ≤ 1099511627776) : Sat Tryz.prog 195 [.sl z c (rows (mrow mk3 1 t z)), .int .i64 t] [] (.int .i64 (t + (z : Nat))) [] := by
 have hX := trivial
 refine sat_mk [.tmp 4] 0 23 Tryz.call195 Tryz.func195 Tryz.ntmps195 rfl rfl rfl rfl rfl ?_
 refine zI [0, 1] ?_
 refine zS [0, 1] ?_
 refine zS [0, 1, 5] ?_
 intro ρ hL
 have e1 := hL
 refine awl_loopH (fun H0 n σ G => ∃ (i : Nat), n = z - i ∧ (i ≤ z) ∧ (liveE [0] σ ρ ∧ σ 1 = .int .i64 (t + (i : Nat)) ∧ σ 5 = .int .i64 (i : Int)) ∧ G = H0) (fun H0 σ G => (σ 1 = .int .i64 (t + (z : Nat))) ∧ G = H0) ((fun (i : Nat) => z - i) 0) ?init1 (fun n ρ G hI => ?round1) (fun ρ G hJ => ?after1)
 case init1 => exact ⟨0, rfl, (Nat.zero_le _), ⟨liveE_refl _ _, (by rw [hL.2.1]; simp), (hL.2.2)⟩, rfl⟩
 case round1 =>
  clear hL
  obtain ⟨i, hn, i1_0, hL, hG⟩ := hI
  subst hG
  try simp only [go_sem, simprocAttr, e1, hX] at hL
  revert ρ hL
  refine zS [0, 1, 5, 9] ?_
  refine zC ?_ ?_
  · intro c1
    have hi1 : i < z := by omega
    replace hX := And.intro hi1 hX
    intro ρ hL
    refine awl_skip ?_
    refine awl_seq ?_
    refine awl_block fun R1 hw1 hR1 => ?_
    obtain ⟨s, hs⟩ : ∃ s : Int, s = t + (i : Nat) := ⟨_, rfl⟩
    rw [← hs] at hL
    have hm : (mrow mk3 1 t z).getD i false = mk3 s := by rw [mrow_get hi1, Nat.one_mul, hs]
    have w1_ : IntKind.i64.wrap (s + 1) = s + 1 := wrap64 (by omega)
    repeat refine awl_seq ?_
    refine awl_regS _ rfl fun K hK => ?_
    try simp only [go_sem, simprocAttr, hL, hX, w1_, hm, mk3]
    repeat' refine And.intro (by first | rfl | omega | (simp; done)) ?_
    refine hK _ _ (.mk (awl_live' [0, 1, 5, 19] fun ρ hM => ?_))
    try simp only [go_sem, simprocAttr, hL, hX, w1_, hm, mk3] at hM
    clear hK K hL
    revert ρ hM
    refine zQ ?_ ?_
    · intro c2
      try simp only [cnd] at c2
      simp at c2
    · intro c2
      try simp only [cnd] at c2
      intro ρ hL
      refine awl_skip ?_
      repeat refine awl_seq ?_
      refine awl_regS _ rfl fun K hK => ?_
      try simp only [go_sem, simprocAttr, hL, hX, w1_, hm, mk3]
      repeat' refine And.intro (by first | rfl | omega | (simp; done)) ?_
      refine hK _ _ (.mk (awl_live' [0, 1, 5] fun ρ hM => ?_))
      try simp only [go_sem, simprocAttr, hL, hX, w1_, hm, mk3] at hM
      clear hK K hL
      revert ρ hM
      intro ρ hL
      refine awl_nil ?_
      refine blk_normal (hR1 _ _ (.mk ?_))
      have w1 : IntKind.i64.wrap ((i : Int) + 1) = ((i + 1 : Nat) : Int) := by rw [wrap64 (by omega)]; omega
      replace hX := And.intro w1 hX
      revert ρ hL
      refine zS [0, 1, 5] ?_
      intro ρ hL
      refine awl_nil ?_
      have h1 := hL.2.1
      refine loop_again _ ?meas ⟨i + 1, rfl, (by omega), ⟨(by simp only [go_sem, simprocAttr, hL, hX, e1]), (by rw [h1]; congr 1; omega), (hL.2.2)⟩, rfl⟩
      case meas => subst hn; omega
  · intro c1
    intro ρ hL
    refine awl_exit ?_
    refine loop_break ?_
    have h1 := hL.2.1
    exact ⟨(by rw [h1, show i = z by omega]), rfl⟩
 case after1 =>
  clear hL
  obtain ⟨hL, hG⟩ := hJ
  subst hG
  revert ρ hL
  refine zS [4] ?_
  refine zR ?_
  try simp only [go_sem, simprocAttr]
  all_goals try clear hR1
  all_goals (first | done | rfl | (simp; done) | (simp [inR]; done) | (simp_all [inR]; done) | (simp [inR]; grind))
end
section
attribute [local go_sem] List.length_append List.length_drop List.length_cons mrow_len
theorem sat_laws_markInsS (xs : List Ins) (t : Int) (c : Nat) (hb : xs.length ≤ 1099511627776) (ht : 0 ≤ t ∧ t ≤ 1099511627776) : Sat Tryz.prog 33 [.slice 0 0 xs.length c, .int .i64 t] [⟨5, rows xs, true, false⟩] (.int .i64 (t + (5 * xs.length : Nat))) [⟨5, rows (mrow markI 5 t xs.length), true, false⟩] := by
 have hX := trivial
 refine sat_mk [.tmp 4] 1 48 Tryz.call33 Tryz.func33 Tryz.ntmps33 rfl rfl rfl rfl rfl ?_
 refine zI [0, 1] ?_
 refine zS [0, 1] ?_
 refine zS [0, 1, 5] ?_
 intro ρ hL
 have e1 := hL
 refine awl_loopH (fun H0 n σ G => ∃ (i : Nat), n = xs.length - i ∧ (i ≤ xs.length) ∧ (liveE [0] σ ρ ∧ σ 1 = .int .i64 (t + (5 * i : Nat)) ∧ σ 5 = .int .i64 (i : Int)) ∧ G = [⟨5, rows (mrow markI 5 t i) ++ rows (xs.drop i), true, false⟩]) (fun H0 σ G => (σ 1 = .int .i64 (t + (5 * xs.length : Nat))) ∧ G = [⟨5, rows (mrow markI 5 t xs.length), true, false⟩]) ((fun (i : Nat) => xs.length - i) 0) ?init1 (fun n ρ G hI => ?round1) (fun ρ G hJ => ?after1)
 case init1 => exact ⟨0, rfl, (Nat.zero_le _), ⟨liveE_refl _ _, (by rw [hL.2.1]; simp), (hL.2.2)⟩, rfl⟩
 case round1 =>
  clear hL
  obtain ⟨i, hn, i1_0, hL, hG⟩ := hI
  subst hG
  try simp only [go_sem, simprocAttr, e1, hX] at hL
  revert ρ hL
  refine zS [0, 1, 5, 9] ?_
  refine zC ?_ ?_
  · intro c1
    have hi1 : i < xs.length := by omega
    replace hX := And.intro hi1 hX
    intro ρ hL
    refine awl_skip ?_
    refine awl_seq ?_
    refine awl_block fun R1 hw1 hR1 => ?_
    obtain ⟨s, hs⟩ : ∃ s : Int, s = t + (5 * i : Nat) := ⟨_, rfl⟩
    rw [← hs] at hL
    have hd : rows (xs.drop i) = Enc.cells (xs.getD i noIns) ++ rows (xs.drop (i + 1)) := rows_split hi1
    rw [hd]
    have w1_ : IntKind.i64.wrap (s + 1) = s + 1 := wrap64 (by omega)
    have w2_ : IntKind.i64.wrap (s + 1 + 1) = s + 2 := by rw [wrap64 (by omega)]; omega
    have w3_ : IntKind.i64.wrap (s + 2 + 1) = s + 3 := by rw [wrap64 (by omega)]; omega
    have w4_ : IntKind.i64.wrap (s + 3 + 1) = s + 4 := by rw [wrap64 (by omega)]; omega
    have w5_ : IntKind.i64.wrap (s + 4 + 1) = s + 5 := by rw [wrap64 (by omega)]; omega
    repeat refine awl_seq ?_
    refine awl_regS _ rfl fun K hK => ?_
    try simp only [go_sem, simprocAttr, hL, hX, w1_, w2_, w3_, w4_, w5_, putI0, putI1]
    repeat' refine And.intro (by first | rfl | omega | (simp; done)) ?_
    refine hK _ _ (.mk (awl_live' [0, 1, 5] fun ρ hM => ?_))
    try simp only [go_sem, simprocAttr, hL, hX, w1_, w2_, w3_, w4_, w5_, putI0, putI1] at hM
    clear hK K hL
    revert ρ hM
    intro ρ hL
    repeat refine awl_seq ?_
    refine awl_regS _ rfl fun K hK => ?_
    try simp only [go_sem, simprocAttr, hL, hX, w1_, w2_, w3_, w4_, w5_, putI0, putI1]
    repeat' refine And.intro (by first | rfl | omega | (simp; done)) ?_
    refine hK _ _ (.mk (awl_live' [0, 1, 5] fun ρ hM => ?_))
    try simp only [go_sem, simprocAttr, hL, hX, w1_, w2_, w3_, w4_, w5_, putI0, putI1] at hM
    clear hK K hL
    revert ρ hM
    intro ρ hL
    repeat refine awl_seq ?_
    refine awl_regS _ rfl fun K hK => ?_
    try simp only [go_sem, simprocAttr, hL, hX, w1_, w2_, w3_, w4_, w5_, putI0, putI1]
    repeat' refine And.intro (by first | rfl | omega | (simp; done)) ?_
    refine hK _ _ (.mk (awl_live' [0, 1, 5] fun ρ hM => ?_))
    try simp only [go_sem, simprocAttr, hL, hX, w1_, w2_, w3_, w4_, w5_, putI0, putI1] at hM
    clear hK K hL
    revert ρ hM
    intro ρ hL
    repeat refine awl_seq ?_
    refine awl_regS _ rfl fun K hK => ?_
    try simp only [go_sem, simprocAttr, hL, hX, w1_, w2_, w3_, w4_, w5_, putI0, putI1]
    repeat' refine And.intro (by first | rfl | omega | (simp; done)) ?_
    refine hK _ _ (.mk (awl_live' [0, 1, 5] fun ρ hM => ?_))
    try simp only [go_sem, simprocAttr, hL, hX, w1_, w2_, w3_, w4_, w5_, putI0, putI1] at hM
    clear hK K hL
    revert ρ hM
    intro ρ hL
    repeat refine awl_seq ?_
    refine awl_regS _ rfl fun K hK => ?_
    try simp only [go_sem, simprocAttr, hL, hX, w1_, w2_, w3_, w4_, w5_, putI0, putI1]
    repeat' refine And.intro (by first | rfl | omega | (simp; done)) ?_
    refine hK _ _ (.mk (awl_live' [0, 1, 5] fun ρ hM => ?_))
    try simp only [go_sem, simprocAttr, hL, hX, w1_, w2_, w3_, w4_, w5_, putI0, putI1] at hM
    clear hK K hL
    revert ρ hM
    intro ρ hL
    repeat refine awl_seq ?_
    refine awl_regS _ rfl fun K hK => ?_
    try simp only [go_sem, simprocAttr, hL, hX, w1_, w2_, w3_, w4_, w5_, putI0, putI1]
    repeat' refine And.intro (by first | rfl | omega | (simp; done)) ?_
    refine hK _ _ (.mk (awl_live' [0, 1, 5] fun ρ hM => ?_))
    try simp only [go_sem, simprocAttr, hL, hX, w1_, w2_, w3_, w4_, w5_, putI0, putI1] at hM
    clear hK K hL
    revert ρ hM
    intro ρ hL
    repeat refine awl_seq ?_
    refine awl_regS _ rfl fun K hK => ?_
    try simp only [go_sem, simprocAttr, hL, hX, w1_, w2_, w3_, w4_, w5_, putI0, putI1]
    repeat' refine And.intro (by first | rfl | omega | (simp; done)) ?_
    refine hK _ _ (.mk (awl_live' [0, 1, 5] fun ρ hM => ?_))
    try simp only [go_sem, simprocAttr, hL, hX, w1_, w2_, w3_, w4_, w5_, putI0, putI1] at hM
    clear hK K hL
    revert ρ hM
    intro ρ hL
    repeat refine awl_seq ?_
    refine awl_regS _ rfl fun K hK => ?_
    try simp only [go_sem, simprocAttr, hL, hX, w1_, w2_, w3_, w4_, w5_, putI0, putI1]
    repeat' refine And.intro (by first | rfl | omega | (simp; done)) ?_
    refine hK _ _ (.mk (awl_live' [0, 1, 5] fun ρ hM => ?_))
    try simp only [go_sem, simprocAttr, hL, hX, w1_, w2_, w3_, w4_, w5_, putI0, putI1] at hM
    clear hK K hL
    revert ρ hM
    intro ρ hL
    repeat refine awl_seq ?_
    refine awl_regS _ rfl fun K hK => ?_
    try simp only [go_sem, simprocAttr, hL, hX, w1_, w2_, w3_, w4_, w5_, putI0, putI1]
    repeat' refine And.intro (by first | rfl | omega | (simp; done)) ?_
    refine hK _ _ (.mk (awl_live' [0, 1, 5] fun ρ hM => ?_))
    try simp only [go_sem, simprocAttr, hL, hX, w1_, w2_, w3_, w4_, w5_, putI0, putI1] at hM
    clear hK K hL
    revert ρ hM
    intro ρ hL
    repeat refine awl_seq ?_
    refine awl_regS _ rfl fun K hK => ?_
    try simp only [go_sem, simprocAttr, hL, hX, w1_, w2_, w3_, w4_, w5_, putI0, putI1]
    repeat' refine And.intro (by first | rfl | omega | (simp; done)) ?_
    refine hK _ _ (.mk (awl_live' [0, 1, 5] fun ρ hM => ?_))
    try simp only [go_sem, simprocAttr, hL, hX, w1_, w2_, w3_, w4_, w5_, putI0, putI1] at hM
    clear hK K hL
    revert ρ hM
    intro ρ hL
    refine awl_nil ?_
    refine blk_normal (hR1 _ _ (.mk ?_))
    have w1 : IntKind.i64.wrap ((i : Int) + 1) = ((i + 1 : Nat) : Int) := by rw [wrap64 (by omega)]; omega
    replace hX := And.intro w1 hX
    revert ρ hL
    refine zS [0, 1, 5] ?_
    intro ρ hL
    refine awl_nil ?_
    have h1 := hL.2.1
    refine loop_again _ ?meas ⟨i + 1, rfl, (by omega), ⟨(by simp only [go_sem, simprocAttr, hL, hX, e1]), (by rw [h1]; congr 1; omega), (hL.2.2)⟩, congrArg (fun l => [(⟨5, l, true, false⟩ : Blk)]) (mrow_rows (f := markI) (s := 5) (xs := xs.drop (i + 1)) hs rfl)⟩
    case meas => subst hn; omega
  · intro c1
    intro ρ hL
    refine awl_exit ?_
    refine loop_break ?_
    have h1 := hL.2.1
    exact ⟨(by rw [h1, show i = xs.length by omega]), by rw [show i = xs.length by omega, List.drop_length, rows_nil, List.append_nil]⟩
 case after1 =>
  clear hL
  obtain ⟨hL, hG⟩ := hJ
  subst hG
  revert ρ hL
  refine zS [4] ?_
  refine zK [] [0] ?_ ?_
  all_goals try simp only [go_sem, simprocAttr, hX]
  all_goals try clear hR1
  all_goals (first | done | rfl | (simp; done) | (simp [inR]; done) | (simp_all [inR]; done) | (simp [inR]; grind))
end
section
attribute [local go_sem] mrow_len
theorem sat_laws_heldInsS (z : Nat) (t : Int) (c : Nat) (hb : z ≤ 1099511627776) (ht : 0 ≤ t ∧ t ≤ 1099511627776) : Sat Tryz.prog 36 [.sl z c (rows (mrow markI 5 t z)), .int .i64 t] [] (.int .i64 (t + (5 * z : Nat))) [] := by
 have hX := trivial
 refine sat_mk [.tmp 4] 0 58 Tryz.call36 Tryz.func36 Tryz.ntmps36 rfl rfl rfl rfl rfl ?_
 refine zI [0, 1] ?_
 refine zS [0, 1] ?_
 refine zS [0, 1, 5] ?_
 intro ρ hL
 have e1 := hL
 refine awl_loopH (fun H0 n σ G => ∃ (i : Nat), n = z - i ∧ (i ≤ z) ∧ (liveE [0] σ ρ ∧ σ 1 = .int .i64 (t + (5 * i : Nat)) ∧ σ 5 = .int .i64 (i : Int)) ∧ G = H0) (fun H0 σ G => (σ 1 = .int .i64 (t + (5 * z : Nat))) ∧ G = H0) ((fun (i : Nat) => z - i) 0) ?init1 (fun n ρ G hI => ?round1) (fun ρ G hJ => ?after1)
 case init1 => exact ⟨0, rfl, (Nat.zero_le _), ⟨liveE_refl _ _, (by rw [hL.2.1]; simp), (hL.2.2)⟩, rfl⟩
 case round1 =>
  clear hL
  obtain ⟨i, hn, i1_0, hL, hG⟩ := hI
  subst hG
  try simp only [go_sem, simprocAttr, e1, hX] at hL
  revert ρ hL
  refine zS [0, 1, 5, 9] ?_
  refine zC ?_ ?_
  · intro c1
    have hi1 : i < z := by omega
    replace hX := And.intro hi1 hX
    intro ρ hL
    refine awl_skip ?_
    refine awl_seq ?_
    refine awl_block fun R1 hw1 hR1 => ?_
    obtain ⟨s, hs⟩ : ∃ s : Int, s = t + (5 * i : Nat) := ⟨_, rfl⟩
    rw [← hs] at hL
    have hm : (mrow markI 5 t z).getD i noIns = markI s := by rw [mrow_get hi1, hs]
    have w1_ : IntKind.i64.wrap (s + 1) = s + 1 := wrap64 (by omega)
    have w2_ : IntKind.i64.wrap (s + 1 + 1) = s + 2 := by rw [wrap64 (by omega)]; omega
    have w3_ : IntKind.i64.wrap (s + 2 + 1) = s + 3 := by rw [wrap64 (by omega)]; omega
    have w4_ : IntKind.i64.wrap (s + 3 + 1) = s + 4 := by rw [wrap64 (by omega)]; omega
    have w5_ : IntKind.i64.wrap (s + 4 + 1) = s + 5 := by rw [wrap64 (by omega)]; omega
    repeat refine awl_seq ?_
    refine awl_regS _ rfl fun K hK => ?_
    try simp only [go_sem, simprocAttr, hL, hX, w1_, w2_, w3_, w4_, w5_, hm, markI]
    repeat' refine And.intro (by first | rfl | omega | (simp; done)) ?_
    refine hK _ _ (.mk (awl_live' [0, 1, 5, 18] fun ρ hM => ?_))
    try simp only [go_sem, simprocAttr, hL, hX, w1_, w2_, w3_, w4_, w5_, hm, markI] at hM
    clear hK K hL
    revert ρ hM
    refine zQ ?_ ?_
    · intro c2
      try simp only [cnd] at c2
      simp at c2
    · intro c2
      try simp only [cnd] at c2
      intro ρ hL
      refine awl_skip ?_
      repeat refine awl_seq ?_
      refine awl_regS _ rfl fun K hK => ?_
      try simp only [go_sem, simprocAttr, hL, hX, w1_, w2_, w3_, w4_, w5_, hm, markI]
      repeat' refine And.intro (by first | rfl | omega | (simp; done)) ?_
      refine hK _ _ (.mk (awl_live' [0, 1, 5] fun ρ hM => ?_))
      try simp only [go_sem, simprocAttr, hL, hX, w1_, w2_, w3_, w4_, w5_, hm, markI] at hM
      clear hK K hL
      revert ρ hM
      intro ρ hL
      repeat refine awl_seq ?_
      refine awl_regS _ rfl fun K hK => ?_
      try simp only [go_sem, simprocAttr, hL, hX, w1_, w2_, w3_, w4_, w5_, hm, markI]
      repeat' refine And.intro (by first | rfl | omega | (simp; done)) ?_
      refine hK _ _ (.mk (awl_live' [0, 1, 5, 27] fun ρ hM => ?_))
      try simp only [go_sem, simprocAttr, hL, hX, w1_, w2_, w3_, w4_, w5_, hm, markI] at hM
      clear hK K hL
      revert ρ hM
      refine zQ ?_ ?_
      · intro c3
        try simp only [cnd] at c3
        simp at c3
      · intro c3
        try simp only [cnd] at c3
        intro ρ hL
        refine awl_skip ?_
        repeat refine awl_seq ?_
        refine awl_regS _ rfl fun K hK => ?_
        try simp only [go_sem, simprocAttr, hL, hX, w1_, w2_, w3_, w4_, w5_, hm, markI]
        repeat' refine And.intro (by first | rfl | omega | (simp; done)) ?_
        refine hK _ _ (.mk (awl_live' [0, 1, 5] fun ρ hM => ?_))
        try simp only [go_sem, simprocAttr, hL, hX, w1_, w2_, w3_, w4_, w5_, hm, markI] at hM
        clear hK K hL
        revert ρ hM
        intro ρ hL
        repeat refine awl_seq ?_
        refine awl_regS _ rfl fun K hK => ?_
        try simp only [go_sem, simprocAttr, hL, hX, w1_, w2_, w3_, w4_, w5_, hm, markI]
        repeat' refine And.intro (by first | rfl | omega | (simp; done)) ?_
        refine hK _ _ (.mk (awl_live' [0, 1, 5, 36] fun ρ hM => ?_))
        try simp only [go_sem, simprocAttr, hL, hX, w1_, w2_, w3_, w4_, w5_, hm, markI] at hM
        clear hK K hL
        revert ρ hM
        refine zQ ?_ ?_
        · intro c4
          try simp only [cnd] at c4
          simp at c4
        · intro c4
          try simp only [cnd] at c4
          intro ρ hL
          refine awl_skip ?_
          repeat refine awl_seq ?_
          refine awl_regS _ rfl fun K hK => ?_
          try simp only [go_sem, simprocAttr, hL, hX, w1_, w2_, w3_, w4_, w5_, hm, markI]
          repeat' refine And.intro (by first | rfl | omega | (simp; done)) ?_
          refine hK _ _ (.mk (awl_live' [0, 1, 5] fun ρ hM => ?_))
          try simp only [go_sem, simprocAttr, hL, hX, w1_, w2_, w3_, w4_, w5_, hm, markI] at hM
          clear hK K hL
          revert ρ hM
          intro ρ hL
          repeat refine awl_seq ?_
          refine awl_regS _ rfl fun K hK => ?_
          try simp only [go_sem, simprocAttr, hL, hX, w1_, w2_, w3_, w4_, w5_, hm, markI]
          repeat' refine And.intro (by first | rfl | omega | (simp; done)) ?_
          refine hK _ _ (.mk (awl_live' [0, 1, 5, 45] fun ρ hM => ?_))
          try simp only [go_sem, simprocAttr, hL, hX, w1_, w2_, w3_, w4_, w5_, hm, markI] at hM
          clear hK K hL
          revert ρ hM
          refine zQ ?_ ?_
          · intro c5
            try simp only [cnd] at c5
            simp at c5
          · intro c5
            try simp only [cnd] at c5
            intro ρ hL
            refine awl_skip ?_
            repeat refine awl_seq ?_
            refine awl_regS _ rfl fun K hK => ?_
            try simp only [go_sem, simprocAttr, hL, hX, w1_, w2_, w3_, w4_, w5_, hm, markI]
            repeat' refine And.intro (by first | rfl | omega | (simp; done)) ?_
            refine hK _ _ (.mk (awl_live' [0, 1, 5] fun ρ hM => ?_))
            try simp only [go_sem, simprocAttr, hL, hX, w1_, w2_, w3_, w4_, w5_, hm, markI] at hM
            clear hK K hL
            revert ρ hM
            intro ρ hL
            repeat refine awl_seq ?_
            refine awl_regS _ rfl fun K hK => ?_
            try simp only [go_sem, simprocAttr, hL, hX, w1_, w2_, w3_, w4_, w5_, hm, markI]
            repeat' refine And.intro (by first | rfl | omega | (simp; done)) ?_
            refine hK _ _ (.mk (awl_live' [0, 1, 5, 54] fun ρ hM => ?_))
            try simp only [go_sem, simprocAttr, hL, hX, w1_, w2_, w3_, w4_, w5_, hm, markI] at hM
            clear hK K hL
            revert ρ hM
            refine zQ ?_ ?_
            · intro c6
              try simp only [cnd] at c6
              simp at c6
            · intro c6
              try simp only [cnd] at c6
              intro ρ hL
              refine awl_skip ?_
              repeat refine awl_seq ?_
              refine awl_regS _ rfl fun K hK => ?_
              try simp only [go_sem, simprocAttr, hL, hX, w1_, w2_, w3_, w4_, w5_, hm, markI]
              repeat' refine And.intro (by first | rfl | omega | (simp; done)) ?_
              refine hK _ _ (.mk (awl_live' [0, 1, 5] fun ρ hM => ?_))
              try simp only [go_sem, simprocAttr, hL, hX, w1_, w2_, w3_, w4_, w5_, hm, markI] at hM
              clear hK K hL
              revert ρ hM
              intro ρ hL
              refine awl_nil ?_
              refine blk_normal (hR1 _ _ (.mk ?_))
              have w1 : IntKind.i64.wrap ((i : Int) + 1) = ((i + 1 : Nat) : Int) := by rw [wrap64 (by omega)]; omega
              replace hX := And.intro w1 hX
              revert ρ hL
              refine zS [0, 1, 5] ?_
              intro ρ hL
              refine awl_nil ?_
              have h1 := hL.2.1
              refine loop_again _ ?meas ⟨i + 1, rfl, (by omega), ⟨(by simp only [go_sem, simprocAttr, hL, hX, e1]), (by rw [h1]; congr 1; omega), (hL.2.2)⟩, rfl⟩
              case meas => subst hn; omega
  · intro c1
    intro ρ hL
    refine awl_exit ?_
    refine loop_break ?_
    have h1 := hL.2.1
    exact ⟨(by rw [h1, show i = z by omega]), rfl⟩
 case after1 =>
  clear hL
  obtain ⟨hL, hG⟩ := hJ
  subst hG
  revert ρ hL
  refine zS [4] ?_
  refine zR ?_
  try simp only [go_sem, simprocAttr]
  all_goals try clear hR1
  all_goals (first | done | rfl | (simp; done) | (simp [inR]; done) | (simp_all [inR]; done) | (simp [inR]; grind))
end
section
attribute [local go_sem] Mem.marked
theorem sat_laws_markMemory (m : Mem) (t : Int) (hf : m.fit) (ht : 0 ≤ t ∧ t ≤ 1099500000000) : Sat Tryz.prog 149 [.agg (m.own 0 1), .int .i64 t] m.blks (.int .i64 (t + (m.cost : Nat))) (m.marked t).blks := by
 have hX := trivial
 refine sat_mk [.tmp 4] 2 14 Tryz.call149 Tryz.func149 Tryz.ntmps149 rfl rfl rfl rfl rfl ?_
 refine zI [0, 1] ?_
 refine zG [0, 1, 2] [1, 2] ?_
 intro ρ hL
 refine zA ?_
 intro K hK
 refine zFI [0] (sat_laws_markWordS m.words t 0 (Nat.le_trans hf.1 (by decide)) (by omega)) ?_
 refine zEG [0, 1, 2] [1, 2] ?_
 clear hK K hL
 intro ρ hL
 refine zA ?_
 intro K hK
 refine zFI [1] (sat_laws_markBoolS m.gone (t + (6 * m.words.length : Nat)) 0 (Nat.le_trans hf.2 (by decide)) (by have := hf.1; omega)) ?_
 refine zEG [0, 1] [1] ?_
 clear hK K hL
 refine zG [0, 1] [4] ?_
 refine zK [] [0, 1] ?_ ?_
 all_goals try simp only [go_sem, simprocAttr, hX]
 all_goals (first | done | rfl | (congr 1; simp only [Mem.cost, Stt.cost]; omega))
end
section
attribute [local go_sem] Mem.marked Stt.marked
theorem sat_laws_markState (s : Stt) (t : Int) (hf : s.fit) (ht : 0 ≤ t ∧ t ≤ 1099400000000) : Sat Tryz.prog 81 [.agg (s.own 0 1 2), .int .i64 t] s.blks (.int .i64 (t + (s.cost : Nat))) (s.marked t).blks := by
 have hX := trivial
 refine sat_mk [.tmp 4] 3 14 Tryz.call81 Tryz.func81 Tryz.ntmps81 rfl rfl rfl rfl rfl ?_
 refine zI [0, 1] ?_
 refine zG [0, 1, 2, 3] [1, 2] ?_
 intro ρ hL
 refine zA ?_
 intro K hK
 refine zFI [0] (sat_laws_markWordS s.regs t 0 (Nat.le_trans hf.1 (by decide)) (by omega)) ?_
 refine zEG [0, 1, 2, 3] [1, 2] ?_
 clear hK K hL
 intro ρ hL
 refine zA ?_
 intro K hK
 refine zFI [1, 2] (sat_laws_markMemory s.mem (t + (6 * s.regs.length : Nat)) hf.2 (by have := hf.1; omega)) ?_
 refine zEG [0, 1, 2] [1] ?_
 clear hK K hL
 refine zG [0, 1, 2] [4] ?_
 refine zK [] [0, 1, 2] ?_ ?_
 all_goals try simp only [go_sem, simprocAttr, hX]
 all_goals (first | done | rfl | (congr 1; simp only [Mem.cost, Stt.cost]; omega))
end
section
attribute [local go_sem] Mem.marked mrow_len
theorem sat_laws_heldMemory (m : Mem) (t : Int) (hf : m.fit) (ht : 0 ≤ t ∧ t ≤ 1099500000000) : Sat Tryz.prog 151 [.agg (Mem.cells (m.marked t)), .int .i64 t] [] (.int .i64 (t + (m.cost : Nat))) [] := by
 have hX := trivial
 refine sat_mk [.tmp 4] 0 18 Tryz.call151 Tryz.func151 Tryz.ntmps151 rfl rfl rfl rfl rfl ?_
 refine zI [0, 1] ?_
 refine zS [1, 2] ?_
 refine zSF [1, 2] (sat_laws_heldWordS m.words.length t m.words.length (Nat.le_trans hf.1 (by decide)) (by omega)) ?_
 refine zS [1, 2, 10] ?_
 refine zQ ?_ ?_
 · intro c1
   try simp only [cnd] at c1
   omega
 · intro c1
   try simp only [cnd] at c1
   intro ρ hL
   refine awl_skip ?_
   revert ρ hL
   refine zSF [1] (sat_laws_heldBoolS m.gone.length (t + (6 * m.words.length : Nat)) m.gone.length (Nat.le_trans hf.2 (by decide)) (by have := hf.1; omega)) ?_
   refine zS [1, 16] ?_
   refine zQ ?_ ?_
   · intro c2
     try simp only [cnd] at c2
     omega
   · intro c2
     try simp only [cnd] at c2
     intro ρ hL
     refine awl_skip ?_
     revert ρ hL
     refine zS [4] ?_
     refine zR ?_
     try simp only [go_sem, simprocAttr]
     all_goals (first | done | rfl | (congr 1; simp only [Mem.cost, Stt.cost]; omega))
end
section
attribute [local go_sem] Mem.marked Stt.marked mrow_len
theorem sat_laws_heldState (s : Stt) (t : Int) (hf : s.fit) (ht : 0 ≤ t ∧ t ≤ 1099400000000) : Sat Tryz.prog 83 [.agg (Stt.cells (s.marked t)), .int .i64 t] [] (.int .i64 (t + (s.cost : Nat))) [] := by
 have hX := trivial
 refine sat_mk [.tmp 4] 0 18 Tryz.call83 Tryz.func83 Tryz.ntmps83 rfl rfl rfl rfl rfl ?_
 refine zI [0, 1] ?_
 refine zS [1, 2] ?_
 refine zSF [1, 2] (sat_laws_heldWordS s.regs.length t s.regs.length (Nat.le_trans hf.1 (by decide)) (by omega)) ?_
 refine zS [1, 2, 10] ?_
 refine zQ ?_ ?_
 · intro c1
   try simp only [cnd] at c1
   omega
 · intro c1
   try simp only [cnd] at c1
   intro ρ hL
   refine awl_skip ?_
   revert ρ hL
   refine zSF [1] (sat_laws_heldMemory s.mem (t + (6 * s.regs.length : Nat)) hf.2 (by have := hf.1; omega)) ?_
   refine zS [1, 16] ?_
   refine zQ ?_ ?_
   · intro c2
     try simp only [cnd] at c2
     omega
   · intro c2
     try simp only [cnd] at c2
     intro ρ hL
     refine awl_skip ?_
     revert ρ hL
     refine zS [4] ?_
     refine zR ?_
     try simp only [go_sem, simprocAttr]
     all_goals (first | done | rfl | (congr 1; simp only [Mem.cost, Stt.cost]; omega))
end
end Go.Proofs.YtgpjgljgplngpaaGreatDoor.AM
