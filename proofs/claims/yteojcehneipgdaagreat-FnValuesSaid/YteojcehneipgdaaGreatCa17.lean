/- What is ready. No conditions but those each theorem bears. -/
import Derived.Test.YteojcehneipgdaaGreatFa
import Derived.Test.YteojcehneipgdaaGreatM5
import Derived.Test.YteojcehneipgdaaGreatCa14b
set_option linter.unusedSimpArgs false
set_option linter.unusedVariables false
namespace Go.Proofs.YteojcehneipgdaaGreat.AM
open Go
set_option maxHeartbeats 8000000
set_option maxRecDepth 100000

theorem sat_spec_Ready (c : Cor) (i : Int) (hf : c.fit) : Sat Tryz.prog 64 [.agg c.cells, .int .i64 i] [] (.bool (ready c i)) [] := by
 have hX := trivial
 refine sat_mk [.tmp 4] 0 104 Tryz.call64 Tryz.func64 Tryz.ntmps64 rfl rfl rfl rfl rfl ?_
 refine zI [0, 1] ?_
 refine zS [1, 2] ?_
 have hf1 := hf.2.1
 have w0 : IntKind.i64.wrap ((c.rob.length : Int) - 1) = (c.rob.length : Int) - 1 := wrap64 (by omega)
 have hX0 := hX
 replace hX := And.intro w0 hX
 intro ρ hL
 refine zA ?_
 intro K hK
 refine zF (sat_spec_CoreOk c hf) ?_
 refine zL [1, 2, 16] ?_
 clear hL
 intro ρ hL
 refine grp_orN (tc := 16) (tv := 23) (td := 24) (v := ?v1) 7 rfl [1, 2] hL.2.2 rfl (fun hb K1 hK1 => ?run) (fun hb => ?skip) (fun ρ hP hM => ?_)
 case skip => exact skA (want := false) (b := _) (by rw [hb]; rfl) hL.2.2 rfl
 case run =>
  simp only [List.take_succ_cons, List.take_zero]
  rw [hb] at hL
  try simp only [go_sem, simprocAttr, hL, hX]
  repeat' refine And.intro (by first | rfl | omega | (simp; done)) ?_
  refine zF (sat_spec_l1In _ _ _) ?_
  refine hK1 _ ?_ ?_ ?_ <;> simp only [go_sem, simprocAttr, hL, hX] <;> exact rfl
 simp only [List.drop_succ_cons, List.drop_zero]
 try simp only [go_sem, simprocAttr, hL, hX] at hM
 replace hL := And.intro hP hM
 clear hP hM
 try simp only [go_sem, simprocAttr, hL, hX]
 repeat' refine And.intro (by first | rfl | omega | (simp; done)) ?_
 refine zL [1, 2, 25] ?_
 clear hL
 intro ρ hL
 refine grp_orN (tc := 25) (tv := 31) (td := 32) (v := ?v2) 6 rfl [1, 2] hL.2.2 rfl (fun hb K1 hK1 => ?run) (fun hb => ?skip) (fun ρ hP hM => ?_)
 case skip => exact skA (want := false) (b := _) (by rw [hb]; rfl) hL.2.2 rfl
 case run =>
  simp only [List.take_succ_cons, List.take_zero]
  rw [hb] at hL
  have hb2 : inR i 0 ((c.rob.length : Int) - 1) = true := by revert hb; cases inR i 0 ((c.rob.length : Int) - 1) <;> simp
  have hw := inR_iff.1 hb2
  have hn2 : i.toNat < c.rob.length := by omega
  try simp only [go_sem, simprocAttr, hL, hX, hn2]
  repeat' refine And.intro (by first | rfl | omega | (simp; done)) ?_
  refine hK1 _ ?_ ?_ ?_ <;> simp only [go_sem, simprocAttr, hL, hX, hn2] <;> exact rfl
 simp only [List.drop_succ_cons, List.drop_zero]
 try simp only [go_sem, simprocAttr, hL, hX] at hM
 replace hL := And.intro hP hM
 clear hP hM
 try simp only [go_sem, simprocAttr, hL, hX]
 repeat' refine And.intro (by first | rfl | omega | (simp; done)) ?_
 refine zE [1, 2, 32] ?_
 clear hK K hL
 clear hX
 have hX := hX0
 clear hX0
 refine zC ?_ ?_
 · intro c1
   refine zS [4] ?_
   refine zR ?_
   try simp only [go_sem, simprocAttr]
   all_goals (rw [ready_no (by rintro ⟨a, b, d⟩; rw [a, b, d] at c1; simp at c1)])
 · intro c1
   intro ρ hL
   refine awl_skip ?_
   have hc0 : corOk c = true ∧ inR i 0 ((c.rob.length : Int) - 1) = true ∧ (c.rob.getD i.toNat noEnt).done = false := by revert c1; cases corOk c <;> cases inR i 0 ((c.rob.length : Int) - 1) <;> cases (c.rob.getD i.toNat noEnt).done <;> simp
   have hw := inR_iff.1 hc0.2.1
   have hn2 : i.toNat < c.rob.length := by omega
   have hk := ent_regs hc0.1 hn2
   have hX0 := hX
   replace hX := And.intro hn2 hX
   revert ρ hL
   refine zS [1, 2, 5] ?_
   clear hX
   have hX := hX0
   clear hX0
   refine zSF [1, 2, 5, 6] (sat_spec_l6Has (c.rob.getD i.toNat noEnt).x.op) ?_
   refine zSF [1, 2, 5, 6, 8] (sat_spec_l12Value c i (c.rob.getD i.toNat noEnt).x.a hf (corOk_reg hc0.1 hk.2.1)) ?_
   refine zSF [1, 2, 5, 6, 8, 10] (sat_spec_l12Value c i (c.rob.getD i.toNat noEnt).x.b hf (corOk_reg hc0.1 hk.2.2)) ?_
   intro ρ hL
   refine zA ?_
   intro K hK
   refine zL [1, 2, 5, 6, 8, 10, 61] ?_
   clear hL
   intro ρ hL
   refine grp_andN (tc := 61) (tv := 63) (td := 64) (v := ?v3) 2 rfl [1, 2, 5, 6, 10] hL.2.2.2.2.2.2 rfl (fun hb K1 hK1 => ?run) (fun hb => ?skip) (fun ρ hP hM => ?_)
   case skip => exact skA (want := true) (b := _) (by rw [hb]; rfl) hL.2.2.2.2.2.2 rfl
   case run =>
    simp only [List.take_succ_cons, List.take_zero]
    rw [hb] at hL
    try simp only [go_sem, simprocAttr, hL, hX]
    repeat' refine And.intro (by first | rfl | omega | (simp; done)) ?_
    refine hK1 _ ?_ ?_ ?_ <;> simp only [go_sem, simprocAttr, hL, hX] <;> exact rfl
   simp only [List.drop_succ_cons, List.drop_zero]
   try simp only [go_sem, simprocAttr, hL, hX] at hM
   replace hL := And.intro hP hM
   clear hP hM
   try simp only [go_sem, simprocAttr, hL, hX]
   repeat' refine And.intro (by first | rfl | omega | (simp; done)) ?_
   refine zL [1, 2, 5, 6, 10, 65] ?_
   clear hL
   intro ρ hL
   refine grp_orN (tc := 65) (tv := 72) (td := 73) (v := ?v4) 7 rfl [1, 2, 5] hL.2.2.2.2.2 rfl (fun hb K1 hK1 => ?run) (fun hb => ?skip) (fun ρ hP hM => ?_)
   case skip => exact skA (want := false) (b := _) (by rw [hb]; rfl) hL.2.2.2.2.2 rfl
   case run =>
    simp only [List.take_succ_cons, List.take_zero]
    rw [hb] at hL
    have g5 := hL
    have hK1_5 := hK1
    try simp only [go_sem, simprocAttr, hL, hX]
    repeat' refine And.intro (by first | rfl | omega | (simp; done)) ?_
    refine zL [1, 2, 5, 10, 65, 69] ?_
    clear hL
    intro ρ hL
    refine grp_andGN (tc := 69) (tv := 71) (td := 72) (v := ?v6) 2 65 false rfl hL.2.2.2.2.1 [1, 2, 5, 65] rfl hL.2.2.2.2.2 rfl (fun hb K1 hK1 => ?run) (fun hb => ?skip) (fun ρ hP hM => ?_)
    case skip => exact skA (want := true) (b := _) (by rw [hb]; rfl) hL.2.2.2.2.2 rfl
    case run =>
     simp only [List.take_succ_cons, List.take_zero]
     rw [hb] at hL
     try simp only [go_sem, simprocAttr, hL, hX]
     repeat' refine And.intro (by first | rfl | omega | (simp; done)) ?_
     refine hK1 _ ?_ ?_ ?_ <;> simp only [go_sem, simprocAttr, hL, hX] <;> exact rfl
    simp only [List.drop_succ_cons, List.drop_zero]
    try simp only [go_sem, simprocAttr, hL, hX] at hM
    replace hL := And.intro hP hM
    clear hP hM
    try simp only [go_sem, simprocAttr, hL, hX]
    repeat' refine And.intro (by first | rfl | omega | (simp; done)) ?_
    refine hK1_5 _ ?_ ?_ ?_ <;> simp only [go_sem, simprocAttr, hL, hX, g5] <;> exact rfl
   simp only [List.drop_succ_cons, List.drop_zero]
   try simp only [go_sem, simprocAttr, hL, hX] at hM
   replace hL := And.intro hP hM
   clear hP hM
   try simp only [go_sem, simprocAttr, hL, hX]
   repeat' refine And.intro (by first | rfl | omega | (simp; done)) ?_
   refine zE [1, 2, 5, 73] ?_
   clear hK K hL
   refine zC ?_ ?_
   · intro c2
     refine zS [4] ?_
     refine zR ?_
     try simp only [go_sem, simprocAttr]
     all_goals (rw [ready_eq hc0]; rcases c2 with ⟨a, b⟩ | ⟨a, b⟩ <;> (first | rw [hasA_of a, b] | rw [hasB_of a, b]) <;> simp only [Bool.not_false, Bool.not_true, Bool.or_false, Bool.and_false, Bool.false_and])
   · intro c2
     intro ρ hL
     refine awl_skip ?_
     revert ρ hL
     refine zS [1, 2, 5, 11] ?_
     intro ρ hL
     have e1 := hL
     refine awl_loopH (fun H0 n σ G => ∃ (k : Nat), n = i.toNat - k ∧ (k ≤ i.toNat) ∧ ((c.rob.take k).any waits = false) ∧ (liveE [1, 2, 5] σ ρ ∧ σ 11 = .int .i64 (k : Int)) ∧ G = H0) (fun H0 σ G => ((c.rob.getD i.toNat noEnt).x.op = 10 → (c.rob.take i.toNat).any waits = false) ∧ (True) ∧ G = H0) ((fun (k : Nat) => i.toNat - k) 0) ?init1 (fun n ρ G hI => ?round1) (fun ρ G hJ => ?after1)
     case init1 => exact ⟨0, rfl, (Nat.zero_le _), (rfl), ⟨liveE_refl _ _, (hL.2.2.2)⟩, rfl⟩
     case round1 =>
      clear hL
      obtain ⟨k, hn, i1_0, i1_1, hL, hG⟩ := hI
      subst hG
      try simp only [go_sem, simprocAttr, e1, hX] at hL
      refine zA ?_
      intro K hK
      refine zL [1, 2, 5, 11, 77] ?_
      clear hL
      intro ρ hL
      refine grp_andN (tc := 77) (tv := 80) (td := 81) (v := ?v7) 3 rfl [1, 2, 5, 11] hL.2.2.2.2 rfl (fun hb K1 hK1 => ?run) (fun hb => ?skip) (fun ρ hP hM => ?_)
      case skip => exact skA (want := true) (b := _) (by rw [hb]; rfl) hL.2.2.2.2 rfl
      case run =>
       simp only [List.take_succ_cons, List.take_zero]
       rw [hb] at hL
       try simp only [go_sem, simprocAttr, hL, hX]
       repeat' refine And.intro (by first | rfl | omega | (simp; done)) ?_
       refine hK1 _ ?_ ?_ ?_ <;> simp only [go_sem, simprocAttr, hL, hX] <;> exact rfl
      simp only [List.drop_succ_cons, List.drop_zero]
      try simp only [go_sem, simprocAttr, hL, hX] at hM
      replace hL := And.intro hP hM
      clear hP hM
      try simp only [go_sem, simprocAttr, hL, hX]
      repeat' refine And.intro (by first | rfl | omega | (simp; done)) ?_
      refine zE [1, 2, 5, 11, 81] ?_
      clear hK K hL
      refine zC ?_ ?_
      · intro c3
        have hi1 : k < i.toNat := by omega
        replace hX := And.intro hi1 hX
        intro ρ hL
        refine awl_skip ?_
        refine awl_seq ?_
        refine awl_block fun R1 hw1 hR1 => ?_
        have hk2 : k < c.rob.length := by omega
        have hX0 := hX
        replace hX := And.intro hk2 hX
        revert ρ hL
        refine zS [1, 2, 5, 11, 12] ?_
        clear hX
        have hX := hX0
        clear hX0
        intro ρ hL
        refine zA ?_
        intro K hK
        refine zL [1, 2, 5, 11, 12, 93] ?_
        clear hL
        intro ρ hL
        refine grp_andN (tc := 93) (tv := 96) (td := 97) (v := ?v8) 3 rfl [1, 2, 5, 11, 12] hL.2.2.2.2.2 rfl (fun hb K1 hK1 => ?run) (fun hb => ?skip) (fun ρ hP hM => ?_)
        case skip => exact skA (want := true) (b := _) (by rw [hb]; rfl) hL.2.2.2.2.2 rfl
        case run =>
         simp only [List.take_succ_cons, List.take_zero]
         rw [hb] at hL
         try simp only [go_sem, simprocAttr, hL, hX]
         repeat' refine And.intro (by first | rfl | omega | (simp; done)) ?_
         refine hK1 _ ?_ ?_ ?_ <;> simp only [go_sem, simprocAttr, hL, hX] <;> exact rfl
        simp only [List.drop_succ_cons, List.drop_zero]
        try simp only [go_sem, simprocAttr, hL, hX] at hM
        replace hL := And.intro hP hM
        clear hP hM
        try simp only [go_sem, simprocAttr, hL, hX]
        repeat' refine And.intro (by first | rfl | omega | (simp; done)) ?_
        refine zL [1, 2, 5, 11, 12, 98] ?_
        clear hL
        intro ρ hL
        refine grp_orN (tc := 98) (tv := 102) (td := 103) (v := ?v9) 4 rfl [1, 2, 5, 11] hL.2.2.2.2.2 rfl (fun hb K1 hK1 => ?run) (fun hb => ?skip) (fun ρ hP hM => ?_)
        case skip => exact skA (want := false) (b := _) (by rw [hb]; rfl) hL.2.2.2.2.2 rfl
        case run =>
         simp only [List.take_succ_cons, List.take_zero]
         rw [hb] at hL
         try simp only [go_sem, simprocAttr, hL, hX]
         repeat' refine And.intro (by first | rfl | omega | (simp; done)) ?_
         refine hK1 _ ?_ ?_ ?_ <;> simp only [go_sem, simprocAttr, hL, hX] <;> exact rfl
        simp only [List.drop_succ_cons, List.drop_zero]
        try simp only [go_sem, simprocAttr, hL, hX] at hM
        replace hL := And.intro hP hM
        clear hP hM
        try simp only [go_sem, simprocAttr, hL, hX]
        repeat' refine And.intro (by first | rfl | omega | (simp; done)) ?_
        refine zE [1, 2, 5, 11, 103] ?_
        clear hK K hL
        refine zC ?_ ?_
        · intro c4
          refine zS [4] ?_
          refine zR ?_
          try simp only [go_sem, simprocAttr]
          all_goals try clear hR1
          all_goals (have hy : waits (c.rob.getD k noEnt) = true := (by simp only [waits, Bool.or_eq_true, Bool.and_eq_true, decide_eq_true_eq, Bool.not_eq_true']; exact c4); rw [ready_eq hc0, any_at (d := noEnt) (show k < i.toNat by omega) hk2 hy, decide_eq_true c3.2]; simp only [Bool.not_true, Bool.or_false, Bool.and_false])
        · intro c4
          intro ρ hL
          refine awl_skip ?_
          refine awl_nil ?_
          refine blk_normal (hR1 _ _ (.mk ?_))
          have w1 : IntKind.i64.wrap ((k : Int) + 1) = ((k + 1 : Nat) : Int) := by rw [wrap64 (by omega)]; omega
          replace hX := And.intro w1 hX
          revert ρ hL
          refine zS [1, 2, 5, 11] ?_
          intro ρ hL
          refine awl_nil ?_
          refine loop_againW (Wk.keep [0, 1, 2, 3] rfl) _ ?meas ⟨k + 1, rfl, (by omega), (by exact any_take_succ (d := noEnt) hk2 i1_1 (by simp only [waits, Bool.or_eq_false_iff, Bool.and_eq_false_iff, decide_eq_false_iff_not, Bool.not_eq_false']; exact c4)), ⟨(by simp only [go_sem, simprocAttr, hL, hX, e1]), (by simp only [go_sem, simprocAttr, hL, hX, e1]; first | done | rfl)⟩, (by simp only [go_sem, simprocAttr, hL, hX, e1]; first | done | rfl)⟩
          case meas => subst hn; omega
      · intro c3
        intro ρ hL
        refine awl_exit ?_
        refine loop_break ?_
        exact ⟨(by exact fun h10 => by rw [show i.toNat = k by omega]; exact i1_1), trivial, rfl⟩
     case after1 =>
      clear hL
      obtain ⟨j1_0, hL, hG⟩ := hJ
      subst hG
      refine zA ?_
      intro K hK
      refine zE [4] ?_
      clear hK K hL
      refine zR ?_
      try simp only [go_sem, simprocAttr]
      all_goals try clear hR1
      all_goals (rw [ready_eq hc0, ready_fin c2, ready_third j1_0]; rfl)
theorem sat_impl_known (c : Cor) (i : Int) (p : Int) (hf : c.fit) (hw : 0 ≤ i ∧ i < c.rob.length) : Sat Tryz.prog 133 [.agg c.cells, .int .i64 i, .int .u8 p] [] (.bool (knownB c i p)) [] := by
 have hX := trivial
 refine sat_mk [.tmp 6] 0 30 Tryz.call133 Tryz.func133 Tryz.ntmps133 rfl rfl rfl rfl rfl ?_
 refine zI [0, 1, 2] ?_
 refine zS [1, 2, 3] ?_
 have hn2 : i.toNat < c.rob.length := by omega
 have hX0 := hX
 replace hX := And.intro hn2 hX
 refine zS [1, 2, 3, 7] ?_
 clear hX
 have hX := hX0
 clear hX0
 refine zSF [1, 2, 3, 7, 19] (sat_impl_hasPart (c.rob.getD i.toNat noEnt).x p) ?_
 refine zC ?_ ?_
 · intro c1
   refine zS [6] ?_
   refine zR ?_
   try simp only [go_sem, simprocAttr]
   all_goals (rw [knownB, c1]; rfl)
 · intro c1
   intro ρ hL
   refine awl_skip ?_
   refine zAD [0, 0, 0, 0, 12, 31, 63, 127, 127, 0, 767, 2047] ?_
   intro K hK
   refine zFD [0, 0, 0, 0, 12, 31, 63, 127, 127, 0, 767, 2047] (sat_impl_partOf (c.rob.getD i.toNat noEnt).x p) ?_
   refine zFD [0, 0, 0, 0, 12, 31, 63, 127, 127, 0, 767, 2047] (sat_impl_Value c i (partI (c.rob.getD i.toNat noEnt).x p) hf) ?_
   refine zE [9] ?_
   clear hK K hL
   refine zS [6] ?_
   refine zR ?_
   try simp only [go_sem, simprocAttr]
   all_goals (rw [knownB, c1]; rfl)
theorem sat_impl_Ready_1 (x : Ent)  : Sat Tryz.prog 134 [.agg x.cells] [] (.bool (waits x)) [] := by
 have hX := trivial
 refine sat_mk [.tmp 2] 0 18 Tryz.call134 Tryz.func134 Tryz.ntmps134 rfl rfl rfl rfl rfl ?_
 refine zI [0] ?_
 refine zS [1] ?_
 intro ρ hL
 refine zA ?_
 intro K hK
 refine zL [1, 7] ?_
 clear hL
 intro ρ hL
 refine grp_andN (tc := 7) (tv := 10) (td := 11) (v := ?v1) 3 rfl [1] hL.2 rfl (fun hb K1 hK1 => ?run) (fun hb => ?skip) (fun ρ hP hM => ?_)
 case skip => exact skA (want := true) (b := _) (by rw [hb]; rfl) hL.2 rfl
 case run =>
  simp only [List.take_succ_cons, List.take_zero]
  rw [hb] at hL
  try simp only [go_sem, simprocAttr, hL, hX]
  repeat' refine And.intro (by first | rfl | omega | (simp; done)) ?_
  refine hK1 _ ?_ ?_ ?_ <;> simp only [go_sem, simprocAttr, hL, hX] <;> exact rfl
 simp only [List.drop_succ_cons, List.drop_zero]
 try simp only [go_sem, simprocAttr, hL, hX] at hM
 replace hL := And.intro hP hM
 clear hP hM
 try simp only [go_sem, simprocAttr, hL, hX]
 repeat' refine And.intro (by first | rfl | omega | (simp; done)) ?_
 refine zL [1, 12] ?_
 clear hL
 intro ρ hL
 refine grp_orN (tc := 12) (tv := 16) (td := 17) (v := ?v2) 4 rfl [] hL.2 rfl (fun hb K1 hK1 => ?run) (fun hb => ?skip) (fun ρ hP hM => ?_)
 case skip => exact skA (want := false) (b := _) (by rw [hb]; rfl) hL.2 rfl
 case run =>
  simp only [List.take_succ_cons, List.take_zero]
  rw [hb] at hL
  try simp only [go_sem, simprocAttr, hL, hX]
  repeat' refine And.intro (by first | rfl | omega | (simp; done)) ?_
  refine hK1 _ ?_ ?_ ?_ <;> simp only [go_sem, simprocAttr, hL, hX] <;> exact rfl
 simp only [List.drop_succ_cons, List.drop_zero]
 clear hM hL
 have hL := hP
 clear hP
 try simp only [go_sem, simprocAttr, hL, hX]
 repeat' refine And.intro (by first | rfl | omega | (simp; done)) ?_
 refine zE [2] ?_
 clear hK K hL
 refine zR ?_
 try simp only [go_sem, simprocAttr]
 all_goals (rfl)
theorem sat_impl_Ready (c : Cor) (i : Int) (hf : c.fit) : Sat Tryz.prog 63 [.agg c.cells, .int .i64 i] [] (.bool (ready c i)) [] := by
 have hX := trivial
 refine sat_mk [.tmp 4] 0 53 Tryz.call63 Tryz.func63 Tryz.ntmps63 rfl rfl rfl rfl rfl ?_
 refine zI [0, 1] ?_
 refine zS [1, 2] ?_
 have hf1 := hf.2.1
 have w0 : IntKind.i64.wrap ((c.rob.length : Int) - 1) = (c.rob.length : Int) - 1 := wrap64 (by omega)
 have hX0 := hX
 replace hX := And.intro w0 hX
 intro ρ hL
 refine zA ?_
 intro K hK
 refine zF (sat_impl_CoreOk c hf) ?_
 refine zL [1, 2, 8] ?_
 clear hL
 intro ρ hL
 refine grp_orN (tc := 8) (tv := 15) (td := 16) (v := ?v1) 7 rfl [1, 2] hL.2.2 rfl (fun hb K1 hK1 => ?run) (fun hb => ?skip) (fun ρ hP hM => ?_)
 case skip => exact skA (want := false) (b := _) (by rw [hb]; rfl) hL.2.2 rfl
 case run =>
  simp only [List.take_succ_cons, List.take_zero]
  rw [hb] at hL
  try simp only [go_sem, simprocAttr, hL, hX]
  repeat' refine And.intro (by first | rfl | omega | (simp; done)) ?_
  refine zF (sat_impl_in _ _ _) ?_
  refine hK1 _ ?_ ?_ ?_ <;> simp only [go_sem, simprocAttr, hL, hX] <;> exact rfl
 simp only [List.drop_succ_cons, List.drop_zero]
 try simp only [go_sem, simprocAttr, hL, hX] at hM
 replace hL := And.intro hP hM
 clear hP hM
 try simp only [go_sem, simprocAttr, hL, hX]
 repeat' refine And.intro (by first | rfl | omega | (simp; done)) ?_
 refine zL [1, 2, 17] ?_
 clear hL
 intro ρ hL
 refine grp_orN (tc := 17) (tv := 23) (td := 24) (v := ?v2) 6 rfl [1, 2] hL.2.2 rfl (fun hb K1 hK1 => ?run) (fun hb => ?skip) (fun ρ hP hM => ?_)
 case skip => exact skA (want := false) (b := _) (by rw [hb]; rfl) hL.2.2 rfl
 case run =>
  simp only [List.take_succ_cons, List.take_zero]
  rw [hb] at hL
  have hb2 : inR i 0 ((c.rob.length : Int) - 1) = true := by revert hb; cases inR i 0 ((c.rob.length : Int) - 1) <;> simp
  have hw := inR_iff.1 hb2
  have hn2 : i.toNat < c.rob.length := by omega
  try simp only [go_sem, simprocAttr, hL, hX, hn2]
  repeat' refine And.intro (by first | rfl | omega | (simp; done)) ?_
  refine hK1 _ ?_ ?_ ?_ <;> simp only [go_sem, simprocAttr, hL, hX, hn2] <;> exact rfl
 simp only [List.drop_succ_cons, List.drop_zero]
 try simp only [go_sem, simprocAttr, hL, hX] at hM
 replace hL := And.intro hP hM
 clear hP hM
 try simp only [go_sem, simprocAttr, hL, hX]
 repeat' refine And.intro (by first | rfl | omega | (simp; done)) ?_
 refine zL [1, 2, 25] ?_
 clear hL
 intro ρ hL
 refine grp_orN (tc := 25) (tv := 29) (td := 30) (v := ?v3) 4 rfl [1, 2] hL.2.2 rfl (fun hb K1 hK1 => ?run) (fun hb => ?skip) (fun ρ hP hM => ?_)
 case skip => exact skA (want := false) (b := _) (by rw [hb]; rfl) hL.2.2 rfl
 case run =>
  simp only [List.take_succ_cons, List.take_zero]
  rw [hb] at hL
  have hb2 : inR i 0 ((c.rob.length : Int) - 1) = true := by revert hb; cases inR i 0 ((c.rob.length : Int) - 1) <;> simp
  have hw := inR_iff.1 hb2
  have hn2 : i.toNat < c.rob.length := by omega
  try simp only [go_sem, simprocAttr, hL, hX]
  repeat' refine And.intro (by first | rfl | omega | (simp; done)) ?_
  refine zF (sat_impl_known c i 65 hf (by omega)) ?_
  refine hK1 _ ?_ ?_ ?_ <;> simp only [go_sem, simprocAttr, hL, hX] <;> exact rfl
 simp only [List.drop_succ_cons, List.drop_zero]
 try simp only [go_sem, simprocAttr, hL, hX] at hM
 replace hL := And.intro hP hM
 clear hP hM
 try simp only [go_sem, simprocAttr, hL, hX]
 repeat' refine And.intro (by first | rfl | omega | (simp; done)) ?_
 refine zL [1, 2, 31] ?_
 clear hL
 intro ρ hL
 refine grp_orN (tc := 31) (tv := 35) (td := 36) (v := ?v4) 4 rfl [1, 2] hL.2.2 rfl (fun hb K1 hK1 => ?run) (fun hb => ?skip) (fun ρ hP hM => ?_)
 case skip => exact skA (want := false) (b := _) (by rw [hb]; rfl) hL.2.2 rfl
 case run =>
  simp only [List.take_succ_cons, List.take_zero]
  rw [hb] at hL
  have hb2 : inR i 0 ((c.rob.length : Int) - 1) = true := by revert hb; cases inR i 0 ((c.rob.length : Int) - 1) <;> simp
  have hw := inR_iff.1 hb2
  have hn2 : i.toNat < c.rob.length := by omega
  try simp only [go_sem, simprocAttr, hL, hX]
  repeat' refine And.intro (by first | rfl | omega | (simp; done)) ?_
  refine zF (sat_impl_known c i 66 hf (by omega)) ?_
  refine hK1 _ ?_ ?_ ?_ <;> simp only [go_sem, simprocAttr, hL, hX] <;> exact rfl
 simp only [List.drop_succ_cons, List.drop_zero]
 try simp only [go_sem, simprocAttr, hL, hX] at hM
 replace hL := And.intro hP hM
 clear hP hM
 try simp only [go_sem, simprocAttr, hL, hX]
 repeat' refine And.intro (by first | rfl | omega | (simp; done)) ?_
 refine zE [1, 2, 36] ?_
 clear hK K hL
 clear hX
 have hX := hX0
 clear hX0
 refine zC ?_ ?_
 · intro c1
   refine zS [4] ?_
   refine zR ?_
   try simp only [go_sem, simprocAttr]
   all_goals (rw [ready_not c1])
 · intro c1
   intro ρ hL
   refine awl_skip ?_
   have hc0 : corOk c = true ∧ inR i 0 ((c.rob.length : Int) - 1) = true ∧ (c.rob.getD i.toNat noEnt).done = false := by revert c1; cases corOk c <;> cases inR i 0 ((c.rob.length : Int) - 1) <;> cases (c.rob.getD i.toNat noEnt).done <;> simp
   have hw := inR_iff.1 hc0.2.1
   have hn2 : i.toNat < c.rob.length := by omega
   have hmin : min i.toNat c.rob.length = i.toNat := by omega
   have hi0 : 0 ≤ i := hw.1
   have hi9 : i ≤ (c.rob.length : Int) := by omega
   repeat refine awl_seq ?_
   refine awl_regS _ rfl fun K hK => ?_
   try simp only [go_sem, simprocAttr, hL, hX, hn2, ents_takeN, List.length_take, hmin, hi0, hi9, Nat.sub_zero, Option.isSome_none]
   repeat' refine And.intro (by first | rfl | omega | (simp; done)) ?_
   refine awpS_live [1, 2, 45] fun ρ hM => ?_
   try simp only [go_sem, simprocAttr, hL, hX, hn2, ents_takeN, List.length_take, hmin, hi0, hi9, Nat.sub_zero, Option.isSome_none] at hM
   clear hL
   have hL := hM
   clear hM
   refine grp_orN (tc := 45) (tv := 51) (td := 52) (v := ?v5) 6 rfl [] hL.2.2 rfl (fun hb K1 hK1 => ?run) (fun hb => ?skip) (fun ρ hP hM => ?_)
   case skip => exact skA (want := false) (b := _) (by rw [hb]; rfl) hL.2.2 rfl
   case run =>
    simp only [List.take_succ_cons, List.take_zero]
    rw [hb] at hL
    try simp only [go_sem, simprocAttr, hL, hX, hn2, ents_takeN, List.length_take, hmin, hi0, hi9, Nat.sub_zero, Option.isSome_none]
    repeat' refine And.intro (by first | rfl | omega | (simp; done)) ?_
    refine opS_call_ro rfl (sat_slices_ContainsFunc_impl_Entry_impl_Entry (c.rob.take i.toNat) _ [] waits (by rw [List.length_take]; omega) (fun _ _ _ => rfl) (fun x => sat_impl_Ready_1 x)) ?ha ?hv ?hh ?_
    case ha => simp only [go_sem, simprocAttr, hL, hX, hn2, ents_takeN, List.length_take, hmin, hi0, hi9, Nat.sub_zero, Option.isSome_none]; first | done | rfl
    case hv => first | rfl | (simp only [go_sem]; done)
    case hh => first | rfl | (simp only [go_sem]; done)
    try simp only [go_sem, simprocAttr, hL, hX, hn2, ents_takeN, List.length_take, hmin, hi0, hi9, Nat.sub_zero, Option.isSome_none]
    repeat' refine And.intro (by first | rfl | omega | (simp; done)) ?_
    refine hK1 _ ?_ ?_ ?_ <;> simp only [go_sem, simprocAttr, hL, hX, hn2, ents_takeN, List.length_take, hmin, hi0, hi9, Nat.sub_zero, Option.isSome_none] <;> exact rfl
   simp only [List.drop_succ_cons, List.drop_zero]
   clear hM hL
   have hL := hP
   clear hP
   try simp only [go_sem, simprocAttr, hL, hX, hn2, ents_takeN, List.length_take, hmin, hi0, hi9, Nat.sub_zero, Option.isSome_none]
   repeat' refine And.intro (by first | rfl | omega | (simp; done)) ?_
   refine hK _ _ (.mk (awl_live' [4] fun ρ hM => ?_))
   try simp only [go_sem, simprocAttr, hL, hX, hn2, ents_takeN, List.length_take, hmin, hi0, hi9, Nat.sub_zero, Option.isSome_none] at hM
   clear hK K hL
   revert ρ hM
   refine zR ?_
   try simp only [go_sem, simprocAttr]
   all_goals (rw [ready_is c1])
end Go.Proofs.YteojcehneipgdaaGreat.AM
