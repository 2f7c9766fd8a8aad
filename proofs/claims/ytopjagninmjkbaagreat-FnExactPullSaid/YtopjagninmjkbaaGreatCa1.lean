/- The texts of traps. No conditions but those each theorem bears. -/
import Derived.Test.YtopjagninmjkbaaGreatFa
import Derived.Test.YtopjagninmjkbaaGreatM4
set_option linter.unusedSimpArgs false
set_option linter.unusedVariables false
namespace Go.Proofs.YtopjagninmjkbaaGreat.AM
open Go

set_option maxHeartbeats 8000000 in
set_option maxRecDepth 100000 in
theorem sat_spec_l1In (a : Int) (b : Int) (c : Int)  : Sat Tryz.prog 60 [.int .i64 a, .int .i64 b, .int .i64 c] [] (.bool (inR a b c)) [] := by
 refine sat_mk [.tmp 6] 0 15 Tryz.call60 Tryz.func60 Tryz.ntmps60 rfl rfl rfl rfl rfl ?_
 refine awl_live' [0, 1, 2] fun ρ hL => ?_
 try simp only [go_sem, simprocAttr] at hL
 obtain ⟨h0, h1, h2⟩ := hL
 refine awl_seq ?_
 refine awl_regS _ rfl fun K hK => ?_
 try simp only [go_sem, simprocAttr, h0, h1, h2]
 repeat' (refine And.intro (by first | rfl | omega | (simp; done)) ?_)
 refine hK _ _ (.mk (awl_live' [0, 1, 2] fun ρ hL => ?_))
 try simp only [go_sem, simprocAttr, h0, h1, h2] at hL
 try clear h0 h1 h2
 obtain ⟨h0, h1, h2⟩ := hL
 clear hK K
 refine awl_seq ?_
 refine awl_regS _ rfl fun K hK => ?_
 try simp only [go_sem, simprocAttr, h0, h1, h2]
 repeat' (refine And.intro (by first | rfl | omega | (simp; done)) ?_)
 refine awpS_live [0, 2, 10] fun ρ hL => ?_
 try simp only [go_sem, simprocAttr, h0, h1, h2] at hL
 try clear h0 h1 h2
 obtain ⟨h0, h2, h10⟩ := hL
 refine grp_andN (tc := 10) (tv := 13) (td := 14) (v := ?v1) 3 rfl [] h10 rfl (fun hb K1 hK1 => ?run) (fun hb => ?skip) (fun ρ hP hL => ?_)
 case skip =>
  exact awpS_skip (want := true) (b := _) (by rw [hb]; rfl) _ [] ρ h10 (fun _ _ => rfl) (by simp) rfl
 case run =>
  simp only [List.take_succ_cons, List.take_zero]
  rw [hb] at h10
  try simp only [go_sem, simprocAttr, h0, h2, h10]
  repeat' (refine And.intro (by first | rfl | omega | (simp; done)) ?_)
  exact hK1 _ (by simp only [go_sem, simprocAttr, h0, h2, h10]) (by simp only [go_sem, simprocAttr, h0, h2, h10]; exact rfl) (by simp only [go_sem, simprocAttr, h0, h2, h10])
 simp only [List.drop_succ_cons, List.drop_zero]
 clear hL h0 h2 h10
 have h14 := hP
 clear hP
 try simp only [go_sem, simprocAttr, h14]
 repeat' (refine And.intro (by first | rfl | omega | (simp; done)) ?_)
 refine hK _ _ (.mk (awl_live' [6] fun ρ hL => ?_))
 try simp only [go_sem, simprocAttr, h14] at hL
 try clear h14
 have h6 := hL
 clear hL
 clear hK K
 refine awl_ret ?_
 refine ret0 (by simp only [go_sem, simprocAttr, h6]; exact rfl) ?_
 try simp only [go_sem, simprocAttr]
 all_goals (simp [inR])
set_option maxHeartbeats 8000000 in
set_option maxRecDepth 100000 in
theorem sat_impl_in (a : Int) (b : Int) (c : Int)  : Sat Tryz.prog 77 [.int .i64 a, .int .i64 b, .int .i64 c] [] (.bool (inR a b c)) [] := by
 refine sat_mk [.tmp 6] 0 15 Tryz.call77 Tryz.func77 Tryz.ntmps77 rfl rfl rfl rfl rfl ?_
 refine awl_live' [0, 1, 2] fun ρ hL => ?_
 try simp only [go_sem, simprocAttr] at hL
 obtain ⟨h0, h1, h2⟩ := hL
 refine awl_seq ?_
 refine awl_regS _ rfl fun K hK => ?_
 try simp only [go_sem, simprocAttr, h0, h1, h2]
 repeat' (refine And.intro (by first | rfl | omega | (simp; done)) ?_)
 refine hK _ _ (.mk (awl_live' [0, 1, 2] fun ρ hL => ?_))
 try simp only [go_sem, simprocAttr, h0, h1, h2] at hL
 try clear h0 h1 h2
 obtain ⟨h0, h1, h2⟩ := hL
 clear hK K
 refine awl_seq ?_
 refine awl_regS _ rfl fun K hK => ?_
 try simp only [go_sem, simprocAttr, h0, h1, h2]
 repeat' (refine And.intro (by first | rfl | omega | (simp; done)) ?_)
 refine awpS_live [0, 2, 10] fun ρ hL => ?_
 try simp only [go_sem, simprocAttr, h0, h1, h2] at hL
 try clear h0 h1 h2
 obtain ⟨h0, h2, h10⟩ := hL
 refine grp_andN (tc := 10) (tv := 13) (td := 14) (v := ?v1) 3 rfl [] h10 rfl (fun hb K1 hK1 => ?run) (fun hb => ?skip) (fun ρ hP hL => ?_)
 case skip =>
  exact awpS_skip (want := true) (b := _) (by rw [hb]; rfl) _ [] ρ h10 (fun _ _ => rfl) (by simp) rfl
 case run =>
  simp only [List.take_succ_cons, List.take_zero]
  rw [hb] at h10
  try simp only [go_sem, simprocAttr, h0, h2, h10]
  repeat' (refine And.intro (by first | rfl | omega | (simp; done)) ?_)
  exact hK1 _ (by simp only [go_sem, simprocAttr, h0, h2, h10]) (by simp only [go_sem, simprocAttr, h0, h2, h10]; exact rfl) (by simp only [go_sem, simprocAttr, h0, h2, h10])
 simp only [List.drop_succ_cons, List.drop_zero]
 clear hL h0 h2 h10
 have h14 := hP
 clear hP
 try simp only [go_sem, simprocAttr, h14]
 repeat' (refine And.intro (by first | rfl | omega | (simp; done)) ?_)
 refine hK _ _ (.mk (awl_live' [6] fun ρ hL => ?_))
 try simp only [go_sem, simprocAttr, h14] at hL
 try clear h14
 have h6 := hL
 clear hL
 clear hK K
 refine awl_ret ?_
 refine ret0 (by simp only [go_sem, simprocAttr, h6]; exact rfl) ?_
 try simp only [go_sem, simprocAttr]
 all_goals (simp [inR])
end Go.Proofs.YtopjagninmjkbaaGreat.AM
