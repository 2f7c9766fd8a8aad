/- States copied. No conditions but those each theorem bears. -/
import Derived.Test.YtopjagninmjkbaaGreatFa
import Derived.Test.YtopjagninmjkbaaGreatSp9
import Derived.Test.YtopjagninmjkbaaGreatCacl
import Derived.Test.YtopjagninmjkbaaGreatCa7
set_option linter.unusedSimpArgs false
set_option linter.unusedVariables false
namespace Go.Proofs.YtopjagninmjkbaaGreat.AM
open Go

set_option maxHeartbeats 8000000 in
set_option maxRecDepth 100000 in
theorem sat_spec_l8Copy (m : Mem) (hb : m.fit) : Sat Tryz.prog 93 [.agg m.cells] [] (.agg (m.own 0 1)) m.blks := by
 refine sat_mk [.cell 2 44] 0 12 Tryz.call93 Tryz.func93 Tryz.ntmps93 rfl rfl rfl rfl rfl ?_
 refine awl_live' [0] fun ρ hL => ?_
 try simp only [go_sem, simprocAttr] at hL
 have h0 := hL
 clear hL
 refine awl_seq ?_
 have hb1 := hb.1
 have hb2 := hb.2
 refine awl_regS _ rfl fun K hK => ?_
 try simp only [go_sem, simprocAttr, h0]
 repeat' (refine And.intro (by first | rfl | omega | (simp; done)) ?_)
 refine hK _ _ (.mk (awl_live' [1, 2] fun ρ hL => ?_))
 try simp only [go_sem, simprocAttr, h0] at hL
 try clear h0
 obtain ⟨h1, h2⟩ := hL
 clear hK K
 refine awl_seq ?_
 refine awl_regD mixed _ rfl fun K hK => ?_
 try simp only [go_sem, simprocAttr, h1, h2]
 repeat' (refine And.intro (by first | omega | (exact ⟨[0, 0, 2, 7, 0, 0, 32, 127, 255, 511], by kernel_rfl⟩) | kernel_rfl) ?_)
 refine hK _ _ (.mk (awl_live' [2] fun ρ hL => ?_))
 try simp only [go_sem, simprocAttr, h1, h2] at hL
 try clear h1 h2
 have h2 := hL
 clear hL
 clear hK K
 refine awl_ret ?_
 refine retK [2, 3] [2, 3] rfl (by simp only [go_sem, simprocAttr, h2]; exact rfl) (by decide) (by first | rfl | (simp only [go_sem, simprocAttr, h2]; first | done | rfl)) (by first | rfl | (simp only [go_sem, simprocAttr, h2]; first | done | rfl)) ?_ ?_
 all_goals try simp only [go_sem, simprocAttr, h2]
 all_goals (first | done | rfl | (simp; done) | (simp [inR]; done) | (simp_all [inR]; done) | (simp [inR]; grind))
set_option maxHeartbeats 8000000 in
set_option maxRecDepth 100000 in
theorem sat_impl_cloneMemory (m : Mem) (hb : m.fit) : Sat Tryz.prog 106 [.agg m.cells] [] (.agg (m.own 0 1)) m.blks := by
 refine sat_mk [.cell 2 44] 0 10 Tryz.call106 Tryz.func106 Tryz.ntmps106 rfl rfl rfl rfl rfl ?_
 refine awl_live' [0] fun ρ hL => ?_
 try simp only [go_sem, simprocAttr] at hL
 have h0 := hL
 clear hL
 refine awl_seq ?_
 refine awl_regS _ rfl fun K hK => ?_
 try simp only [go_sem, simprocAttr, h0]
 repeat' (refine And.intro (by first | rfl | omega | (simp; done)) ?_)
 refine hK _ _ (.mk (awl_live' [1, 2] fun ρ hL => ?_))
 try simp only [go_sem, simprocAttr, h0] at hL
 try clear h0
 obtain ⟨h1, h2⟩ := hL
 clear hK K
 refine awl_seq ?_
 refine awl_regD mixed _ rfl fun K hK => ?_
 try simp only [go_sem, simprocAttr, h1, h2]
 repeat' (refine And.intro (by first | omega | (exact ⟨[0, 1, 3, 0, 8, 31, 63, 127], by kernel_rfl⟩) | kernel_rfl) ?_)
 refine dS_call_ro rfl (sat_slices_Clone_impl_Word_impl_Word m.words m.words.length (Nat.le_trans hb.1 (by decide))) ?ha ?hv ?hh ?_
 case ha => simp only [go_sem, simprocAttr, h1, h2]; first | done | rfl
 case hv => first | rfl | (simp only [go_sem]; done)
 case hh => first | rfl | (simp only [go_sem]; done)
 try simp only [go_sem, simprocAttr, h1, h2]
 repeat' (refine And.intro (by first | omega | (exact ⟨[0, 1, 3, 0, 8, 31, 63, 127], by kernel_rfl⟩) | kernel_rfl) ?_)
 refine dS_call_ro rfl (sat_slices_Clone_bool_bool m.gone m.gone.length (Nat.le_trans hb.2 (by decide))) ?ha ?hv ?hh ?_
 case ha => simp only [go_sem, simprocAttr, h1, h2]; first | done | rfl
 case hv => first | rfl | (simp only [go_sem]; done)
 case hh => first | rfl | (simp only [go_sem]; done)
 try simp only [go_sem, simprocAttr, h1, h2]
 repeat' (refine And.intro (by first | omega | (exact ⟨[0, 1, 3, 0, 8, 31, 63, 127], by kernel_rfl⟩) | kernel_rfl) ?_)
 refine hK _ _ (.mk (awl_live' [2] fun ρ hL => ?_))
 try simp only [go_sem, simprocAttr, h1, h2] at hL
 try clear h1 h2
 have h2 := hL
 clear hL
 clear hK K
 refine awl_ret ?_
 refine retK [2, 3] [2, 3] rfl (by simp only [go_sem, simprocAttr, h2]; exact rfl) (by decide) (by first | rfl | (simp only [go_sem, simprocAttr, h2]; first | done | rfl)) (by first | rfl | (simp only [go_sem, simprocAttr, h2]; first | done | rfl)) ?_ ?_
 all_goals try simp only [go_sem, simprocAttr, h2]
 all_goals (first | done | rfl | (simp; done) | (simp [inR]; done) | (simp_all [inR]; done) | (simp [inR]; grind))
set_option maxHeartbeats 8000000 in
set_option maxRecDepth 100000 in
theorem sat_spec_l9Copy (s : Stt) (hb : s.fit) : Sat Tryz.prog 58 [.agg s.cells] [] (.agg (s.own 0 1 2)) s.blks := by
 refine sat_mk [.cell 2 46] 0 15 Tryz.call58 Tryz.func58 Tryz.ntmps58 rfl rfl rfl rfl rfl ?_
 refine awl_live' [0] fun ρ hL => ?_
 try simp only [go_sem, simprocAttr] at hL
 have h0 := hL
 clear hL
 refine awl_seq ?_
 have hb1 := hb.1
 refine awl_regS _ rfl fun K hK => ?_
 try simp only [go_sem, simprocAttr, h0]
 repeat' (refine And.intro (by first | rfl | omega | (simp; done)) ?_)
 refine hK _ _ (.mk (awl_live' [1, 2] fun ρ hL => ?_))
 try simp only [go_sem, simprocAttr, h0] at hL
 try clear h0
 obtain ⟨h1, h2⟩ := hL
 clear hK K
 refine awl_seq ?_
 refine awl_regD mixed _ rfl fun K hK => ?_
 try simp only [go_sem, simprocAttr, h1, h2]
 repeat' (refine And.intro (by first | omega | (exact ⟨[0, 0, 2, 7, 0, 16, 0, 64, 207, 0, 512, 2047, 4095], by kernel_rfl⟩) | kernel_rfl) ?_)
 refine dS_call_ro rfl (sat_spec_l8Copy s.mem hb.2) ?ha ?hv ?hh ?_
 case ha => simp only [go_sem, simprocAttr, h1, h2]; first | done | rfl
 case hv => first | rfl | (simp only [go_sem]; done)
 case hh => first | rfl | (simp only [go_sem]; done)
 try simp only [go_sem, simprocAttr, h1, h2]
 repeat' (refine And.intro (by first | omega | (exact ⟨[0, 0, 2, 7, 0, 16, 0, 64, 207, 0, 512, 2047, 4095], by kernel_rfl⟩) | kernel_rfl) ?_)
 refine hK _ _ (.mk (awl_live' [2] fun ρ hL => ?_))
 try simp only [go_sem, simprocAttr, h1, h2] at hL
 try clear h1 h2
 have h2 := hL
 clear hL
 clear hK K
 refine awl_ret ?_
 refine retK [2, 3, 4] [2, 3, 4] rfl (by simp only [go_sem, simprocAttr, h2]; exact rfl) (by decide) (by first | rfl | (simp only [go_sem, simprocAttr, h2]; first | done | rfl)) (by first | rfl | (simp only [go_sem, simprocAttr, h2]; first | done | rfl)) ?_ ?_
 all_goals try simp only [go_sem, simprocAttr, h2]
 all_goals (first | done | rfl | (simp; done) | (simp [inR]; done) | (simp_all [inR]; done) | (simp [inR]; grind))
set_option maxHeartbeats 8000000 in
set_option maxRecDepth 100000 in
theorem sat_impl_cloneState (s : Stt) (hb : s.fit) : Sat Tryz.prog 73 [.agg s.cells] [] (.agg (s.own 0 1 2)) s.blks := by
 refine sat_mk [.cell 2 46] 0 12 Tryz.call73 Tryz.func73 Tryz.ntmps73 rfl rfl rfl rfl rfl ?_
 refine awl_live' [0] fun ρ hL => ?_
 try simp only [go_sem, simprocAttr] at hL
 have h0 := hL
 clear hL
 refine awl_seq ?_
 refine awl_regS _ rfl fun K hK => ?_
 try simp only [go_sem, simprocAttr, h0]
 repeat' (refine And.intro (by first | rfl | omega | (simp; done)) ?_)
 refine hK _ _ (.mk (awl_live' [1, 2] fun ρ hL => ?_))
 try simp only [go_sem, simprocAttr, h0] at hL
 try clear h0
 obtain ⟨h1, h2⟩ := hL
 clear hK K
 refine awl_seq ?_
 refine awl_regD mixed _ rfl fun K hK => ?_
 try simp only [go_sem, simprocAttr, h1, h2]
 repeat' (refine And.intro (by first | omega | (exact ⟨[0, 1, 3, 0, 8, 31, 31, 127, 255, 511], by kernel_rfl⟩) | kernel_rfl) ?_)
 refine dS_call_ro rfl (sat_slices_Clone_impl_Word_impl_Word s.regs s.regs.length (Nat.le_trans hb.1 (by decide))) ?ha ?hv ?hh ?_
 case ha => simp only [go_sem, simprocAttr, h1, h2]; first | done | rfl
 case hv => first | rfl | (simp only [go_sem]; done)
 case hh => first | rfl | (simp only [go_sem]; done)
 try simp only [go_sem, simprocAttr, h1, h2]
 repeat' (refine And.intro (by first | omega | (exact ⟨[0, 1, 3, 0, 8, 31, 31, 127, 255, 511], by kernel_rfl⟩) | kernel_rfl) ?_)
 refine dS_call_ro rfl (sat_impl_cloneMemory s.mem hb.2) ?ha ?hv ?hh ?_
 case ha => simp only [go_sem, simprocAttr, h1, h2]; first | done | rfl
 case hv => first | rfl | (simp only [go_sem]; done)
 case hh => first | rfl | (simp only [go_sem]; done)
 try simp only [go_sem, simprocAttr, h1, h2]
 repeat' (refine And.intro (by first | omega | (exact ⟨[0, 1, 3, 0, 8, 31, 31, 127, 255, 511], by kernel_rfl⟩) | kernel_rfl) ?_)
 refine hK _ _ (.mk (awl_live' [1, 2] fun ρ hL => ?_))
 try simp only [go_sem, simprocAttr, h1, h2] at hL
 try clear h1 h2
 obtain ⟨h1, h2⟩ := hL
 clear hK K
 refine awl_seq ?_
 refine awl_regS _ rfl fun K hK => ?_
 try simp only [go_sem, simprocAttr, h1, h2]
 repeat' (refine And.intro (by first | rfl | omega | (simp; done)) ?_)
 refine hK _ _ (.mk (awl_live' [2] fun ρ hL => ?_))
 try simp only [go_sem, simprocAttr, h1, h2] at hL
 try clear h1 h2
 have h2 := hL
 clear hL
 clear hK K
 refine awl_ret ?_
 refine retK [2, 3, 4] [2, 3, 4] rfl (by simp only [go_sem, simprocAttr, h2]; exact rfl) (by decide) (by first | rfl | (simp only [go_sem, simprocAttr, h2]; first | done | rfl)) (by first | rfl | (simp only [go_sem, simprocAttr, h2]; first | done | rfl)) ?_ ?_
 all_goals try simp only [go_sem, simprocAttr, h2]
 all_goals (first | done | rfl | (simp; done) | (simp [inR]; done) | (simp_all [inR]; done) | (simp [inR]; grind))
end Go.Proofs.YtopjagninmjkbaaGreat.AM
