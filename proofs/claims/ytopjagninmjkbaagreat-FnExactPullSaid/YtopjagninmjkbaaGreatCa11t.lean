/- Entries copied by the laws. No conditions but those each theorem bears. -/
import Derived.Test.YtopjagninmjkbaaGreatFa
import Derived.Test.YtopjagninmjkbaaGreatM4
import Derived.Test.YtopjagninmjkbaaGreatCa3
set_option linter.unusedSimpArgs false
set_option linter.unusedVariables false
namespace Go.Proofs.YtopjagninmjkbaaGreat.AM
open Go

set_option maxHeartbeats 8000000 in
set_option maxRecDepth 100000 in
theorem sat_laws_toIns (x : Ins)  : Sat Tryz.prog 26 [.agg x.cells] [] (.agg x.cells) [] := by
 refine sat_mk [.cell 2 68] 0 20 Tryz.call26 Tryz.func26 Tryz.ntmps26 rfl rfl rfl rfl rfl ?_
 refine awl_live' [0] fun ρ hL => ?_
 try simp only [go_sem, simprocAttr] at hL
 have h0 := hL
 clear hL
 refine awl_seq ?_
 refine awl_regS _ rfl fun K hK => ?_
 try simp only [go_sem, simprocAttr, h0]
 repeat' (refine And.intro (by first | rfl | omega | (simp; done)) ?_)
 refine hK _ _ (.mk (awl_live' [1, 2] fun ρ hL => ?_))
 try simp only [go_sem, simprocAttr, h0] at hL
 try clear h0
 obtain ⟨h1, h2⟩ := hL
 clear hK K
 refine awl_seq ?_
 refine awl_regS _ rfl fun K hK => ?_
 try simp only [go_sem, simprocAttr, h1, h2]
 repeat' (refine And.intro (by first | rfl | omega | (simp; done)) ?_)
 refine hK _ _ (.mk (awl_live' [1, 2, 3] fun ρ hL => ?_))
 try simp only [go_sem, simprocAttr, h1, h2] at hL
 try clear h1 h2
 obtain ⟨h1, h2, h3⟩ := hL
 clear hK K
 refine awl_seq ?_
 refine awl_regS _ rfl fun K hK => ?_
 try simp only [go_sem, simprocAttr, h1, h2, h3]
 repeat' (refine And.intro (by first | rfl | omega | (simp; done)) ?_)
 refine hK _ _ (.mk (awl_live' [1, 2, 3] fun ρ hL => ?_))
 try simp only [go_sem, simprocAttr, h1, h2, h3] at hL
 try clear h1 h2 h3
 obtain ⟨h1, h2, h3⟩ := hL
 clear hK K
 refine awl_seq ?_
 refine awl_regS _ rfl fun K hK => ?_
 try simp only [go_sem, simprocAttr, h1, h2, h3]
 repeat' (refine And.intro (by first | rfl | omega | (simp; done)) ?_)
 refine hK _ _ (.mk (awl_live' [1, 2, 3] fun ρ hL => ?_))
 try simp only [go_sem, simprocAttr, h1, h2, h3] at hL
 try clear h1 h2 h3
 obtain ⟨h1, h2, h3⟩ := hL
 clear hK K
 refine awl_seq ?_
 refine awl_regS _ rfl fun K hK => ?_
 try simp only [go_sem, simprocAttr, h1, h2, h3]
 repeat' (refine And.intro (by first | rfl | omega | (simp; done)) ?_)
 refine hK _ _ (.mk (awl_live' [1, 2, 3] fun ρ hL => ?_))
 try simp only [go_sem, simprocAttr, h1, h2, h3] at hL
 try clear h1 h2 h3
 obtain ⟨h1, h2, h3⟩ := hL
 clear hK K
 refine awl_seq ?_
 refine awl_regS _ rfl fun K hK => ?_
 try simp only [go_sem, simprocAttr, h1, h2, h3]
 repeat' (refine And.intro (by first | rfl | omega | (simp; done)) ?_)
 refine hK _ _ (.mk (awl_live' [1, 2, 3] fun ρ hL => ?_))
 try simp only [go_sem, simprocAttr, h1, h2, h3] at hL
 try clear h1 h2 h3
 obtain ⟨h1, h2, h3⟩ := hL
 clear hK K
 refine awl_seq ?_
 refine awl_regS _ rfl fun K hK => ?_
 try simp only [go_sem, simprocAttr, h1, h2, h3]
 repeat' (refine And.intro (by first | rfl | omega | (simp; done)) ?_)
 refine hK _ _ (.mk (awl_live' [2, 3] fun ρ hL => ?_))
 try simp only [go_sem, simprocAttr, h1, h2, h3] at hL
 try clear h1 h2 h3
 obtain ⟨h2, h3⟩ := hL
 clear hK K
 refine awl_seq ?_
 refine awl_regS _ rfl fun K hK => ?_
 try simp only [go_sem, simprocAttr, h2, h3]
 repeat' (refine And.intro (by first | rfl | omega | (simp; done)) ?_)
 refine hK _ _ (.mk (awl_live' [2] fun ρ hL => ?_))
 try simp only [go_sem, simprocAttr, h2, h3] at hL
 try clear h2 h3
 have h2 := hL
 clear hL
 clear hK K
 refine awl_ret ?_
 refine ret0 (by simp only [go_sem, simprocAttr, h2]; exact rfl) ?_
 try simp only [go_sem, simprocAttr]
 all_goals (first | done | rfl | (simp; done) | (simp [inR]; done) | (simp_all [inR]; done) | (simp [inR]; grind))
set_option maxHeartbeats 8000000 in
set_option maxRecDepth 100000 in
theorem sat_laws_toEffect (x : Fx)  : Sat Tryz.prog 98 [.agg x.cells] [] (.agg x.cells) [] := by
 refine sat_mk [.cell 2 72] 0 29 Tryz.call98 Tryz.func98 Tryz.ntmps98 rfl rfl rfl rfl rfl ?_
 refine awl_live' [0] fun ρ hL => ?_
 try simp only [go_sem, simprocAttr] at hL
 have h0 := hL
 clear hL
 refine awl_seq ?_
 refine awl_regS _ rfl fun K hK => ?_
 try simp only [go_sem, simprocAttr, h0]
 repeat' (refine And.intro (by first | rfl | omega | (simp; done)) ?_)
 refine hK _ _ (.mk (awl_live' [1, 2] fun ρ hL => ?_))
 try simp only [go_sem, simprocAttr, h0] at hL
 try clear h0
 obtain ⟨h1, h2⟩ := hL
 clear hK K
 refine awl_seq ?_
 refine awl_regS _ rfl fun K hK => ?_
 try simp only [go_sem, simprocAttr, h1, h2]
 repeat' (refine And.intro (by first | rfl | omega | (simp; done)) ?_)
 refine hK _ _ (.mk (awl_live' [1, 2, 3] fun ρ hL => ?_))
 try simp only [go_sem, simprocAttr, h1, h2] at hL
 try clear h1 h2
 obtain ⟨h1, h2, h3⟩ := hL
 clear hK K
 refine awl_seq ?_
 refine awl_regS _ rfl fun K hK => ?_
 try simp only [go_sem, simprocAttr, h1, h2, h3]
 repeat' (refine And.intro (by first | rfl | omega | (simp; done)) ?_)
 refine hK _ _ (.mk (awl_live' [1, 2, 3] fun ρ hL => ?_))
 try simp only [go_sem, simprocAttr, h1, h2, h3] at hL
 try clear h1 h2 h3
 obtain ⟨h1, h2, h3⟩ := hL
 clear hK K
 refine awl_seq ?_
 refine awl_regS _ rfl fun K hK => ?_
 try simp only [go_sem, simprocAttr, h1, h2, h3]
 repeat' (refine And.intro (by first | rfl | omega | (simp; done)) ?_)
 refine hK _ _ (.mk (awl_live' [1, 2, 3] fun ρ hL => ?_))
 try simp only [go_sem, simprocAttr, h1, h2, h3] at hL
 try clear h1 h2 h3
 obtain ⟨h1, h2, h3⟩ := hL
 clear hK K
 refine awl_seq ?_
 refine awl_regS _ rfl fun K hK => ?_
 try simp only [go_sem, simprocAttr, h1, h2, h3]
 repeat' (refine And.intro (by first | rfl | omega | (simp; done)) ?_)
 refine opS_call_ro rfl (sat_laws_toWord ?_) ?ha ?hv ?hh ?_
 case ha => simp only [go_sem, simprocAttr, h1, h2, h3]; first | done | rfl
 case hv => first | rfl | (simp only [go_sem]; done)
 case hh => first | rfl | (simp only [go_sem]; done)
 try simp only [go_sem, simprocAttr, h1, h2, h3]
 repeat' (refine And.intro (by first | rfl | omega | (simp; done)) ?_)
 refine hK _ _ (.mk (awl_live' [1, 2, 3] fun ρ hL => ?_))
 try simp only [go_sem, simprocAttr, h1, h2, h3] at hL
 try clear h1 h2 h3
 obtain ⟨h1, h2, h3⟩ := hL
 clear hK K
 refine awl_seq ?_
 refine awl_regS _ rfl fun K hK => ?_
 try simp only [go_sem, simprocAttr, h1, h2, h3]
 repeat' (refine And.intro (by first | rfl | omega | (simp; done)) ?_)
 refine opS_call_ro rfl (sat_laws_toWord ?_) ?ha ?hv ?hh ?_
 case ha => simp only [go_sem, simprocAttr, h1, h2, h3]; first | done | rfl
 case hv => first | rfl | (simp only [go_sem]; done)
 case hh => first | rfl | (simp only [go_sem]; done)
 try simp only [go_sem, simprocAttr, h1, h2, h3]
 repeat' (refine And.intro (by first | rfl | omega | (simp; done)) ?_)
 refine hK _ _ (.mk (awl_live' [1, 2, 3] fun ρ hL => ?_))
 try simp only [go_sem, simprocAttr, h1, h2, h3] at hL
 try clear h1 h2 h3
 obtain ⟨h1, h2, h3⟩ := hL
 clear hK K
 refine awl_seq ?_
 refine awl_regS _ rfl fun K hK => ?_
 try simp only [go_sem, simprocAttr, h1, h2, h3]
 repeat' (refine And.intro (by first | rfl | omega | (simp; done)) ?_)
 refine hK _ _ (.mk (awl_live' [1, 2, 3] fun ρ hL => ?_))
 try simp only [go_sem, simprocAttr, h1, h2, h3] at hL
 try clear h1 h2 h3
 obtain ⟨h1, h2, h3⟩ := hL
 clear hK K
 refine awl_seq ?_
 refine awl_regS _ rfl fun K hK => ?_
 try simp only [go_sem, simprocAttr, h1, h2, h3]
 repeat' (refine And.intro (by first | rfl | omega | (simp; done)) ?_)
 refine opS_call_ro rfl (sat_laws_toWord ?_) ?ha ?hv ?hh ?_
 case ha => simp only [go_sem, simprocAttr, h1, h2, h3]; first | done | rfl
 case hv => first | rfl | (simp only [go_sem]; done)
 case hh => first | rfl | (simp only [go_sem]; done)
 try simp only [go_sem, simprocAttr, h1, h2, h3]
 repeat' (refine And.intro (by first | rfl | omega | (simp; done)) ?_)
 refine hK _ _ (.mk (awl_live' [1, 2, 3] fun ρ hL => ?_))
 try simp only [go_sem, simprocAttr, h1, h2, h3] at hL
 try clear h1 h2 h3
 obtain ⟨h1, h2, h3⟩ := hL
 clear hK K
 refine awl_seq ?_
 refine awl_regS _ rfl fun K hK => ?_
 try simp only [go_sem, simprocAttr, h1, h2, h3]
 repeat' (refine And.intro (by first | rfl | omega | (simp; done)) ?_)
 refine hK _ _ (.mk (awl_live' [2, 3] fun ρ hL => ?_))
 try simp only [go_sem, simprocAttr, h1, h2, h3] at hL
 try clear h1 h2 h3
 obtain ⟨h2, h3⟩ := hL
 clear hK K
 refine awl_seq ?_
 refine awl_regS _ rfl fun K hK => ?_
 try simp only [go_sem, simprocAttr, h2, h3]
 repeat' (refine And.intro (by first | rfl | omega | (simp; done)) ?_)
 refine hK _ _ (.mk (awl_live' [2] fun ρ hL => ?_))
 try simp only [go_sem, simprocAttr, h2, h3] at hL
 try clear h2 h3
 have h2 := hL
 clear hL
 clear hK K
 refine awl_ret ?_
 refine ret0 (by simp only [go_sem, simprocAttr, h2]; exact rfl) ?_
 try simp only [go_sem, simprocAttr]
 all_goals (first | done | rfl | (simp; done) | (simp [inR]; done) | (simp_all [inR]; done) | (simp [inR]; grind))
set_option maxHeartbeats 8000000 in
set_option maxRecDepth 100000 in
theorem sat_laws_toEntry (x : Ent)  : Sat Tryz.prog 65 [.agg x.cells] [] (.agg x.cells) [] := by
 refine sat_mk [.cell 2 75] 0 24 Tryz.call65 Tryz.func65 Tryz.ntmps65 rfl rfl rfl rfl rfl ?_
 refine awl_live' [0] fun ρ hL => ?_
 try simp only [go_sem, simprocAttr] at hL
 have h0 := hL
 clear hL
 refine awl_seq ?_
 refine awl_regS _ rfl fun K hK => ?_
 try simp only [go_sem, simprocAttr, h0]
 repeat' (refine And.intro (by first | rfl | omega | (simp; done)) ?_)
 refine hK _ _ (.mk (awl_live' [1, 2] fun ρ hL => ?_))
 try simp only [go_sem, simprocAttr, h0] at hL
 try clear h0
 obtain ⟨h1, h2⟩ := hL
 clear hK K
 refine awl_seq ?_
 refine awl_regS _ rfl fun K hK => ?_
 try simp only [go_sem, simprocAttr, h1, h2]
 repeat' (refine And.intro (by first | rfl | omega | (simp; done)) ?_)
 refine hK _ _ (.mk (awl_live' [1, 2, 3] fun ρ hL => ?_))
 try simp only [go_sem, simprocAttr, h1, h2] at hL
 try clear h1 h2
 obtain ⟨h1, h2, h3⟩ := hL
 clear hK K
 refine awl_seq ?_
 refine awl_regS _ rfl fun K hK => ?_
 try simp only [go_sem, simprocAttr, h1, h2, h3]
 repeat' (refine And.intro (by first | rfl | omega | (simp; done)) ?_)
 refine opS_call_ro rfl (sat_laws_toWord ?_) ?ha ?hv ?hh ?_
 case ha => simp only [go_sem, simprocAttr, h1, h2, h3]; first | done | rfl
 case hv => first | rfl | (simp only [go_sem]; done)
 case hh => first | rfl | (simp only [go_sem]; done)
 try simp only [go_sem, simprocAttr, h1, h2, h3]
 repeat' (refine And.intro (by first | rfl | omega | (simp; done)) ?_)
 refine hK _ _ (.mk (awl_live' [1, 2, 3] fun ρ hL => ?_))
 try simp only [go_sem, simprocAttr, h1, h2, h3] at hL
 try clear h1 h2 h3
 obtain ⟨h1, h2, h3⟩ := hL
 clear hK K
 refine awl_seq ?_
 refine awl_regS _ rfl fun K hK => ?_
 try simp only [go_sem, simprocAttr, h1, h2, h3]
 repeat' (refine And.intro (by first | rfl | omega | (simp; done)) ?_)
 refine opS_call_ro rfl (sat_laws_toIns ?_) ?ha ?hv ?hh ?_
 case ha => simp only [go_sem, simprocAttr, h1, h2, h3]; first | done | rfl
 case hv => first | rfl | (simp only [go_sem]; done)
 case hh => first | rfl | (simp only [go_sem]; done)
 try simp only [go_sem, simprocAttr, h1, h2, h3]
 repeat' (refine And.intro (by first | rfl | omega | (simp; done)) ?_)
 refine hK _ _ (.mk (awl_live' [1, 2, 3] fun ρ hL => ?_))
 try simp only [go_sem, simprocAttr, h1, h2, h3] at hL
 try clear h1 h2 h3
 obtain ⟨h1, h2, h3⟩ := hL
 clear hK K
 refine awl_seq ?_
 refine awl_regS _ rfl fun K hK => ?_
 try simp only [go_sem, simprocAttr, h1, h2, h3]
 repeat' (refine And.intro (by first | rfl | omega | (simp; done)) ?_)
 refine hK _ _ (.mk (awl_live' [1, 2, 3] fun ρ hL => ?_))
 try simp only [go_sem, simprocAttr, h1, h2, h3] at hL
 try clear h1 h2 h3
 obtain ⟨h1, h2, h3⟩ := hL
 clear hK K
 refine awl_seq ?_
 refine awl_regS _ rfl fun K hK => ?_
 try simp only [go_sem, simprocAttr, h1, h2, h3]
 repeat' (refine And.intro (by first | rfl | omega | (simp; done)) ?_)
 refine opS_call_ro rfl (sat_laws_toEffect ?_) ?ha ?hv ?hh ?_
 case ha => simp only [go_sem, simprocAttr, h1, h2, h3]; first | done | rfl
 case hv => first | rfl | (simp only [go_sem]; done)
 case hh => first | rfl | (simp only [go_sem]; done)
 try simp only [go_sem, simprocAttr, h1, h2, h3]
 repeat' (refine And.intro (by first | rfl | omega | (simp; done)) ?_)
 refine hK _ _ (.mk (awl_live' [1, 2, 3] fun ρ hL => ?_))
 try simp only [go_sem, simprocAttr, h1, h2, h3] at hL
 try clear h1 h2 h3
 obtain ⟨h1, h2, h3⟩ := hL
 clear hK K
 refine awl_seq ?_
 refine awl_regS _ rfl fun K hK => ?_
 try simp only [go_sem, simprocAttr, h1, h2, h3]
 repeat' (refine And.intro (by first | rfl | omega | (simp; done)) ?_)
 refine opS_call_ro rfl (sat_laws_toWord ?_) ?ha ?hv ?hh ?_
 case ha => simp only [go_sem, simprocAttr, h1, h2, h3]; first | done | rfl
 case hv => first | rfl | (simp only [go_sem]; done)
 case hh => first | rfl | (simp only [go_sem]; done)
 try simp only [go_sem, simprocAttr, h1, h2, h3]
 repeat' (refine And.intro (by first | rfl | omega | (simp; done)) ?_)
 refine hK _ _ (.mk (awl_live' [2, 3] fun ρ hL => ?_))
 try simp only [go_sem, simprocAttr, h1, h2, h3] at hL
 try clear h1 h2 h3
 obtain ⟨h2, h3⟩ := hL
 clear hK K
 refine awl_seq ?_
 refine awl_regS _ rfl fun K hK => ?_
 try simp only [go_sem, simprocAttr, h2, h3]
 repeat' (refine And.intro (by first | rfl | omega | (simp; done)) ?_)
 refine hK _ _ (.mk (awl_live' [2] fun ρ hL => ?_))
 try simp only [go_sem, simprocAttr, h2, h3] at hL
 try clear h2 h3
 have h2 := hL
 clear hL
 clear hK K
 refine awl_ret ?_
 refine ret0 (by simp only [go_sem, simprocAttr, h2]; exact rfl) ?_
 try simp only [go_sem, simprocAttr]
 all_goals (first | done | rfl | (simp; done) | (simp [inR]; done) | (simp_all [inR]; done) | (simp [inR]; grind))
end Go.Proofs.YtopjagninmjkbaaGreat.AM
