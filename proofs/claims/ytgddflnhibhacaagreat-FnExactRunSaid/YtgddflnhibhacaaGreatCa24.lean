/- What a command comes to. No conditions but those each theorem bears. -/
import Derived.Test.YtgddflnhibhacaaGreatFa
import Derived.Test.YtgddflnhibhacaaGreatSp10
import Derived.Test.YtgddflnhibhacaaGreatCa20
import Derived.Test.YtgddflnhibhacaaGreatCa15
set_option linter.unusedSimpArgs false
set_option linter.unusedVariables false
namespace Go.Proofs.YtgddflnhibhacaaGreat.AM
open Go

set_option maxHeartbeats 8000000 in
set_option maxRecDepth 100000 in
theorem sat_spec_Work (x : Ins) (pc : Word) (a : Word) (b : Word) (g : Word)  : Sat Tryz.prog 30 [.agg x.cells, .agg pc.cells, .agg a.cells, .agg b.cells, .agg g.cells] [] (.agg (Fx.cells (work x pc a b g))) [] := by
 refine sat_mk [.cell 10 72] 0 90 Tryz.call30 Tryz.func30 Tryz.ntmps30 rfl rfl rfl rfl rfl ?_
 refine awl_live' [0, 1, 2, 3, 4] fun ρ hL => ?_
 try simp only [go_sem, simprocAttr] at hL
 obtain ⟨h0, h1, h2, h3, h4⟩ := hL
 refine awl_seq ?_
 refine awl_regS _ rfl fun K hK => ?_
 try simp only [go_sem, simprocAttr, h0, h1, h2, h3, h4]
 repeat' (refine And.intro (by first | rfl | omega | (simp; done)) ?_)
 refine hK _ _ (.mk (awl_live' [5, 6, 7, 8, 9, 10] fun ρ hL => ?_))
 try simp only [go_sem, simprocAttr, h0, h1, h2, h3, h4] at hL
 try clear h0 h1 h2 h3 h4
 obtain ⟨h5, h6, h7, h8, h9, h10⟩ := hL
 clear hK K
 refine awl_seq ?_
 refine awl_regS _ rfl fun K hK => ?_
 try simp only [go_sem, simprocAttr, h5, h6, h7, h8, h9, h10]
 repeat' (refine And.intro (by first | rfl | omega | (simp; done)) ?_)
 refine opS_call_ro rfl (sat_spec_Point ?_ ?_) ?ha ?hv ?hh ?_
 case ha => simp only [go_sem, simprocAttr, h5, h6, h7, h8, h9, h10]; first | done | rfl
 case hv => first | rfl | (simp only [go_sem]; done)
 case hh => first | rfl | (simp only [go_sem]; done)
 try simp only [go_sem, simprocAttr, h5, h6, h7, h8, h9, h10]
 repeat' (refine And.intro (by first | rfl | omega | (simp; done)) ?_)
 refine hK _ _ (.mk (awl_live' [5, 6, 7, 8, 9, 10, 11] fun ρ hL => ?_))
 try simp only [go_sem, simprocAttr, h5, h6, h7, h8, h9, h10] at hL
 try clear h5 h6 h7 h8 h9 h10
 obtain ⟨h5, h6, h7, h8, h9, h10, h11⟩ := hL
 clear hK K
 refine awl_seq ?_
 refine awl_regS _ rfl fun K hK => ?_
 try simp only [go_sem, simprocAttr, h5, h6, h7, h8, h9, h10, h11]
 repeat' (refine And.intro (by first | rfl | omega | (simp; done)) ?_)
 refine hK _ _ (.mk (awl_live' [5, 6, 7, 8, 9, 10, 11, 12] fun ρ hL => ?_))
 try simp only [go_sem, simprocAttr, h5, h6, h7, h8, h9, h10, h11] at hL
 try clear h5 h6 h7 h8 h9 h10 h11
 obtain ⟨h5, h6, h7, h8, h9, h10, h11, h12⟩ := hL
 clear hK K
 refine awl_seq ?_
 refine awl_seq ?_
 refine awl_regS _ rfl fun K hK => ?_
 try simp only [go_sem, simprocAttr, h5, h6, h7, h8, h9, h10, h11, h12]
 repeat' (refine And.intro (by first | rfl | omega | (simp; done)) ?_)
 refine hK _ _ (.mk (awl_live' [5, 6, 7, 8, 9, 10, 11, 12, 20] fun ρ hL => ?_))
 try simp only [go_sem, simprocAttr, h5, h6, h7, h8, h9, h10, h11, h12] at hL
 try clear h5 h6 h7 h8 h9 h10 h11 h12
 obtain ⟨h5, h6, h7, h8, h9, h10, h11, h12, h20⟩ := hL
 clear hK K
 refine awl_block fun R1 hw1 hR1 => ?_
 refine awl_seq ?_
 refine awl_regS _ rfl fun K hK => ?_
 try simp only [go_sem, simprocAttr, h5, h6, h7, h8, h9, h10, h11, h12, h20]
 repeat' (refine And.intro (by first | rfl | omega | (simp; done)) ?_)
 refine hK _ _ (.mk (awl_live' [5, 6, 7, 8, 9, 10, 11, 12, 20, 33] fun ρ hL => ?_))
 try simp only [go_sem, simprocAttr, h5, h6, h7, h8, h9, h10, h11, h12, h20] at hL
 try clear h5 h6 h7 h8 h9 h10 h11 h12 h20
 obtain ⟨h5, h6, h7, h8, h9, h10, h11, h12, h20, h33⟩ := hL
 clear hK K
 refine awl_cond h33 (fun c1 => ?_) (fun c1 => ?_)
 ·
  try simp only [cnd] at c1
  refine awl_seq ?_
  refine awl_regS _ rfl fun K hK => ?_
  try simp only [go_sem, simprocAttr, h5, h6, h7, h8, h9, h10, h11, h12, h20, h33]
  repeat' (refine And.intro (by first | rfl | omega | (simp; done)) ?_)
  refine hK _ _ (.mk (awl_live' [8, 10, 11] fun ρ hL => ?_))
  try simp only [go_sem, simprocAttr, h5, h6, h7, h8, h9, h10, h11, h12, h20, h33] at hL
  try clear h5 h6 h7 h8 h9 h10 h11 h12 h20 h33
  obtain ⟨h8, h10, h11⟩ := hL
  clear hK K
  refine awl_seq ?_
  refine awl_regS _ rfl fun K hK => ?_
  try simp only [go_sem, simprocAttr, h8, h10, h11]
  repeat' (refine And.intro (by first | rfl | omega | (simp; done)) ?_)
  refine hK _ _ (.mk (awl_live' [10, 11] fun ρ hL => ?_))
  try simp only [go_sem, simprocAttr, h8, h10, h11] at hL
  try clear h8 h10 h11
  obtain ⟨h10, h11⟩ := hL
  clear hK K
  refine awl_seq ?_
  refine awl_regS _ rfl fun K hK => ?_
  try simp only [go_sem, simprocAttr, h10, h11]
  repeat' (refine And.intro (by first | rfl | omega | (simp; done)) ?_)
  refine hK _ _ (.mk (awl_live' [10] fun ρ hL => ?_))
  try simp only [go_sem, simprocAttr, h10, h11] at hL
  try clear h10 h11
  have h10 := hL
  clear hL
  clear hK K
  refine awl_ret ?_
  refine blk_ret ?_
  refine ret0 (by simp only [go_sem, simprocAttr, h10]; exact rfl) ?_
  try simp only [go_sem, simprocAttr]
  all_goals try clear hR1
  all_goals (rw [work, if_pos c1] <;> rfl)
 ·
  try simp only [cnd] at c1
  refine awl_seq ?_
  refine awl_regS _ rfl fun K hK => ?_
  try simp only [go_sem, simprocAttr, h5, h6, h7, h8, h9, h10, h11, h12, h20, h33]
  repeat' (refine And.intro (by first | rfl | omega | (simp; done)) ?_)
  refine hK _ _ (.mk (awl_live' [5, 6, 7, 8, 9, 10, 11, 12, 20, 44] fun ρ hL => ?_))
  try simp only [go_sem, simprocAttr, h5, h6, h7, h8, h9, h10, h11, h12, h20, h33] at hL
  try clear h5 h6 h7 h8 h9 h10 h11 h12 h20 h33
  obtain ⟨h5, h6, h7, h8, h9, h10, h11, h12, h20, h44⟩ := hL
  clear hK K
  refine awl_cond h44 (fun c2 => ?_) (fun c2 => ?_)
  ·
   try simp only [cnd] at c2
   refine awl_seq ?_
   refine awl_regS _ rfl fun K hK => ?_
   try simp only [go_sem, simprocAttr, h5, h6, h7, h8, h9, h10, h11, h12, h20, h44]
   repeat' (refine And.intro (by first | rfl | omega | (simp; done)) ?_)
   refine opS_call_ro rfl (sat_spec_Try ?_ ?_ ?_) ?ha ?hv ?hh ?_
   case ha => simp only [go_sem, simprocAttr, h5, h6, h7, h8, h9, h10, h11, h12, h20, h44]; first | done | rfl
   case hv => first | rfl | (simp only [go_sem]; done)
   case hh => first | rfl | (simp only [go_sem]; done)
   try simp only [go_sem, simprocAttr, h5, h6, h7, h8, h9, h10, h11, h12, h20, h44]
   repeat' (refine And.intro (by first | rfl | omega | (simp; done)) ?_)
   refine hK _ _ (.mk (awl_live' [5, 6, 7, 10, 11, 12] fun ρ hL => ?_))
   try simp only [go_sem, simprocAttr, h5, h6, h7, h8, h9, h10, h11, h12, h20, h44] at hL
   try clear h5 h6 h7 h8 h9 h10 h11 h12 h20 h44
   obtain ⟨h5, h6, h7, h10, h11, h12⟩ := hL
   clear hK K
   refine awl_seq ?_
   refine awl_regS _ rfl fun K hK => ?_
   try simp only [go_sem, simprocAttr, h5, h6, h7, h10, h11, h12]
   repeat' (refine And.intro (by first | rfl | omega | (simp; done)) ?_)
   refine hK _ _ (.mk (awl_live' [6, 7, 10, 11, 12] fun ρ hL => ?_))
   try simp only [go_sem, simprocAttr, h5, h6, h7, h10, h11, h12] at hL
   try clear h5 h6 h7 h10 h11 h12
   obtain ⟨h6, h7, h10, h11, h12⟩ := hL
   clear hK K
   refine awl_seq ?_
   refine awl_regS _ rfl fun K hK => ?_
   try simp only [go_sem, simprocAttr, h6, h7, h10, h11, h12]
   repeat' (refine And.intro (by first | rfl | omega | (simp; done)) ?_)
   refine hK _ _ (.mk (awl_live' [6, 7, 10, 11, 12] fun ρ hL => ?_))
   try simp only [go_sem, simprocAttr, h6, h7, h10, h11, h12] at hL
   try clear h6 h7 h10 h11 h12
   obtain ⟨h6, h7, h10, h11, h12⟩ := hL
   clear hK K
   refine awl_regS _ rfl fun K hK => ?_
   try simp only [go_sem, simprocAttr, h6, h7, h10, h11, h12]
   repeat' (refine And.intro (by first | rfl | omega | (simp; done)) ?_)
   refine hK _ _ (.mk (awl_live' [6, 10, 11, 12] fun ρ hL => ?_))
   try simp only [go_sem, simprocAttr, h6, h7, h10, h11, h12] at hL
   try clear h6 h7 h10 h11 h12
   obtain ⟨h6, h10, h11, h12⟩ := hL
   clear hK K
   refine awl_nil ?_
   refine blk_normal (hR1 _ _ (.mk ?_))
   refine awl_seq ?_
   refine awl_seq ?_
   refine awl_regS _ rfl fun K hK => ?_
   try simp only [go_sem, simprocAttr, h6, h10, h11, h12]
   repeat' (refine And.intro (by first | rfl | omega | (simp; done)) ?_)
   refine hK _ _ (.mk (awl_live' [6, 10, 11, 12, 85] fun ρ hL => ?_))
   try simp only [go_sem, simprocAttr, h6, h10, h11, h12] at hL
   try clear h6 h10 h11 h12
   obtain ⟨h6, h10, h11, h12, h85⟩ := hL
   clear hK K
   refine awl_cond h85 (fun c3 => ?_) (fun c3 => ?_)
   ·
    try simp only [cnd] at c3
    refine awl_seq ?_
    refine awl_regS _ rfl fun K hK => ?_
    try simp only [go_sem, simprocAttr, h6, h10, h11, h12, h85]
    repeat' (refine And.intro (by first | rfl | omega | (simp; done)) ?_)
    refine opS_call_ro rfl (sat_spec_l9Trap ?_ ?_) ?ha ?hv ?hh ?_
    case ha => simp only [go_sem, simprocAttr, h6, h10, h11, h12, h85]; first | done | rfl
    case hv => first | rfl | (simp only [go_sem]; done)
    case hh => first | rfl | (simp only [go_sem]; done)
    try simp only [go_sem, simprocAttr, h6, h10, h11, h12, h85]
    repeat' (refine And.intro (by first | rfl | omega | (simp; done)) ?_)
    refine hK _ _ (.mk (awl_live' [10] fun ρ hL => ?_))
    try simp only [go_sem, simprocAttr, h6, h10, h11, h12, h85] at hL
    try clear h6 h10 h11 h12 h85
    have h10 := hL
    clear hL
    clear hK K
    refine awl_ret ?_
    refine ret0 (by simp only [go_sem, simprocAttr, h10]; exact rfl) ?_
    try simp only [go_sem, simprocAttr]
    all_goals try clear hR1
    all_goals (rw [work, if_neg c1, if_pos c2, if_pos c3] <;> rfl)
   ·
    try simp only [cnd] at c3
    refine awl_skip ?_
    refine awl_seq ?_
    refine awl_regS _ rfl fun K hK => ?_
    try simp only [go_sem, simprocAttr, h6, h10, h11, h12, h85]
    repeat' (refine And.intro (by first | rfl | omega | (simp; done)) ?_)
    refine hK _ _ (.mk (awl_live' [10] fun ρ hL => ?_))
    try simp only [go_sem, simprocAttr, h6, h10, h11, h12, h85] at hL
    try clear h6 h10 h11 h12 h85
    have h10 := hL
    clear hL
    clear hK K
    refine awl_ret ?_
    refine ret0 (by simp only [go_sem, simprocAttr, h10]; exact rfl) ?_
    try simp only [go_sem, simprocAttr]
    all_goals try clear hR1
    all_goals (rw [work, if_neg c1, if_pos c2, if_neg (fun h => h c3)] <;> rfl)
  ·
   try simp only [cnd] at c2
   refine awl_seq ?_
   refine awl_regS _ rfl fun K hK => ?_
   try simp only [go_sem, simprocAttr, h5, h6, h7, h8, h9, h10, h11, h12, h20, h44]
   repeat' (refine And.intro (by first | rfl | omega | (simp; done)) ?_)
   refine hK _ _ (.mk (awl_live' [5, 6, 7, 8, 9, 10, 11, 12, 20, 58] fun ρ hL => ?_))
   try simp only [go_sem, simprocAttr, h5, h6, h7, h8, h9, h10, h11, h12, h20, h44] at hL
   try clear h5 h6 h7 h8 h9 h10 h11 h12 h20 h44
   obtain ⟨h5, h6, h7, h8, h9, h10, h11, h12, h20, h58⟩ := hL
   clear hK K
   refine awl_cond h58 (fun c4 => ?_) (fun c4 => ?_)
   ·
    try simp only [cnd] at c4
    refine awl_seq ?_
    refine awl_seq ?_
    refine awl_regS _ rfl fun K hK => ?_
    try simp only [go_sem, simprocAttr, h5, h6, h7, h8, h9, h10, h11, h12, h20, h58]
    repeat' (refine And.intro (by first | rfl | omega | (simp; done)) ?_)
    refine hK _ _ (.mk (awl_live' [5, 6, 10, 11, 62] fun ρ hL => ?_))
    try simp only [go_sem, simprocAttr, h5, h6, h7, h8, h9, h10, h11, h12, h20, h58] at hL
    try clear h5 h6 h7 h8 h9 h10 h11 h12 h20 h58
    obtain ⟨h5, h6, h10, h11, h62⟩ := hL
    clear hK K
    refine awl_cond h62 (fun c5 => ?_) (fun c5 => ?_)
    ·
     try simp only [cnd] at c5
     refine awl_regS _ rfl fun K hK => ?_
     try simp only [go_sem, simprocAttr, h5, h6, h10, h11, h62]
     repeat' (refine And.intro (by first | rfl | omega | (simp; done)) ?_)
     refine opS_call_ro rfl (sat_spec_Point ?_ ?_) ?ha ?hv ?hh ?_
     case ha => simp only [go_sem, simprocAttr, h5, h6, h10, h11, h62]; first | done | rfl
     case hv => first | rfl | (simp only [go_sem]; done)
     case hh => first | rfl | (simp only [go_sem]; done)
     try simp only [go_sem, simprocAttr, h5, h6, h10, h11, h62]
     repeat' (refine And.intro (by first | rfl | omega | (simp; done)) ?_)
     refine hK _ _ (.mk (awl_live' [10, 11] fun ρ hL => ?_))
     try simp only [go_sem, simprocAttr, h5, h6, h10, h11, h62] at hL
     try clear h5 h6 h10 h11 h62
     obtain ⟨h10, h11⟩ := hL
     clear hK K
     refine awl_seq ?_
     refine awl_regS _ rfl fun K hK => ?_
     try simp only [go_sem, simprocAttr, h10, h11]
     repeat' (refine And.intro (by first | rfl | omega | (simp; done)) ?_)
     refine hK _ _ (.mk (awl_live' [10] fun ρ hL => ?_))
     try simp only [go_sem, simprocAttr, h10, h11] at hL
     try clear h10 h11
     have h10 := hL
     clear hL
     clear hK K
     refine awl_ret ?_
     refine blk_ret ?_
     refine ret0 (by simp only [go_sem, simprocAttr, h10]; exact rfl) ?_
     try simp only [go_sem, simprocAttr]
     all_goals try clear hR1
     all_goals (rw [work, if_neg c1, if_neg c2, if_pos c4, if_pos c5] <;> rfl)
    ·
     try simp only [cnd] at c5
     refine awl_skip ?_
     refine awl_seq ?_
     refine awl_regS _ rfl fun K hK => ?_
     try simp only [go_sem, simprocAttr, h5, h6, h10, h11, h62]
     repeat' (refine And.intro (by first | rfl | omega | (simp; done)) ?_)
     refine hK _ _ (.mk (awl_live' [10] fun ρ hL => ?_))
     try simp only [go_sem, simprocAttr, h5, h6, h10, h11, h62] at hL
     try clear h5 h6 h10 h11 h62
     have h10 := hL
     clear hL
     clear hK K
     refine awl_ret ?_
     refine blk_ret ?_
     refine ret0 (by simp only [go_sem, simprocAttr, h10]; exact rfl) ?_
     try simp only [go_sem, simprocAttr]
     all_goals try clear hR1
     all_goals (rw [work, if_neg c1, if_neg c2, if_pos c4, if_neg c5] <;> rfl)
   ·
    try simp only [cnd] at c4
    refine awl_seq ?_
    refine awl_regS _ rfl fun K hK => ?_
    try simp only [go_sem, simprocAttr, h5, h6, h7, h8, h9, h10, h11, h12, h20, h58]
    repeat' (refine And.intro (by first | rfl | omega | (simp; done)) ?_)
    refine hK _ _ (.mk (awl_live' [5, 6, 7, 8, 9, 10, 11, 12, 20, 72] fun ρ hL => ?_))
    try simp only [go_sem, simprocAttr, h5, h6, h7, h8, h9, h10, h11, h12, h20, h58] at hL
    try clear h5 h6 h7 h8 h9 h10 h11 h12 h20 h58
    obtain ⟨h5, h6, h7, h8, h9, h10, h11, h12, h20, h72⟩ := hL
    clear hK K
    refine awl_cond h72 (fun c6 => ?_) (fun c6 => ?_)
    ·
     try simp only [cnd] at c6
     refine awl_seq ?_
     refine awl_regS _ rfl fun K hK => ?_
     try simp only [go_sem, simprocAttr, h5, h6, h7, h8, h9, h10, h11, h12, h20, h72]
     repeat' (refine And.intro (by first | rfl | omega | (simp; done)) ?_)
     refine opS_call_ro rfl (sat_spec_Try ?_ ?_ ?_) ?ha ?hv ?hh ?_
     case ha => simp only [go_sem, simprocAttr, h5, h6, h7, h8, h9, h10, h11, h12, h20, h72]; first | done | rfl
     case hv => first | rfl | (simp only [go_sem]; done)
     case hh => first | rfl | (simp only [go_sem]; done)
     try simp only [go_sem, simprocAttr, h5, h6, h7, h8, h9, h10, h11, h12, h20, h72]
     repeat' (refine And.intro (by first | rfl | omega | (simp; done)) ?_)
     refine hK _ _ (.mk (awl_live' [6, 7, 10, 11, 12] fun ρ hL => ?_))
     try simp only [go_sem, simprocAttr, h5, h6, h7, h8, h9, h10, h11, h12, h20, h72] at hL
     try clear h5 h6 h7 h8 h9 h10 h11 h12 h20 h72
     obtain ⟨h6, h7, h10, h11, h12⟩ := hL
     clear hK K
     refine awl_regS _ rfl fun K hK => ?_
     try simp only [go_sem, simprocAttr, h6, h7, h10, h11, h12]
     repeat' (refine And.intro (by first | rfl | omega | (simp; done)) ?_)
     refine hK _ _ (.mk (awl_live' [6, 10, 11, 12] fun ρ hL => ?_))
     try simp only [go_sem, simprocAttr, h6, h7, h10, h11, h12] at hL
     try clear h6 h7 h10 h11 h12
     obtain ⟨h6, h10, h11, h12⟩ := hL
     clear hK K
     refine awl_nil ?_
     refine blk_normal (hR1 _ _ (.mk ?_))
     refine awl_seq ?_
     refine awl_seq ?_
     refine awl_regS _ rfl fun K hK => ?_
     try simp only [go_sem, simprocAttr, h6, h10, h11, h12]
     repeat' (refine And.intro (by first | rfl | omega | (simp; done)) ?_)
     refine hK _ _ (.mk (awl_live' [6, 10, 11, 12, 85] fun ρ hL => ?_))
     try simp only [go_sem, simprocAttr, h6, h10, h11, h12] at hL
     try clear h6 h10 h11 h12
     obtain ⟨h6, h10, h11, h12, h85⟩ := hL
     clear hK K
     refine awl_cond h85 (fun c7 => ?_) (fun c7 => ?_)
     ·
      try simp only [cnd] at c7
      refine awl_seq ?_
      refine awl_regS _ rfl fun K hK => ?_
      try simp only [go_sem, simprocAttr, h6, h10, h11, h12, h85]
      repeat' (refine And.intro (by first | rfl | omega | (simp; done)) ?_)
      refine opS_call_ro rfl (sat_spec_l9Trap ?_ ?_) ?ha ?hv ?hh ?_
      case ha => simp only [go_sem, simprocAttr, h6, h10, h11, h12, h85]; first | done | rfl
      case hv => first | rfl | (simp only [go_sem]; done)
      case hh => first | rfl | (simp only [go_sem]; done)
      try simp only [go_sem, simprocAttr, h6, h10, h11, h12, h85]
      repeat' (refine And.intro (by first | rfl | omega | (simp; done)) ?_)
      refine hK _ _ (.mk (awl_live' [10] fun ρ hL => ?_))
      try simp only [go_sem, simprocAttr, h6, h10, h11, h12, h85] at hL
      try clear h6 h10 h11 h12 h85
      have h10 := hL
      clear hL
      clear hK K
      refine awl_ret ?_
      refine ret0 (by simp only [go_sem, simprocAttr, h10]; exact rfl) ?_
      try simp only [go_sem, simprocAttr]
      all_goals try clear hR1
      all_goals (rw [work, if_neg c1, if_neg c2, if_neg c4, if_pos c6, if_pos c7] <;> rfl)
     ·
      try simp only [cnd] at c7
      refine awl_skip ?_
      refine awl_seq ?_
      refine awl_regS _ rfl fun K hK => ?_
      try simp only [go_sem, simprocAttr, h6, h10, h11, h12, h85]
      repeat' (refine And.intro (by first | rfl | omega | (simp; done)) ?_)
      refine hK _ _ (.mk (awl_live' [10] fun ρ hL => ?_))
      try simp only [go_sem, simprocAttr, h6, h10, h11, h12, h85] at hL
      try clear h6 h10 h11 h12 h85
      have h10 := hL
      clear hL
      clear hK K
      refine awl_ret ?_
      refine ret0 (by simp only [go_sem, simprocAttr, h10]; exact rfl) ?_
      try simp only [go_sem, simprocAttr]
      all_goals try clear hR1
      all_goals (rw [work, if_neg c1, if_neg c2, if_neg c4, if_pos c6, if_neg (fun h => h c7)] <;> rfl)
    ·
     try simp only [cnd] at c6
     refine awl_seq ?_
     refine awl_regS _ rfl fun K hK => ?_
     try simp only [go_sem, simprocAttr, h5, h6, h7, h8, h9, h10, h11, h12, h20, h72]
     repeat' (refine And.intro (by first | rfl | omega | (simp; done)) ?_)
     refine hK _ _ (.mk (awl_live' [5, 6, 7, 8, 9, 10, 11, 12, 82] fun ρ hL => ?_))
     try simp only [go_sem, simprocAttr, h5, h6, h7, h8, h9, h10, h11, h12, h20, h72] at hL
     try clear h5 h6 h7 h8 h9 h10 h11 h12 h20 h72
     obtain ⟨h5, h6, h7, h8, h9, h10, h11, h12, h82⟩ := hL
     clear hK K
     refine awl_cond h82 (fun c8 => ?_) (fun c8 => ?_)
     ·
      try simp only [cnd] at c8
      refine awl_regS _ rfl fun K hK => ?_
      try simp only [go_sem, simprocAttr, h5, h6, h7, h8, h9, h10, h11, h12, h82]
      repeat' (refine And.intro (by first | rfl | omega | (simp; done)) ?_)
      refine hK _ _ (.mk (awl_live' [6, 10, 11, 12] fun ρ hL => ?_))
      try simp only [go_sem, simprocAttr, h5, h6, h7, h8, h9, h10, h11, h12, h82] at hL
      try clear h5 h6 h7 h8 h9 h10 h11 h12 h82
      obtain ⟨h6, h10, h11, h12⟩ := hL
      clear hK K
      refine awl_nil ?_
      refine blk_normal (hR1 _ _ (.mk ?_))
      refine awl_seq ?_
      refine awl_seq ?_
      refine awl_regS _ rfl fun K hK => ?_
      try simp only [go_sem, simprocAttr, h6, h10, h11, h12]
      repeat' (refine And.intro (by first | rfl | omega | (simp; done)) ?_)
      refine hK _ _ (.mk (awl_live' [6, 10, 11, 12, 85] fun ρ hL => ?_))
      try simp only [go_sem, simprocAttr, h6, h10, h11, h12] at hL
      try clear h6 h10 h11 h12
      obtain ⟨h6, h10, h11, h12, h85⟩ := hL
      clear hK K
      refine awl_cond h85 (fun c9 => ?_) (fun c9 => ?_)
      ·
       try simp only [cnd] at c9
       refine awl_seq ?_
       refine awl_regS _ rfl fun K hK => ?_
       try simp only [go_sem, simprocAttr, h6, h10, h11, h12, h85]
       repeat' (refine And.intro (by first | rfl | omega | (simp; done)) ?_)
       refine opS_call_ro rfl (sat_spec_l9Trap ?_ ?_) ?ha ?hv ?hh ?_
       case ha => simp only [go_sem, simprocAttr, h6, h10, h11, h12, h85]; first | done | rfl
       case hv => first | rfl | (simp only [go_sem]; done)
       case hh => first | rfl | (simp only [go_sem]; done)
       try simp only [go_sem, simprocAttr, h6, h10, h11, h12, h85]
       repeat' (refine And.intro (by first | rfl | omega | (simp; done)) ?_)
       refine hK _ _ (.mk (awl_live' [10] fun ρ hL => ?_))
       try simp only [go_sem, simprocAttr, h6, h10, h11, h12, h85] at hL
       try clear h6 h10 h11 h12 h85
       have h10 := hL
       clear hL
       clear hK K
       refine awl_ret ?_
       refine ret0 (by simp only [go_sem, simprocAttr, h10]; exact rfl) ?_
       try simp only [go_sem, simprocAttr]
       all_goals try clear hR1
       all_goals (rw [work, if_neg c1, if_neg c2, if_neg c4, if_neg c6, if_pos c8] <;> rfl)
      ·
       try simp only [cnd] at c9
       first | done | simp at c9
     ·
      try simp only [cnd] at c8
      refine awl_seq ?_
      refine awl_regS _ rfl fun K hK => ?_
      try simp only [go_sem, simprocAttr, h5, h6, h7, h8, h9, h10, h11, h12, h82]
      repeat' (refine And.intro (by first | rfl | omega | (simp; done)) ?_)
      refine opS_call_ro rfl (sat_spec_Sets ?_) ?ha ?hv ?hh ?_
      case ha => simp only [go_sem, simprocAttr, h5, h6, h7, h8, h9, h10, h11, h12, h82]; first | done | rfl
      case hv => first | rfl | (simp only [go_sem]; done)
      case hh => first | rfl | (simp only [go_sem]; done)
      try simp only [go_sem, simprocAttr, h5, h6, h7, h8, h9, h10, h11, h12, h82]
      repeat' (refine And.intro (by first | rfl | omega | (simp; done)) ?_)
      refine hK _ _ (.mk (awl_live' [5, 6, 7, 8, 9, 10, 11, 12] fun ρ hL => ?_))
      try simp only [go_sem, simprocAttr, h5, h6, h7, h8, h9, h10, h11, h12, h82] at hL
      try clear h5 h6 h7 h8 h9 h10 h11 h12 h82
      obtain ⟨h5, h6, h7, h8, h9, h10, h11, h12⟩ := hL
      clear hK K
      refine awl_seq ?_
      refine awl_regS _ rfl fun K hK => ?_
      try simp only [go_sem, simprocAttr, h5, h6, h7, h8, h9, h10, h11, h12]
      repeat' (refine And.intro (by first | rfl | omega | (simp; done)) ?_)
      refine hK _ _ (.mk (awl_live' [5, 6, 7, 8, 9, 10, 11, 12, 26] fun ρ hL => ?_))
      try simp only [go_sem, simprocAttr, h5, h6, h7, h8, h9, h10, h11, h12] at hL
      try clear h5 h6 h7 h8 h9 h10 h11 h12
      obtain ⟨h5, h6, h7, h8, h9, h10, h11, h12, h26⟩ := hL
      clear hK K
      refine awl_cond h26 (fun c10 => ?_) (fun c10 => ?_)
      ·
       try simp only [cnd] at c10
       refine awl_regS _ rfl fun K hK => ?_
       try simp only [go_sem, simprocAttr, h5, h6, h7, h8, h9, h10, h11, h12, h26]
       repeat' (refine And.intro (by first | rfl | omega | (simp; done)) ?_)
       refine opS_call_ro rfl (sat_spec_l9Value ?_ ?_ ?_ ?_) ?ha ?hv ?hh ?_
       case ha => simp only [go_sem, simprocAttr, h5, h6, h7, h8, h9, h10, h11, h12, h26]; first | done | rfl
       case hv => first | rfl | (simp only [go_sem]; done)
       case hh => first | rfl | (simp only [go_sem]; done)
       try simp only [go_sem, simprocAttr, h5, h6, h7, h8, h9, h10, h11, h12, h26]
       repeat' (refine And.intro (by first | rfl | omega | (simp; done)) ?_)
       refine hK _ _ (.mk (awl_live' [6, 10, 11, 12] fun ρ hL => ?_))
       try simp only [go_sem, simprocAttr, h5, h6, h7, h8, h9, h10, h11, h12, h26] at hL
       try clear h5 h6 h7 h8 h9 h10 h11 h12 h26
       obtain ⟨h6, h10, h11, h12⟩ := hL
       clear hK K
       refine awl_nil ?_
       refine blk_normal (hR1 _ _ (.mk ?_))
       refine awl_seq ?_
       refine awl_seq ?_
       refine awl_regS _ rfl fun K hK => ?_
       try simp only [go_sem, simprocAttr, h6, h10, h11, h12]
       repeat' (refine And.intro (by first | rfl | omega | (simp; done)) ?_)
       refine hK _ _ (.mk (awl_live' [6, 10, 11, 12, 85] fun ρ hL => ?_))
       try simp only [go_sem, simprocAttr, h6, h10, h11, h12] at hL
       try clear h6 h10 h11 h12
       obtain ⟨h6, h10, h11, h12, h85⟩ := hL
       clear hK K
       refine awl_cond h85 (fun c11 => ?_) (fun c11 => ?_)
       ·
        try simp only [cnd] at c11
        first | done | simp at c11
       ·
        try simp only [cnd] at c11
        refine awl_skip ?_
        refine awl_seq ?_
        refine awl_regS _ rfl fun K hK => ?_
        try simp only [go_sem, simprocAttr, h6, h10, h11, h12, h85]
        repeat' (refine And.intro (by first | rfl | omega | (simp; done)) ?_)
        refine hK _ _ (.mk (awl_live' [10] fun ρ hL => ?_))
        try simp only [go_sem, simprocAttr, h6, h10, h11, h12, h85] at hL
        try clear h6 h10 h11 h12 h85
        have h10 := hL
        clear hL
        clear hK K
        refine awl_ret ?_
        refine ret0 (by simp only [go_sem, simprocAttr, h10]; exact rfl) ?_
        try simp only [go_sem, simprocAttr]
        all_goals try clear hR1
        all_goals (rw [work, if_neg c1, if_neg c2, if_neg c4, if_neg c6, if_neg c8, if_pos c10] <;> rfl)
      ·
       try simp only [cnd] at c10
       refine awl_skip ?_
       refine awl_nil ?_
       refine blk_normal (hR1 _ _ (.mk ?_))
       refine awl_seq ?_
       refine awl_seq ?_
       refine awl_regS _ rfl fun K hK => ?_
       try simp only [go_sem, simprocAttr, h5, h6, h7, h8, h9, h10, h11, h12, h26]
       repeat' (refine And.intro (by first | rfl | omega | (simp; done)) ?_)
       refine hK _ _ (.mk (awl_live' [6, 10, 11, 12, 85] fun ρ hL => ?_))
       try simp only [go_sem, simprocAttr, h5, h6, h7, h8, h9, h10, h11, h12, h26] at hL
       try clear h5 h6 h7 h8 h9 h10 h11 h12 h26
       obtain ⟨h6, h10, h11, h12, h85⟩ := hL
       clear hK K
       refine awl_cond h85 (fun c12 => ?_) (fun c12 => ?_)
       ·
        try simp only [cnd] at c12
        first | done | simp at c12
       ·
        try simp only [cnd] at c12
        refine awl_skip ?_
        refine awl_seq ?_
        refine awl_regS _ rfl fun K hK => ?_
        try simp only [go_sem, simprocAttr, h6, h10, h11, h12, h85]
        repeat' (refine And.intro (by first | rfl | omega | (simp; done)) ?_)
        refine hK _ _ (.mk (awl_live' [10] fun ρ hL => ?_))
        try simp only [go_sem, simprocAttr, h6, h10, h11, h12, h85] at hL
        try clear h6 h10 h11 h12 h85
        have h10 := hL
        clear hL
        clear hK K
        refine awl_ret ?_
        refine ret0 (by simp only [go_sem, simprocAttr, h10]; exact rfl) ?_
        try simp only [go_sem, simprocAttr]
        all_goals try clear hR1
        all_goals (rw [work, if_neg c1, if_neg c2, if_neg c4, if_neg c6, if_neg c8, if_neg c10] <;> rfl)
set_option maxHeartbeats 8000000 in
set_option maxRecDepth 100000 in
theorem sat_impl_Work (x : Ins) (pc : Word) (a : Word) (b : Word) (g : Word)  : Sat Tryz.prog 76 [.agg x.cells, .agg pc.cells, .agg a.cells, .agg b.cells, .agg g.cells] [] (.agg (Fx.cells (work x pc a b g))) [] := by
 refine sat_mk [.cell 10 72] 0 94 Tryz.call76 Tryz.func76 Tryz.ntmps76 rfl rfl rfl rfl rfl ?_
 refine awl_live' [0, 1, 2, 3, 4] fun ρ hL => ?_
 try simp only [go_sem, simprocAttr] at hL
 obtain ⟨h0, h1, h2, h3, h4⟩ := hL
 refine awl_seq ?_
 refine awl_regS _ rfl fun K hK => ?_
 try simp only [go_sem, simprocAttr, h0, h1, h2, h3, h4]
 repeat' (refine And.intro (by first | rfl | omega | (simp; done)) ?_)
 refine hK _ _ (.mk (awl_live' [5, 6, 7, 8, 9, 10] fun ρ hL => ?_))
 try simp only [go_sem, simprocAttr, h0, h1, h2, h3, h4] at hL
 try clear h0 h1 h2 h3 h4
 obtain ⟨h5, h6, h7, h8, h9, h10⟩ := hL
 clear hK K
 refine awl_seq ?_
 refine awl_regS _ rfl fun K hK => ?_
 try simp only [go_sem, simprocAttr, h5, h6, h7, h8, h9, h10]
 repeat' (refine And.intro (by first | rfl | omega | (simp; done)) ?_)
 refine opS_call_ro rfl (sat_impl_Point ?_ ?_) ?ha ?hv ?hh ?_
 case ha => simp only [go_sem, simprocAttr, h5, h6, h7, h8, h9, h10]; first | done | rfl
 case hv => first | rfl | (simp only [go_sem]; done)
 case hh => first | rfl | (simp only [go_sem]; done)
 try simp only [go_sem, simprocAttr, h5, h6, h7, h8, h9, h10]
 repeat' (refine And.intro (by first | rfl | omega | (simp; done)) ?_)
 refine hK _ _ (.mk (awl_live' [5, 6, 7, 8, 9, 10, 11] fun ρ hL => ?_))
 try simp only [go_sem, simprocAttr, h5, h6, h7, h8, h9, h10] at hL
 try clear h5 h6 h7 h8 h9 h10
 obtain ⟨h5, h6, h7, h8, h9, h10, h11⟩ := hL
 clear hK K
 refine awl_seq ?_
 refine awl_seq ?_
 refine awl_regS _ rfl fun K hK => ?_
 try simp only [go_sem, simprocAttr, h5, h6, h7, h8, h9, h10, h11]
 repeat' (refine And.intro (by first | rfl | omega | (simp; done)) ?_)
 refine hK _ _ (.mk (awl_live' [5, 6, 7, 8, 9, 10, 11, 19] fun ρ hL => ?_))
 try simp only [go_sem, simprocAttr, h5, h6, h7, h8, h9, h10, h11] at hL
 try clear h5 h6 h7 h8 h9 h10 h11
 obtain ⟨h5, h6, h7, h8, h9, h10, h11, h19⟩ := hL
 clear hK K
 refine awl_block fun R1 hw1 hR1 => ?_
 refine awl_seq ?_
 refine awl_regS _ rfl fun K hK => ?_
 try simp only [go_sem, simprocAttr, h5, h6, h7, h8, h9, h10, h11, h19]
 repeat' (refine And.intro (by first | rfl | omega | (simp; done)) ?_)
 refine hK _ _ (.mk (awl_live' [5, 6, 7, 8, 9, 10, 11, 19, 34] fun ρ hL => ?_))
 try simp only [go_sem, simprocAttr, h5, h6, h7, h8, h9, h10, h11, h19] at hL
 try clear h5 h6 h7 h8 h9 h10 h11 h19
 obtain ⟨h5, h6, h7, h8, h9, h10, h11, h19, h34⟩ := hL
 clear hK K
 refine awl_cond h34 (fun c1 => ?_) (fun c1 => ?_)
 ·
  try simp only [cnd] at c1
  refine awl_regD mixed _ rfl fun K hK => ?_
  try simp only [go_sem, simprocAttr, h5, h6, h7, h8, h9, h10, h11, h19, h34]
  repeat' (refine And.intro (by first | omega | (exact ⟨[0, 1, 0, 4, 15, 0, 31, 95, 255, 511], by kernel_rfl⟩) | kernel_rfl) ?_)
  refine hK _ _ (.mk (awl_live' [6, 10, 11] fun ρ hL => ?_))
  try simp only [go_sem, simprocAttr, h5, h6, h7, h8, h9, h10, h11, h19, h34] at hL
  try clear h5 h6 h7 h8 h9 h10 h11 h19 h34
  obtain ⟨h6, h10, h11⟩ := hL
  clear hK K
  refine awl_nil ?_
  refine blk_normal (hR1 _ _ (.mk ?_))
  refine awl_seq ?_
  refine awl_seq ?_
  refine awl_regS _ rfl fun K hK => ?_
  try simp only [go_sem, simprocAttr, h6, h10, h11]
  repeat' (refine And.intro (by first | rfl | omega | (simp; done)) ?_)
  refine hK _ _ (.mk (awl_live' [6, 10, 11, 88] fun ρ hL => ?_))
  try simp only [go_sem, simprocAttr, h6, h10, h11] at hL
  try clear h6 h10 h11
  obtain ⟨h6, h10, h11, h88⟩ := hL
  clear hK K
  refine awl_cond h88 (fun c2 => ?_) (fun c2 => ?_)
  ·
   try simp only [cnd] at c2
   first | done | simp at c2
  ·
   try simp only [cnd] at c2
   refine awl_skip ?_
   refine awl_seq ?_
   refine awl_regS _ rfl fun K hK => ?_
   try simp only [go_sem, simprocAttr, h6, h10, h11, h88]
   repeat' (refine And.intro (by first | rfl | omega | (simp; done)) ?_)
   refine hK _ _ (.mk (awl_live' [10] fun ρ hL => ?_))
   try simp only [go_sem, simprocAttr, h6, h10, h11, h88] at hL
   try clear h6 h10 h11 h88
   have h10 := hL
   clear hL
   clear hK K
   refine awl_ret ?_
   refine ret0 (by simp only [go_sem, simprocAttr, h10]; exact rfl) ?_
   try simp only [go_sem, simprocAttr]
   all_goals try clear hR1
   all_goals (rw [work, if_pos c1] <;> rfl)
 ·
  try simp only [cnd] at c1
  refine awl_seq ?_
  refine awl_regS _ rfl fun K hK => ?_
  try simp only [go_sem, simprocAttr, h5, h6, h7, h8, h9, h10, h11, h19, h34]
  repeat' (refine And.intro (by first | rfl | omega | (simp; done)) ?_)
  refine hK _ _ (.mk (awl_live' [5, 6, 7, 8, 9, 10, 11, 19, 44] fun ρ hL => ?_))
  try simp only [go_sem, simprocAttr, h5, h6, h7, h8, h9, h10, h11, h19, h34] at hL
  try clear h5 h6 h7 h8 h9 h10 h11 h19 h34
  obtain ⟨h5, h6, h7, h8, h9, h10, h11, h19, h44⟩ := hL
  clear hK K
  refine awl_cond h44 (fun c3 => ?_) (fun c3 => ?_)
  ·
   try simp only [cnd] at c3
   refine awl_seq ?_
   refine awl_regS _ rfl fun K hK => ?_
   try simp only [go_sem, simprocAttr, h5, h6, h7, h8, h9, h10, h11, h19, h44]
   repeat' (refine And.intro (by first | rfl | omega | (simp; done)) ?_)
   refine opS_call_ro rfl (sat_impl_Try ?_ ?_ ?_ ?hp0) ?ha ?hv ?hh ?_
   case ha => simp only [go_sem, simprocAttr, h5, h6, h7, h8, h9, h10, h11, h19, h44]; first | done | rfl
   case hp0 => first | assumption | omega | (simp; done)
   case hv => first | rfl | (simp only [go_sem]; done)
   case hh => first | rfl | (simp only [go_sem]; done)
   try simp only [go_sem, simprocAttr, h5, h6, h7, h8, h9, h10, h11, h19, h44]
   repeat' (refine And.intro (by first | rfl | omega | (simp; done)) ?_)
   refine hK _ _ (.mk (awl_live' [5, 6, 7, 10, 11] fun ρ hL => ?_))
   try simp only [go_sem, simprocAttr, h5, h6, h7, h8, h9, h10, h11, h19, h44] at hL
   try clear h5 h6 h7 h8 h9 h10 h11 h19 h44
   obtain ⟨h5, h6, h7, h10, h11⟩ := hL
   clear hK K
   refine awl_regD mixed _ rfl fun K hK => ?_
   try simp only [go_sem, simprocAttr, h5, h6, h7, h10, h11]
   repeat' (refine And.intro (by first | omega | (exact ⟨[0, 1, 0, 4, 0, 15, 47, 111, 239, 511, 1023], by kernel_rfl⟩) | kernel_rfl) ?_)
   refine hK _ _ (.mk (awl_live' [6, 10, 11] fun ρ hL => ?_))
   try simp only [go_sem, simprocAttr, h5, h6, h7, h10, h11] at hL
   try clear h5 h6 h7 h10 h11
   obtain ⟨h6, h10, h11⟩ := hL
   clear hK K
   refine awl_nil ?_
   refine blk_normal (hR1 _ _ (.mk ?_))
   refine awl_seq ?_
   refine awl_seq ?_
   refine awl_regS _ rfl fun K hK => ?_
   try simp only [go_sem, simprocAttr, h6, h10, h11]
   repeat' (refine And.intro (by first | rfl | omega | (simp; done)) ?_)
   refine hK _ _ (.mk (awl_live' [6, 10, 11, 88] fun ρ hL => ?_))
   try simp only [go_sem, simprocAttr, h6, h10, h11] at hL
   try clear h6 h10 h11
   obtain ⟨h6, h10, h11, h88⟩ := hL
   clear hK K
   refine awl_cond h88 (fun c4 => ?_) (fun c4 => ?_)
   ·
    try simp only [cnd] at c4
    refine awl_seq ?_
    refine awl_regS _ rfl fun K hK => ?_
    try simp only [go_sem, simprocAttr, h6, h10, h11, h88]
    repeat' (refine And.intro (by first | rfl | omega | (simp; done)) ?_)
    refine opS_call_ro rfl (sat_impl_trapped ?_ ?_) ?ha ?hv ?hh ?_
    case ha => simp only [go_sem, simprocAttr, h6, h10, h11, h88]; first | done | rfl
    case hv => first | rfl | (simp only [go_sem]; done)
    case hh => first | rfl | (simp only [go_sem]; done)
    try simp only [go_sem, simprocAttr, h6, h10, h11, h88]
    repeat' (refine And.intro (by first | rfl | omega | (simp; done)) ?_)
    refine hK _ _ (.mk (awl_live' [10] fun ρ hL => ?_))
    try simp only [go_sem, simprocAttr, h6, h10, h11, h88] at hL
    try clear h6 h10 h11 h88
    have h10 := hL
    clear hL
    clear hK K
    refine awl_ret ?_
    refine ret0 (by simp only [go_sem, simprocAttr, h10]; exact rfl) ?_
    try simp only [go_sem, simprocAttr]
    all_goals try clear hR1
    all_goals (rw [work, if_neg c1, if_pos c3, if_pos c4] <;> rfl)
   ·
    try simp only [cnd] at c4
    refine awl_skip ?_
    refine awl_seq ?_
    refine awl_regS _ rfl fun K hK => ?_
    try simp only [go_sem, simprocAttr, h6, h10, h11, h88]
    repeat' (refine And.intro (by first | rfl | omega | (simp; done)) ?_)
    refine hK _ _ (.mk (awl_live' [10] fun ρ hL => ?_))
    try simp only [go_sem, simprocAttr, h6, h10, h11, h88] at hL
    try clear h6 h10 h11 h88
    have h10 := hL
    clear hL
    clear hK K
    refine awl_ret ?_
    refine ret0 (by simp only [go_sem, simprocAttr, h10]; exact rfl) ?_
    try simp only [go_sem, simprocAttr]
    all_goals try clear hR1
    all_goals (rw [work, if_neg c1, if_pos c3, if_neg (fun h => h c4), c4] <;> rfl)
  ·
   try simp only [cnd] at c3
   refine awl_seq ?_
   refine awl_regS _ rfl fun K hK => ?_
   try simp only [go_sem, simprocAttr, h5, h6, h7, h8, h9, h10, h11, h19, h44]
   repeat' (refine And.intro (by first | rfl | omega | (simp; done)) ?_)
   refine hK _ _ (.mk (awl_live' [5, 6, 7, 8, 9, 10, 11, 19, 59] fun ρ hL => ?_))
   try simp only [go_sem, simprocAttr, h5, h6, h7, h8, h9, h10, h11, h19, h44] at hL
   try clear h5 h6 h7 h8 h9 h10 h11 h19 h44
   obtain ⟨h5, h6, h7, h8, h9, h10, h11, h19, h59⟩ := hL
   clear hK K
   refine awl_cond h59 (fun c5 => ?_) (fun c5 => ?_)
   ·
    try simp only [cnd] at c5
    refine awl_seq ?_
    refine awl_regS _ rfl fun K hK => ?_
    try simp only [go_sem, simprocAttr, h5, h6, h7, h8, h9, h10, h11, h19, h59]
    repeat' (refine And.intro (by first | rfl | omega | (simp; done)) ?_)
    refine hK _ _ (.mk (awl_live' [5, 6, 10, 11, 63] fun ρ hL => ?_))
    try simp only [go_sem, simprocAttr, h5, h6, h7, h8, h9, h10, h11, h19, h59] at hL
    try clear h5 h6 h7 h8 h9 h10 h11 h19 h59
    obtain ⟨h5, h6, h10, h11, h63⟩ := hL
    clear hK K
    refine awl_cond h63 (fun c6 => ?_) (fun c6 => ?_)
    ·
     try simp only [cnd] at c6
     refine awl_regS _ rfl fun K hK => ?_
     try simp only [go_sem, simprocAttr, h5, h6, h10, h11, h63]
     repeat' (refine And.intro (by first | rfl | omega | (simp; done)) ?_)
     refine opS_call_ro rfl (sat_impl_Point ?_ ?_) ?ha ?hv ?hh ?_
     case ha => simp only [go_sem, simprocAttr, h5, h6, h10, h11, h63]; first | done | rfl
     case hv => first | rfl | (simp only [go_sem]; done)
     case hh => first | rfl | (simp only [go_sem]; done)
     try simp only [go_sem, simprocAttr, h5, h6, h10, h11, h63]
     repeat' (refine And.intro (by first | rfl | omega | (simp; done)) ?_)
     refine hK _ _ (.mk (awl_live' [6, 10, 11] fun ρ hL => ?_))
     try simp only [go_sem, simprocAttr, h5, h6, h10, h11, h63] at hL
     try clear h5 h6 h10 h11 h63
     obtain ⟨h6, h10, h11⟩ := hL
     clear hK K
     refine awl_nil ?_
     refine blk_normal (hR1 _ _ (.mk ?_))
     refine awl_seq ?_
     refine awl_seq ?_
     refine awl_regS _ rfl fun K hK => ?_
     try simp only [go_sem, simprocAttr, h6, h10, h11]
     repeat' (refine And.intro (by first | rfl | omega | (simp; done)) ?_)
     refine hK _ _ (.mk (awl_live' [6, 10, 11, 88] fun ρ hL => ?_))
     try simp only [go_sem, simprocAttr, h6, h10, h11] at hL
     try clear h6 h10 h11
     obtain ⟨h6, h10, h11, h88⟩ := hL
     clear hK K
     refine awl_cond h88 (fun c7 => ?_) (fun c7 => ?_)
     ·
      try simp only [cnd] at c7
      first | done | simp at c7
     ·
      try simp only [cnd] at c7
      refine awl_skip ?_
      refine awl_seq ?_
      refine awl_regS _ rfl fun K hK => ?_
      try simp only [go_sem, simprocAttr, h6, h10, h11, h88]
      repeat' (refine And.intro (by first | rfl | omega | (simp; done)) ?_)
      refine hK _ _ (.mk (awl_live' [10] fun ρ hL => ?_))
      try simp only [go_sem, simprocAttr, h6, h10, h11, h88] at hL
      try clear h6 h10 h11 h88
      have h10 := hL
      clear hL
      clear hK K
      refine awl_ret ?_
      refine ret0 (by simp only [go_sem, simprocAttr, h10]; exact rfl) ?_
      try simp only [go_sem, simprocAttr]
      all_goals try clear hR1
      all_goals (rw [work, if_neg c1, if_neg c3, if_pos c5, if_pos c6] <;> rfl)
    ·
     try simp only [cnd] at c6
     refine awl_skip ?_
     refine awl_nil ?_
     refine blk_normal (hR1 _ _ (.mk ?_))
     refine awl_seq ?_
     refine awl_seq ?_
     refine awl_regS _ rfl fun K hK => ?_
     try simp only [go_sem, simprocAttr, h5, h6, h10, h11, h63]
     repeat' (refine And.intro (by first | rfl | omega | (simp; done)) ?_)
     refine hK _ _ (.mk (awl_live' [6, 10, 11, 88] fun ρ hL => ?_))
     try simp only [go_sem, simprocAttr, h5, h6, h10, h11, h63] at hL
     try clear h5 h6 h10 h11 h63
     obtain ⟨h6, h10, h11, h88⟩ := hL
     clear hK K
     refine awl_cond h88 (fun c8 => ?_) (fun c8 => ?_)
     ·
      try simp only [cnd] at c8
      first | done | simp at c8
     ·
      try simp only [cnd] at c8
      refine awl_skip ?_
      refine awl_seq ?_
      refine awl_regS _ rfl fun K hK => ?_
      try simp only [go_sem, simprocAttr, h6, h10, h11, h88]
      repeat' (refine And.intro (by first | rfl | omega | (simp; done)) ?_)
      refine hK _ _ (.mk (awl_live' [10] fun ρ hL => ?_))
      try simp only [go_sem, simprocAttr, h6, h10, h11, h88] at hL
      try clear h6 h10 h11 h88
      have h10 := hL
      clear hL
      clear hK K
      refine awl_ret ?_
      refine ret0 (by simp only [go_sem, simprocAttr, h10]; exact rfl) ?_
      try simp only [go_sem, simprocAttr]
      all_goals try clear hR1
      all_goals (rw [work, if_neg c1, if_neg c3, if_pos c5, if_neg c6] <;> rfl)
   ·
    try simp only [cnd] at c5
    refine awl_seq ?_
    refine awl_regS _ rfl fun K hK => ?_
    try simp only [go_sem, simprocAttr, h5, h6, h7, h8, h9, h10, h11, h19, h59]
    repeat' (refine And.intro (by first | rfl | omega | (simp; done)) ?_)
    refine hK _ _ (.mk (awl_live' [5, 6, 7, 8, 9, 10, 11, 19, 72] fun ρ hL => ?_))
    try simp only [go_sem, simprocAttr, h5, h6, h7, h8, h9, h10, h11, h19, h59] at hL
    try clear h5 h6 h7 h8 h9 h10 h11 h19 h59
    obtain ⟨h5, h6, h7, h8, h9, h10, h11, h19, h72⟩ := hL
    clear hK K
    refine awl_cond h72 (fun c9 => ?_) (fun c9 => ?_)
    ·
     try simp only [cnd] at c9
     refine awl_seq ?_
     refine awl_regS _ rfl fun K hK => ?_
     try simp only [go_sem, simprocAttr, h5, h6, h7, h8, h9, h10, h11, h19, h72]
     repeat' (refine And.intro (by first | rfl | omega | (simp; done)) ?_)
     refine opS_call_ro rfl (sat_impl_Try ?_ ?_ ?_ ?hp0) ?ha ?hv ?hh ?_
     case ha => simp only [go_sem, simprocAttr, h5, h6, h7, h8, h9, h10, h11, h19, h72]; first | done | rfl
     case hp0 => first | assumption | omega | (simp; done)
     case hv => first | rfl | (simp only [go_sem]; done)
     case hh => first | rfl | (simp only [go_sem]; done)
     try simp only [go_sem, simprocAttr, h5, h6, h7, h8, h9, h10, h11, h19, h72]
     repeat' (refine And.intro (by first | rfl | omega | (simp; done)) ?_)
     refine hK _ _ (.mk (awl_live' [6, 7, 10, 11] fun ρ hL => ?_))
     try simp only [go_sem, simprocAttr, h5, h6, h7, h8, h9, h10, h11, h19, h72] at hL
     try clear h5 h6 h7 h8 h9 h10 h11 h19 h72
     obtain ⟨h6, h7, h10, h11⟩ := hL
     clear hK K
     refine awl_regS _ rfl fun K hK => ?_
     try simp only [go_sem, simprocAttr, h6, h7, h10, h11]
     repeat' (refine And.intro (by first | rfl | omega | (simp; done)) ?_)
     refine hK _ _ (.mk (awl_live' [6, 10, 11] fun ρ hL => ?_))
     try simp only [go_sem, simprocAttr, h6, h7, h10, h11] at hL
     try clear h6 h7 h10 h11
     obtain ⟨h6, h10, h11⟩ := hL
     clear hK K
     refine awl_nil ?_
     refine blk_normal (hR1 _ _ (.mk ?_))
     refine awl_seq ?_
     refine awl_seq ?_
     refine awl_regS _ rfl fun K hK => ?_
     try simp only [go_sem, simprocAttr, h6, h10, h11]
     repeat' (refine And.intro (by first | rfl | omega | (simp; done)) ?_)
     refine hK _ _ (.mk (awl_live' [6, 10, 11, 88] fun ρ hL => ?_))
     try simp only [go_sem, simprocAttr, h6, h10, h11] at hL
     try clear h6 h10 h11
     obtain ⟨h6, h10, h11, h88⟩ := hL
     clear hK K
     refine awl_cond h88 (fun c10 => ?_) (fun c10 => ?_)
     ·
      try simp only [cnd] at c10
      refine awl_seq ?_
      refine awl_regS _ rfl fun K hK => ?_
      try simp only [go_sem, simprocAttr, h6, h10, h11, h88]
      repeat' (refine And.intro (by first | rfl | omega | (simp; done)) ?_)
      refine opS_call_ro rfl (sat_impl_trapped ?_ ?_) ?ha ?hv ?hh ?_
      case ha => simp only [go_sem, simprocAttr, h6, h10, h11, h88]; first | done | rfl
      case hv => first | rfl | (simp only [go_sem]; done)
      case hh => first | rfl | (simp only [go_sem]; done)
      try simp only [go_sem, simprocAttr, h6, h10, h11, h88]
      repeat' (refine And.intro (by first | rfl | omega | (simp; done)) ?_)
      refine hK _ _ (.mk (awl_live' [10] fun ρ hL => ?_))
      try simp only [go_sem, simprocAttr, h6, h10, h11, h88] at hL
      try clear h6 h10 h11 h88
      have h10 := hL
      clear hL
      clear hK K
      refine awl_ret ?_
      refine ret0 (by simp only [go_sem, simprocAttr, h10]; exact rfl) ?_
      try simp only [go_sem, simprocAttr]
      all_goals try clear hR1
      all_goals (rw [work, if_neg c1, if_neg c3, if_neg c5, if_pos c9, if_pos c10] <;> rfl)
     ·
      try simp only [cnd] at c10
      refine awl_skip ?_
      refine awl_seq ?_
      refine awl_regS _ rfl fun K hK => ?_
      try simp only [go_sem, simprocAttr, h6, h10, h11, h88]
      repeat' (refine And.intro (by first | rfl | omega | (simp; done)) ?_)
      refine hK _ _ (.mk (awl_live' [10] fun ρ hL => ?_))
      try simp only [go_sem, simprocAttr, h6, h10, h11, h88] at hL
      try clear h6 h10 h11 h88
      have h10 := hL
      clear hL
      clear hK K
      refine awl_ret ?_
      refine ret0 (by simp only [go_sem, simprocAttr, h10]; exact rfl) ?_
      try simp only [go_sem, simprocAttr]
      all_goals try clear hR1
      all_goals (rw [work, if_neg c1, if_neg c3, if_neg c5, if_pos c9, if_neg (fun h => h c10), c10] <;> rfl)
    ·
     try simp only [cnd] at c9
     refine awl_seq ?_
     refine awl_regS _ rfl fun K hK => ?_
     try simp only [go_sem, simprocAttr, h5, h6, h7, h8, h9, h10, h11, h19, h72]
     repeat' (refine And.intro (by first | rfl | omega | (simp; done)) ?_)
     refine hK _ _ (.mk (awl_live' [5, 6, 7, 8, 9, 10, 11, 83] fun ρ hL => ?_))
     try simp only [go_sem, simprocAttr, h5, h6, h7, h8, h9, h10, h11, h19, h72] at hL
     try clear h5 h6 h7 h8 h9 h10 h11 h19 h72
     obtain ⟨h5, h6, h7, h8, h9, h10, h11, h83⟩ := hL
     clear hK K
     refine awl_cond h83 (fun c11 => ?_) (fun c11 => ?_)
     ·
      try simp only [cnd] at c11
      refine awl_regS _ rfl fun K hK => ?_
      try simp only [go_sem, simprocAttr, h5, h6, h7, h8, h9, h10, h11, h83]
      repeat' (refine And.intro (by first | rfl | omega | (simp; done)) ?_)
      refine hK _ _ (.mk (awl_live' [6, 10, 11] fun ρ hL => ?_))
      try simp only [go_sem, simprocAttr, h5, h6, h7, h8, h9, h10, h11, h83] at hL
      try clear h5 h6 h7 h8 h9 h10 h11 h83
      obtain ⟨h6, h10, h11⟩ := hL
      clear hK K
      refine awl_nil ?_
      refine blk_normal (hR1 _ _ (.mk ?_))
      refine awl_seq ?_
      refine awl_seq ?_
      refine awl_regS _ rfl fun K hK => ?_
      try simp only [go_sem, simprocAttr, h6, h10, h11]
      repeat' (refine And.intro (by first | rfl | omega | (simp; done)) ?_)
      refine hK _ _ (.mk (awl_live' [6, 10, 11, 88] fun ρ hL => ?_))
      try simp only [go_sem, simprocAttr, h6, h10, h11] at hL
      try clear h6 h10 h11
      obtain ⟨h6, h10, h11, h88⟩ := hL
      clear hK K
      refine awl_cond h88 (fun c12 => ?_) (fun c12 => ?_)
      ·
       try simp only [cnd] at c12
       refine awl_seq ?_
       refine awl_regS _ rfl fun K hK => ?_
       try simp only [go_sem, simprocAttr, h6, h10, h11, h88]
       repeat' (refine And.intro (by first | rfl | omega | (simp; done)) ?_)
       refine opS_call_ro rfl (sat_impl_trapped ?_ ?_) ?ha ?hv ?hh ?_
       case ha => simp only [go_sem, simprocAttr, h6, h10, h11, h88]; first | done | rfl
       case hv => first | rfl | (simp only [go_sem]; done)
       case hh => first | rfl | (simp only [go_sem]; done)
       try simp only [go_sem, simprocAttr, h6, h10, h11, h88]
       repeat' (refine And.intro (by first | rfl | omega | (simp; done)) ?_)
       refine hK _ _ (.mk (awl_live' [10] fun ρ hL => ?_))
       try simp only [go_sem, simprocAttr, h6, h10, h11, h88] at hL
       try clear h6 h10 h11 h88
       have h10 := hL
       clear hL
       clear hK K
       refine awl_ret ?_
       refine ret0 (by simp only [go_sem, simprocAttr, h10]; exact rfl) ?_
       try simp only [go_sem, simprocAttr]
       all_goals try clear hR1
       all_goals (rw [work, if_neg c1, if_neg c3, if_neg c5, if_neg c9, if_pos c11] <;> rfl)
      ·
       try simp only [cnd] at c12
       first | done | simp at c12
     ·
      try simp only [cnd] at c11
      refine awl_seq ?_
      refine awl_regS _ rfl fun K hK => ?_
      try simp only [go_sem, simprocAttr, h5, h6, h7, h8, h9, h10, h11, h83]
      repeat' (refine And.intro (by first | rfl | omega | (simp; done)) ?_)
      refine opS_call_ro rfl (sat_impl_hasPart ?_ ?_) ?ha ?hv ?hh ?_
      case ha => simp only [go_sem, simprocAttr, h5, h6, h7, h8, h9, h10, h11, h83]; first | done | rfl
      case hv => first | rfl | (simp only [go_sem]; done)
      case hh => first | rfl | (simp only [go_sem]; done)
      try simp only [go_sem, simprocAttr, h5, h6, h7, h8, h9, h10, h11, h83]
      repeat' (refine And.intro (by first | rfl | omega | (simp; done)) ?_)
      refine hK _ _ (.mk (awl_live' [5, 6, 7, 8, 9, 10, 11, 21] fun ρ hL => ?_))
      try simp only [go_sem, simprocAttr, h5, h6, h7, h8, h9, h10, h11, h83] at hL
      try clear h5 h6 h7 h8 h9 h10 h11 h83
      obtain ⟨h5, h6, h7, h8, h9, h10, h11, h21⟩ := hL
      clear hK K
      refine awl_cond h21 (fun c13 => ?_) (fun c13 => ?_)
      ·
       try simp only [cnd] at c13
       refine awl_seq ?_
       refine awl_regS _ rfl fun K hK => ?_
       try simp only [go_sem, simprocAttr, h5, h6, h7, h8, h9, h10, h11, h21]
       repeat' (refine And.intro (by first | rfl | omega | (simp; done)) ?_)
       refine hK _ _ (.mk (awl_live' [5, 6, 7, 8, 9, 10, 11] fun ρ hL => ?_))
       try simp only [go_sem, simprocAttr, h5, h6, h7, h8, h9, h10, h11, h21] at hL
       try clear h5 h6 h7 h8 h9 h10 h11 h21
       obtain ⟨h5, h6, h7, h8, h9, h10, h11⟩ := hL
       clear hK K
       refine awl_seq ?_
       refine awl_regS _ rfl fun K hK => ?_
       try simp only [go_sem, simprocAttr, h5, h6, h7, h8, h9, h10, h11]
       repeat' (refine And.intro (by first | rfl | omega | (simp; done)) ?_)
       refine hK _ _ (.mk (awl_live' [5, 6, 7, 8, 9, 10, 11, 27] fun ρ hL => ?_))
       try simp only [go_sem, simprocAttr, h5, h6, h7, h8, h9, h10, h11] at hL
       try clear h5 h6 h7 h8 h9 h10 h11
       obtain ⟨h5, h6, h7, h8, h9, h10, h11, h27⟩ := hL
       clear hK K
       refine awl_cond h27 (fun c14 => ?_) (fun c14 => ?_)
       ·
        try simp only [cnd] at c14
        have ho := made_op c13 c3
        refine awl_regS _ rfl fun K hK => ?_
        try simp only [go_sem, simprocAttr, h5, h6, h7, h8, h9, h10, h11, h27]
        repeat' (refine And.intro (by first | rfl | omega | (simp; done)) ?_)
        refine opS_call_ro rfl (sat_impl_made x a b g ho) ?ha ?hv ?hh ?_
        case ha => simp only [go_sem, simprocAttr, h5, h6, h7, h8, h9, h10, h11, h27]; first | done | rfl
        case hv => first | rfl | (simp only [go_sem]; done)
        case hh => first | rfl | (simp only [go_sem]; done)
        try simp only [go_sem, simprocAttr, h5, h6, h7, h8, h9, h10, h11, h27]
        repeat' (refine And.intro (by first | rfl | omega | (simp; done)) ?_)
        refine hK _ _ (.mk (awl_live' [6, 10, 11] fun ρ hL => ?_))
        try simp only [go_sem, simprocAttr, h5, h6, h7, h8, h9, h10, h11, h27] at hL
        try clear h5 h6 h7 h8 h9 h10 h11 h27
        obtain ⟨h6, h10, h11⟩ := hL
        clear hK K
        refine awl_nil ?_
        refine blk_normal (hR1 _ _ (.mk ?_))
        refine awl_seq ?_
        refine awl_seq ?_
        refine awl_regS _ rfl fun K hK => ?_
        try simp only [go_sem, simprocAttr, h6, h10, h11]
        repeat' (refine And.intro (by first | rfl | omega | (simp; done)) ?_)
        refine hK _ _ (.mk (awl_live' [6, 10, 11, 88] fun ρ hL => ?_))
        try simp only [go_sem, simprocAttr, h6, h10, h11] at hL
        try clear h6 h10 h11
        obtain ⟨h6, h10, h11, h88⟩ := hL
        clear hK K
        refine awl_cond h88 (fun c15 => ?_) (fun c15 => ?_)
        ·
         try simp only [cnd] at c15
         first | done | simp at c15
        ·
         try simp only [cnd] at c15
         refine awl_skip ?_
         refine awl_seq ?_
         refine awl_regS _ rfl fun K hK => ?_
         try simp only [go_sem, simprocAttr, h6, h10, h11, h88]
         repeat' (refine And.intro (by first | rfl | omega | (simp; done)) ?_)
         refine hK _ _ (.mk (awl_live' [10] fun ρ hL => ?_))
         try simp only [go_sem, simprocAttr, h6, h10, h11, h88] at hL
         try clear h6 h10 h11 h88
         have h10 := hL
         clear hL
         clear hK K
         refine awl_ret ?_
         refine ret0 (by simp only [go_sem, simprocAttr, h10]; exact rfl) ?_
         try simp only [go_sem, simprocAttr]
         all_goals try clear hR1
         all_goals (rw [work, if_neg c1, if_neg c3, if_neg c5, if_neg c9, if_neg c11, sets_yes c13, if_pos c14] <;> rfl)
       ·
        try simp only [cnd] at c14
        refine awl_skip ?_
        refine awl_nil ?_
        refine blk_normal (hR1 _ _ (.mk ?_))
        refine awl_seq ?_
        refine awl_seq ?_
        refine awl_regS _ rfl fun K hK => ?_
        try simp only [go_sem, simprocAttr, h5, h6, h7, h8, h9, h10, h11, h27]
        repeat' (refine And.intro (by first | rfl | omega | (simp; done)) ?_)
        refine hK _ _ (.mk (awl_live' [6, 10, 11, 88] fun ρ hL => ?_))
        try simp only [go_sem, simprocAttr, h5, h6, h7, h8, h9, h10, h11, h27] at hL
        try clear h5 h6 h7 h8 h9 h10 h11 h27
        obtain ⟨h6, h10, h11, h88⟩ := hL
        clear hK K
        refine awl_cond h88 (fun c16 => ?_) (fun c16 => ?_)
        ·
         try simp only [cnd] at c16
         first | done | simp at c16
        ·
         try simp only [cnd] at c16
         refine awl_skip ?_
         refine awl_seq ?_
         refine awl_regS _ rfl fun K hK => ?_
         try simp only [go_sem, simprocAttr, h6, h10, h11, h88]
         repeat' (refine And.intro (by first | rfl | omega | (simp; done)) ?_)
         refine hK _ _ (.mk (awl_live' [10] fun ρ hL => ?_))
         try simp only [go_sem, simprocAttr, h6, h10, h11, h88] at hL
         try clear h6 h10 h11 h88
         have h10 := hL
         clear hL
         clear hK K
         refine awl_ret ?_
         refine ret0 (by simp only [go_sem, simprocAttr, h10]; exact rfl) ?_
         try simp only [go_sem, simprocAttr]
         all_goals try clear hR1
         all_goals (rw [work, if_neg c1, if_neg c3, if_neg c5, if_neg c9, if_neg c11, sets_yes c13, if_neg c14] <;> rfl)
      ·
       try simp only [cnd] at c13
       refine awl_skip ?_
       refine awl_nil ?_
       refine blk_normal (hR1 _ _ (.mk ?_))
       refine awl_seq ?_
       refine awl_seq ?_
       refine awl_regS _ rfl fun K hK => ?_
       try simp only [go_sem, simprocAttr, h5, h6, h7, h8, h9, h10, h11, h21]
       repeat' (refine And.intro (by first | rfl | omega | (simp; done)) ?_)
       refine hK _ _ (.mk (awl_live' [6, 10, 11, 88] fun ρ hL => ?_))
       try simp only [go_sem, simprocAttr, h5, h6, h7, h8, h9, h10, h11, h21] at hL
       try clear h5 h6 h7 h8 h9 h10 h11 h21
       obtain ⟨h6, h10, h11, h88⟩ := hL
       clear hK K
       refine awl_cond h88 (fun c17 => ?_) (fun c17 => ?_)
       ·
        try simp only [cnd] at c17
        first | done | simp at c17
       ·
        try simp only [cnd] at c17
        refine awl_skip ?_
        refine awl_seq ?_
        refine awl_regS _ rfl fun K hK => ?_
        try simp only [go_sem, simprocAttr, h6, h10, h11, h88]
        repeat' (refine And.intro (by first | rfl | omega | (simp; done)) ?_)
        refine hK _ _ (.mk (awl_live' [10] fun ρ hL => ?_))
        try simp only [go_sem, simprocAttr, h6, h10, h11, h88] at hL
        try clear h6 h10 h11 h88
        have h10 := hL
        clear hL
        clear hK K
        refine awl_ret ?_
        refine ret0 (by simp only [go_sem, simprocAttr, h10]; exact rfl) ?_
        try simp only [go_sem, simprocAttr]
        all_goals try clear hR1
        all_goals (rw [work, if_neg c1, if_neg c3, if_neg c5, if_neg c9, if_neg c11, sets_no c13, if_neg (by decide)] <;> rfl)
set_option maxHeartbeats 8000000 in
set_option maxRecDepth 100000 in
theorem sat_spec_l9Mem (m : Mem) (x : Ins) (a : Word) (b : Word) (hf : m.fit) : Sat Tryz.prog 29 [.agg m.cells, .agg x.cells, .agg a.cells, .agg b.cells] [] (.tuple [.agg (Word.cells (memOf m x a b).1), .int .i64 (memOf m x a b).2]) [] := by
 refine sat_mk [.cell 8 38, .tmp 9] 0 42 Tryz.call29 Tryz.func29 Tryz.ntmps29 rfl rfl rfl rfl rfl ?_
 refine awl_live' [0, 1, 2, 3] fun ρ hL => ?_
 try simp only [go_sem, simprocAttr] at hL
 obtain ⟨h0, h1, h2, h3⟩ := hL
 refine awl_seq ?_
 refine awl_regS _ rfl fun K hK => ?_
 try simp only [go_sem, simprocAttr, h0, h1, h2, h3]
 repeat' (refine And.intro (by first | rfl | omega | (simp; done)) ?_)
 refine hK _ _ (.mk (awl_live' [4, 5, 6, 7, 8] fun ρ hL => ?_))
 try simp only [go_sem, simprocAttr, h0, h1, h2, h3] at hL
 try clear h0 h1 h2 h3
 obtain ⟨h4, h5, h6, h7, h8⟩ := hL
 clear hK K
 refine awl_seq ?_
 refine awl_seq ?_
 refine awl_regS _ rfl fun K hK => ?_
 try simp only [go_sem, simprocAttr, h4, h5, h6, h7, h8]
 repeat' (refine And.intro (by first | rfl | omega | (simp; done)) ?_)
 refine hK _ _ (.mk (awl_live' [4, 5, 6, 7, 8, 13] fun ρ hL => ?_))
 try simp only [go_sem, simprocAttr, h4, h5, h6, h7, h8] at hL
 try clear h4 h5 h6 h7 h8
 obtain ⟨h4, h5, h6, h7, h8, h13⟩ := hL
 clear hK K
 refine awl_block fun R1 hw1 hR1 => ?_
 refine awl_seq ?_
 refine awl_regS _ rfl fun K hK => ?_
 try simp only [go_sem, simprocAttr, h4, h5, h6, h7, h8, h13]
 repeat' (refine And.intro (by first | rfl | omega | (simp; done)) ?_)
 refine hK _ _ (.mk (awl_live' [4, 5, 6, 7, 8, 13, 14] fun ρ hL => ?_))
 try simp only [go_sem, simprocAttr, h4, h5, h6, h7, h8, h13] at hL
 try clear h4 h5 h6 h7 h8 h13
 obtain ⟨h4, h5, h6, h7, h8, h13, h14⟩ := hL
 clear hK K
 refine awl_cond h14 (fun c1 => ?_) (fun c1 => ?_)
 ·
  try simp only [cnd] at c1
  refine awl_seq ?_
  refine awl_regS _ rfl fun K hK => ?_
  try simp only [go_sem, simprocAttr, h4, h5, h6, h7, h8, h13, h14]
  repeat' (refine And.intro (by first | rfl | omega | (simp; done)) ?_)
  refine opS_call_ro rfl (sat_spec_Read ?_ ?_ ?_ ?hp0) ?ha ?hv ?hh ?_
  case ha => simp only [go_sem, simprocAttr, h4, h5, h6, h7, h8, h13, h14]; first | done | rfl
  case hp0 => first | assumption | omega | (simp; done)
  case hv => first | rfl | (simp only [go_sem]; done)
  case hh => first | rfl | (simp only [go_sem]; done)
  try simp only [go_sem, simprocAttr, h4, h5, h6, h7, h8, h13, h14]
  repeat' (refine And.intro (by first | rfl | omega | (simp; done)) ?_)
  refine hK _ _ (.mk (awl_live' [8, 10, 11] fun ρ hL => ?_))
  try simp only [go_sem, simprocAttr, h4, h5, h6, h7, h8, h13, h14] at hL
  try clear h4 h5 h6 h7 h8 h13 h14
  obtain ⟨h8, h10, h11⟩ := hL
  clear hK K
  refine awl_seq ?_
  refine awl_regS _ rfl fun K hK => ?_
  try simp only [go_sem, simprocAttr, h8, h10, h11]
  repeat' (refine And.intro (by first | rfl | omega | (simp; done)) ?_)
  refine hK _ _ (.mk (awl_live' [8, 9] fun ρ hL => ?_))
  try simp only [go_sem, simprocAttr, h8, h10, h11] at hL
  try clear h8 h10 h11
  obtain ⟨h8, h9⟩ := hL
  clear hK K
  refine awl_ret ?_
  refine blk_ret ?_
  refine ret0 (by simp only [go_sem, simprocAttr, h8, h9]; exact rfl) ?_
  try simp only [go_sem, simprocAttr]
  all_goals try clear hR1
  all_goals (rw [mem_load c1] <;> rfl)
 ·
  try simp only [cnd] at c1
  refine awl_seq ?_
  refine awl_regS _ rfl fun K hK => ?_
  try simp only [go_sem, simprocAttr, h4, h5, h6, h7, h8, h13, h14]
  repeat' (refine And.intro (by first | rfl | omega | (simp; done)) ?_)
  refine hK _ _ (.mk (awl_live' [4, 5, 6, 7, 8, 29] fun ρ hL => ?_))
  try simp only [go_sem, simprocAttr, h4, h5, h6, h7, h8, h13, h14] at hL
  try clear h4 h5 h6 h7 h8 h13 h14
  obtain ⟨h4, h5, h6, h7, h8, h29⟩ := hL
  clear hK K
  refine awl_cond h29 (fun c2 => ?_) (fun c2 => ?_)
  ·
   try simp only [cnd] at c2
   refine awl_seq ?_
   refine awl_regS _ rfl fun K hK => ?_
   try simp only [go_sem, simprocAttr, h4, h5, h6, h7, h8, h29]
   repeat' (refine And.intro (by first | rfl | omega | (simp; done)) ?_)
   refine opS_call_ro rfl (sat_spec_l8Write ?_ ?_ ?_ ?_ ?hp0) ?ha ?hv ?hh ?_
   case ha => simp only [go_sem, simprocAttr, h4, h5, h6, h7, h8, h29]; first | done | rfl
   case hp0 => first | assumption | omega | (simp; done)
   case hv => first | rfl | (simp only [go_sem]; done)
   case hh => first | rfl | (simp only [go_sem]; done)
   try simp only [go_sem, simprocAttr, h4, h5, h6, h7, h8, h29]
   repeat' (refine And.intro (by first | rfl | omega | (simp; done)) ?_)
   refine hK _ _ (.mk (awl_live' [8, 9] fun ρ hL => ?_))
   try simp only [go_sem, simprocAttr, h4, h5, h6, h7, h8, h29] at hL
   try clear h4 h5 h6 h7 h8 h29
   obtain ⟨h8, h9⟩ := hL
   clear hK K
   refine awl_ret ?_
   refine blk_ret ?_
   refine ret0 (by simp only [go_sem, simprocAttr, h8, h9]; exact rfl) ?_
   try simp only [go_sem, simprocAttr]
   all_goals try clear hR1
   all_goals (rw [mem_store c1 c2] <;> rfl)
  ·
   try simp only [cnd] at c2
   refine awl_skip ?_
   refine awl_nil ?_
   refine blk_normal (hR1 _ _ (.mk ?_))
   refine awl_seq ?_
   refine awl_regS _ rfl fun K hK => ?_
   try simp only [go_sem, simprocAttr, h4, h5, h6, h7, h8, h29]
   repeat' (refine And.intro (by first | rfl | omega | (simp; done)) ?_)
   refine hK _ _ (.mk (awl_live' [8, 9] fun ρ hL => ?_))
   try simp only [go_sem, simprocAttr, h4, h5, h6, h7, h8, h29] at hL
   try clear h4 h5 h6 h7 h8 h29
   obtain ⟨h8, h9⟩ := hL
   clear hK K
   refine awl_ret ?_
   refine ret0 (by simp only [go_sem, simprocAttr, h8, h9]; exact rfl) ?_
   try simp only [go_sem, simprocAttr]
   all_goals try clear hR1
   all_goals (rw [mem_none c1 c2] <;> rfl)
end Go.Proofs.YtgddflnhibhacaaGreat.AM
