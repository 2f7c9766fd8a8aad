/- What an entry that is ready comes to. Working. No conditions but those each theorem bears. -/
import Derived.Test.YtgpjgljgplngpaaGreatDoorFa
import Derived.Test.YtgpjgljgplngpaaGreatDoorM5
import Derived.Test.YtgpjgljgplngpaaGreatDoorCb3
import Derived.Test.YtgpjgljgplngpaaGreatDoorCb4
import Derived.Test.YtgpjgljgplngpaaGreatDoorCb1
set_option linter.unusedSimpArgs false
set_option linter.unusedVariables false
namespace Go.Proofs.YtgpjgljgplngpaaGreatDoor.AM
open Go
set_option maxHeartbeats 8000000
set_option maxRecDepth 100000
theorem sat_spec_l14Effect (c : Cor) (i : Int) (hf : c.fit) (hr : ready c i = true) : Sat Tryz.prog 172 [.agg c.cells, .int .i64 i] [] (.agg (Fx.cells (doneBy c i (c.rob.getD i.toNat noEnt)))) [] := by
 have hX := trivial
 refine sat_mk [.cell 4 94] 0 82 Tryz.call172 Tryz.func172 Tryz.ntmps172 rfl rfl rfl rfl rfl ?_
 refine zI [0, 1] ?_
 refine zS [1, 2, 4] ?_
 have hp := ready_parts hr
 have hw := inR_iff.1 hp.2.1
 have hn2 : i.toNat < c.rob.length := by omega
 have hk := ent_regs hp.1 hn2
 have hva := value_ok (i := i) hp.1 hk.2.1
 have hvb := value_ok (i := i) hp.1 hk.2.2
 refine zSX [1, 2, 4, 5] (And.intro hn2 hX) ?_
 refine zSX [1, 2, 4, 5, 6] (And.intro hn2 hX) ?_
 refine zSF [1, 2, 4, 5, 6, 7] (sat_spec_l12Value c i (c.rob.getD i.toNat noEnt).x.a hf (corOk_reg hp.1 hk.2.1)) ?_
 refine zSF [1, 2, 4, 5, 6, 7, 9] (sat_spec_l12Value c i (c.rob.getD i.toNat noEnt).x.b hf (corOk_reg hp.1 hk.2.2)) ?_
 refine zS [1, 2, 4, 5, 6, 7, 9, 11, 12] ?_
 refine zS [1, 2, 4, 5, 6, 7, 9, 11, 12, 43] ?_
 intro ρ hL
 refine awl_block fun R1 hw1 hR1 => ?_
 revert ρ hL
 refine zS [1, 2, 4, 5, 6, 7, 9, 11, 12, 43, 44] ?_
 refine zC ?_ ?_
 ·intro c1
  refine zSF [4, 5, 6, 7, 9, 11, 12] (sat_spec_Found c i (valueRaw c i (c.rob.getD i.toNat noEnt).x.a).1 (wadd (valueRaw c i (c.rob.getD i.toNat noEnt).x.a).1.n (c.rob.getD i.toNat noEnt).x.n) hf) ?_
  intro ρ hL
  refine awl_nil (blk_normal (hR1 _ _ (.mk ?_)))
  revert ρ hL
  refine zS [4, 5, 6, 7, 9, 11, 12, 72] ?_
  refine zC ?_ ?_
  ·intro c2
   refine zSF [4] (sat_spec_l9Trap _ _) ?_
   refine zR ?_
   try simp only [go_sem, simprocAttr]
   all_goals ((try clear hR1); rw [doneBy, fxAt_trap (by rw [at_load c1]; exact c2), at_load c1] <;> rfl)
  ·intro c2 ρ hL
   refine awl_skip ?_
   revert ρ hL
   refine zSF [4] (sat_spec_Work (c.rob.getD i.toNat noEnt).x (c.rob.getD i.toNat noEnt).pc (valueRaw c i (c.rob.getD i.toNat noEnt).x.a).1 (valueRaw c i (c.rob.getD i.toNat noEnt).x.b).1 (found c i (valueRaw c i (c.rob.getD i.toNat noEnt).x.a).1 (wadd (valueRaw c i (c.rob.getD i.toNat noEnt).x.a).1.n (c.rob.getD i.toNat noEnt).x.n)).1) ?_
   refine zR ?_
   try simp only [go_sem, simprocAttr]
   all_goals ((try clear hR1); rw [doneBy, fxAt_go (by rw [at_load c1]; exact c2), at_load c1] <;> rfl)
 ·intro c1
  refine zS [2, 4, 5, 6, 7, 9, 11, 12, 58] ?_
  refine zC ?_ ?_
  ·intro c3
   refine zSF [4, 5, 6, 7, 9, 11, 12] (sat_spec_l8Write c.s.mem (valueRaw c i (c.rob.getD i.toNat noEnt).x.a).1 (wadd (valueRaw c i (c.rob.getD i.toNat noEnt).x.a).1.n (c.rob.getD i.toNat noEnt).x.n) (valueRaw c i (c.rob.getD i.toNat noEnt).x.b).1 hf.1.2) ?_
   intro ρ hL
   refine awl_nil (blk_normal (hR1 _ _ (.mk ?_)))
   revert ρ hL
   refine zS [4, 5, 6, 7, 9, 11, 12, 72] ?_
   refine zC ?_ ?_
   ·intro c4
    refine zSF [4] (sat_spec_l9Trap _ _) ?_
    refine zR ?_
    try simp only [go_sem, simprocAttr]
    all_goals ((try clear hR1); rw [doneBy, fxAt_trap (by rw [at_store c1 c3]; exact c4), at_store c1 c3] <;> rfl)
   ·intro c4 ρ hL
    refine awl_skip ?_
    revert ρ hL
    refine zSF [4] (sat_spec_Work (c.rob.getD i.toNat noEnt).x (c.rob.getD i.toNat noEnt).pc (valueRaw c i (c.rob.getD i.toNat noEnt).x.a).1 (valueRaw c i (c.rob.getD i.toNat noEnt).x.b).1 noWord) ?_
    refine zR ?_
    try simp only [go_sem, simprocAttr]
    all_goals ((try clear hR1); rw [doneBy, fxAt_go (by rw [at_store c1 c3]; exact c4), at_store c1 c3] <;> rfl)
  ·intro c3 ρ hL
   refine awl_skip (awl_nil (blk_normal (hR1 _ _ (.mk ?_))))
   revert ρ hL
   refine zS [4, 5, 6, 7, 9, 11, 12, 72] ?_
   refine zQ ?_ ?_
   ·intro c5
    try simp only [cnd] at c5
    first | done | simp at c5
   ·intro c5
    try simp only [cnd] at c5
    intro ρ hL
    refine awl_skip ?_
    revert ρ hL
    refine zSF [4] (sat_spec_Work (c.rob.getD i.toNat noEnt).x (c.rob.getD i.toNat noEnt).pc (valueRaw c i (c.rob.getD i.toNat noEnt).x.a).1 (valueRaw c i (c.rob.getD i.toNat noEnt).x.b).1 noWord) ?_
    refine zR ?_
    try simp only [go_sem, simprocAttr]
    all_goals ((try clear hR1); rw [doneBy, fxAt_go (by rw [at_none c1 c3]), at_none c1 c3] <;> rfl)
theorem sat_impl_doneBy (c : Cor) (i : Int) (hf : c.fit) (hr : ready c i = true) : Sat Tryz.prog 204 [.agg c.cells, .int .i64 i] [] (.agg (Fx.cells (doneBy c i (c.rob.getD i.toNat noEnt)))) [] := by
 have hX := trivial
 refine sat_mk [.cell 4 94] 0 82 Tryz.call204 Tryz.func204 Tryz.ntmps204 rfl rfl rfl rfl rfl ?_
 refine zI [0, 1] ?_
 refine zS [1, 2, 4] ?_
 have hp := ready_parts hr
 have hw := inR_iff.1 hp.2.1
 have hn2 : i.toNat < c.rob.length := by omega
 have hk := ent_regs hp.1 hn2
 have hva := value_ok (i := i) hp.1 hk.2.1
 have hvb := value_ok (i := i) hp.1 hk.2.2
 refine zDX [0, 1, 0, 7, 15, 31, 0, 64, 0, 448, 960, 1984, 0, 0, 12351, 32767] [1, 2, 4, 5, 6] (And.intro hn2 hX) ?_
 refine zSFX [1, 2, 4, 5, 6, 7] (sat_impl_Value c i (c.rob.getD i.toNat noEnt).x.a hf) (And.intro hva hX) ?_
 refine zSFX [1, 2, 4, 5, 6, 7, 9] (sat_impl_Value c i (c.rob.getD i.toNat noEnt).x.b hf) (And.intro hvb hX) ?_
 refine zS [1, 2, 4, 5, 6, 7, 9, 11, 12] ?_
 refine zS [1, 2, 4, 5, 6, 7, 9, 11, 12, 43] ?_
 intro ρ hL
 refine awl_block fun R1 hw1 hR1 => ?_
 revert ρ hL
 refine zS [1, 2, 4, 5, 6, 7, 9, 11, 12, 43, 44] ?_
 refine zC ?_ ?_
 ·intro c1
  refine zSF [4, 5, 6, 7, 9, 11, 12] (sat_impl_Found c i (valueRaw c i (c.rob.getD i.toNat noEnt).x.a).1 (wadd (valueRaw c i (c.rob.getD i.toNat noEnt).x.a).1.n (c.rob.getD i.toNat noEnt).x.n) hf) ?_
  intro ρ hL
  refine awl_nil (blk_normal (hR1 _ _ (.mk ?_)))
  revert ρ hL
  refine zS [4, 5, 6, 7, 9, 11, 12, 72] ?_
  refine zC ?_ ?_
  ·intro c2
   refine zSF [4] (sat_impl_trapped _ _) ?_
   refine zR ?_
   try simp only [go_sem, simprocAttr]
   all_goals ((try clear hR1); rw [doneBy, fxAt_trap (by rw [at_load c1]; exact c2), at_load c1] <;> rfl)
  ·intro c2 ρ hL
   refine awl_skip ?_
   revert ρ hL
   refine zSF [4] (sat_impl_Work (c.rob.getD i.toNat noEnt).x (c.rob.getD i.toNat noEnt).pc (valueRaw c i (c.rob.getD i.toNat noEnt).x.a).1 (valueRaw c i (c.rob.getD i.toNat noEnt).x.b).1 (found c i (valueRaw c i (c.rob.getD i.toNat noEnt).x.a).1 (wadd (valueRaw c i (c.rob.getD i.toNat noEnt).x.a).1.n (c.rob.getD i.toNat noEnt).x.n)).1) ?_
   refine zR ?_
   try simp only [go_sem, simprocAttr]
   all_goals ((try clear hR1); rw [doneBy, fxAt_go (by rw [at_load c1]; exact c2), at_load c1] <;> rfl)
 ·intro c1
  refine zS [2, 4, 5, 6, 7, 9, 11, 12, 58] ?_
  refine zC ?_ ?_
  ·intro c3
   refine zSF [4, 5, 6, 7, 9, 11, 12] (sat_impl_writeCode c.s.mem (valueRaw c i (c.rob.getD i.toNat noEnt).x.a).1 (wadd (valueRaw c i (c.rob.getD i.toNat noEnt).x.a).1.n (c.rob.getD i.toNat noEnt).x.n) (valueRaw c i (c.rob.getD i.toNat noEnt).x.b).1 hf.1.2) ?_
   intro ρ hL
   refine awl_nil (blk_normal (hR1 _ _ (.mk ?_)))
   revert ρ hL
   refine zS [4, 5, 6, 7, 9, 11, 12, 72] ?_
   refine zC ?_ ?_
   ·intro c4
    refine zSF [4] (sat_impl_trapped _ _) ?_
    refine zR ?_
    try simp only [go_sem, simprocAttr]
    all_goals ((try clear hR1); rw [doneBy, fxAt_trap (by rw [at_store c1 c3]; exact c4), at_store c1 c3] <;> rfl)
   ·intro c4 ρ hL
    refine awl_skip ?_
    revert ρ hL
    refine zSF [4] (sat_impl_Work (c.rob.getD i.toNat noEnt).x (c.rob.getD i.toNat noEnt).pc (valueRaw c i (c.rob.getD i.toNat noEnt).x.a).1 (valueRaw c i (c.rob.getD i.toNat noEnt).x.b).1 noWord) ?_
    refine zR ?_
    try simp only [go_sem, simprocAttr]
    all_goals ((try clear hR1); rw [doneBy, fxAt_go (by rw [at_store c1 c3]; exact c4), at_store c1 c3] <;> rfl)
  ·intro c3 ρ hL
   refine awl_skip (awl_nil (blk_normal (hR1 _ _ (.mk ?_))))
   revert ρ hL
   refine zS [4, 5, 6, 7, 9, 11, 12, 72] ?_
   refine zQ ?_ ?_
   ·intro c5
    try simp only [cnd] at c5
    first | done | simp at c5
   ·intro c5
    try simp only [cnd] at c5
    intro ρ hL
    refine awl_skip ?_
    revert ρ hL
    refine zSF [4] (sat_impl_Work (c.rob.getD i.toNat noEnt).x (c.rob.getD i.toNat noEnt).pc (valueRaw c i (c.rob.getD i.toNat noEnt).x.a).1 (valueRaw c i (c.rob.getD i.toNat noEnt).x.b).1 noWord) ?_
    refine zR ?_
    try simp only [go_sem, simprocAttr]
    all_goals ((try clear hR1); rw [doneBy, fxAt_go (by rw [at_none c1 c3]), at_none c1 c3] <;> rfl)
theorem sat_spec_Do (c : Cor) (i : Int) (hf : c.fit) : Sat Tryz.prog 110 [.agg c.cells, .int .i64 i] [] (.tuple [.agg ((do_ c i).1.own 0 1 2 3 4), .bool (do_ c i).2]) (do_ c i).1.blks := by
 have hX := trivial
 refine sat_mk [.cell 4 36, .tmp 5] 0 68 Tryz.call110 Tryz.func110 Tryz.ntmps110 rfl rfl rfl rfl rfl ?_
 refine zI [0, 1] ?_
 refine zS [1, 2, 4] ?_
 refine zSF [1, 2, 4, 10] (sat_spec_CoreOk c hf) ?_
 refine zC ?_ ?_
 ·intro c1
  refine zS [4, 5] ?_
  intro ρ hL
  refine awl_ret ?_
  refine retN (v := .tuple [.agg [.nilsl, .int .i64 0, .bool false, .int .i64 0, .int .i64 0, .int .i64 0, .int .i64 0, .nilsl, .nilsl, .int .i64 0, .nilsl, .int .i64 0, .bool false, .int .i64 0, .int .i64 0, .int .i64 0, .int .i64 0, .bool false, .nilsl], .bool false]) [6, 6, 1, 40, 1] [2, 3, 4, 5, 6] [2, 3, 4, 5, 6] rfl (by simp only [go_sem, simprocAttr, hL, hX]; exact rfl) (by first | rfl | (simp only [go_sem, simprocAttr, hL, hX]; first | done | rfl)) (Ref.tuple (RefL.cons (Ref.agg (RefL.cons (Ref.nil 2 ⟨Nat.le_of_ble_eq_true rfl, Nat.le_of_ble_eq_true rfl⟩) (RefL.cons (Ref.refl _) (RefL.cons (Ref.refl _) (RefL.cons (Ref.refl _) (RefL.cons (Ref.refl _) (RefL.cons (Ref.refl _) (RefL.cons (Ref.refl _) (RefL.cons (Ref.nil 3 ⟨Nat.le_of_ble_eq_true rfl, Nat.le_of_ble_eq_true rfl⟩) (RefL.cons (Ref.nil 4 ⟨Nat.le_of_ble_eq_true rfl, Nat.le_of_ble_eq_true rfl⟩) (RefL.cons (Ref.refl _) (RefL.cons (Ref.nil 5 ⟨Nat.le_of_ble_eq_true rfl, Nat.le_of_ble_eq_true rfl⟩) (RefL.cons (Ref.refl _) (RefL.cons (Ref.refl _) (RefL.cons (Ref.refl _) (RefL.cons (Ref.refl _) (RefL.cons (Ref.refl _) (RefL.cons (Ref.refl _) (RefL.cons (Ref.refl _) (RefL.cons (Ref.nil 6 ⟨Nat.le_of_ble_eq_true rfl, Nat.le_of_ble_eq_true rfl⟩) (RefL.same []))))))))))))))))))))) (RefL.same _))) rfl (by decide) rfl rfl ?_ ?_
  all_goals try simp only [go_sem, simprocAttr, hL, hX]
  all_goals (rw [do_no c1] <;> rfl)
 ·intro c1 ρ hL
  refine awl_skip ?_
  revert ρ hL
  refine zSF [1, 2, 4, 6] (sat_spec_l12Copy c hf) ?_
  refine zSF [1, 2, 4, 6, 17] (sat_spec_Ready c i hf) ?_
  refine zC ?_ ?_
  ·intro c2
   refine zS [4, 5] ?_
   refine zK [2, 3, 4, 5, 6] [2, 3, 4, 5, 6] ?_ ?_
   all_goals try simp only [go_sem, simprocAttr, hX]
   all_goals (rw [do_idle c1 c2] <;> rfl)
  ·intro c2 ρ hL
   refine awl_skip ?_
   have hr := c2
   have hp := ready_parts hr
   have hw := inR_iff.1 hp.2.1
   have hn2 : i.toNat < c.rob.length := by omega
   have hk := ent_regs hp.1 hn2
   have hva := value_ok (i := i) hp.1 hk.2.1
   have hvb := value_ok (i := i) hp.1 hk.2.2
   have hf1 := hf.2.1
   have hdp := done_put hn2
   have hn3 : i.toNat < (c.rob.set i.toNat (doneOf (c.rob.getD i.toNat noEnt))).length := by rw [List.length_set]; exact hn2
   have hn5 : i.toNat < (c.rob.set i.toNat ⟨(c.rob.getD i.toNat noEnt).pc, (c.rob.getD i.toNat noEnt).x, true, (doneBy c i (c.rob.getD i.toNat noEnt)), (c.rob.getD i.toNat noEnt).guess⟩).length := by rw [List.length_set]; exact hn2
   have hmin : min (i.toNat + 1) c.rob.length = i.toNat + 1 := by omega
   have hwi : IntKind.i64.wrap (i + 1) = i + 1 := wrap64 (by omega)
   have s1 : (0 : Int) ≤ i + 1 := by omega
   have s2 : i + 1 ≤ (c.rob.length : Int) := by omega
   have s3 : (i + 1).toNat = i.toNat + 1 := by omega
   have s4 : (i.toNat + 1) * 40 ≤ c.rob.length * 40 := by omega
   have s5 : i.toNat + 1 ≤ c.rob.length := by omega
   have lq : ∀ o o1, (rows (c.rob.set i.toNat ⟨(c.rob.getD i.toNat noEnt).pc, (c.rob.getD i.toNat noEnt).x, true, (doneBy c i (c.rob.getD i.toNat noEnt)), (c.rob.getD i.toNat noEnt).guess⟩)).drop (i.toNat * 40 + o + o1) = (Ent.cells ((c.rob.set i.toNat ⟨(c.rob.getD i.toNat noEnt).pc, (c.rob.getD i.toNat noEnt).x, true, (doneBy c i (c.rob.getD i.toNat noEnt)), (c.rob.getD i.toNat noEnt).guess⟩).getD i.toNat noEnt) ++ rows ((c.rob.set i.toNat ⟨(c.rob.getD i.toNat noEnt).pc, (c.rob.getD i.toNat noEnt).x, true, (doneBy c i (c.rob.getD i.toNat noEnt)), (c.rob.getD i.toNat noEnt).guess⟩).drop (i.toNat + 1))).drop (o + o1) := fun o o1 => by rw [Nat.add_assoc, ents_atO hn5]
   revert ρ hL
   refine zSFX [1, 4, 6, 7] (sat_spec_l14Effect c i hf c2) (And.intro hn2 hX) ?_
   refine zSX [1, 4, 6, 7] (And.intro hn2 (And.intro hdp hX)) ?_
   intro ρ hL
   repeat refine awl_seq ?_
   refine awl_regS _ rfl fun K hK => ?_
   try simp only [go_sem, simprocAttr, hL, hX, hn2, fx_put hn3, done_both hn2, List.length_set]
   repeat' refine And.intro (by first | rfl | omega | (simp; done)) ?_
   refine hK _ _ (.mk (awl_live' [1, 4, 6, 7] fun ρ hM => ?_))
   try simp only [go_sem, simprocAttr, hL, hX, hn2, fx_put hn3, done_both hn2, List.length_set] at hM
   clear hK K hL
   revert ρ hM
   refine zS [1, 4, 6, 7, 35] ?_
   refine zC ?_ ?_
   ·intro c3 ρ hL
    repeat refine awl_seq ?_
    refine awl_regS _ rfl fun K hK => ?_
    try simp only [go_sem, simprocAttr, hL, hX, hwi, s1, s2, s3, s4, s5, ents_takeN, List.length_set, Nat.sub_zero, Nat.sub_self, Nat.max_zero, Nat.zero_max, Nat.max_self, Option.isSome_none, Option.isNone_some, Option.isNone_none]
    repeat' refine And.intro (by first | rfl | omega | (simp; done)) ?_
    refine hK _ _ (.mk (awl_live' [4, 6] fun ρ hM => ?_))
    try simp only [go_sem, simprocAttr, hL, hX, hwi, s1, s2, s3, s4, s5, ents_takeN, List.length_set, Nat.sub_zero, Nat.sub_self, Nat.max_zero, Nat.zero_max, Nat.max_self, Option.isSome_none, Option.isNone_some, Option.isNone_none] at hM
    clear hK K hL
    revert ρ hM
    refine zS [4, 6] ?_
    refine zS [4, 5] ?_
    refine zK [2, 3, 4, 9, 6] [2, 3, 4, 9, 6] ?_ ?_
    all_goals try simp only [go_sem, simprocAttr, hX]
    all_goals (rw [do_on c1 c2, doE_trap c3] <;> (try simp only [withRob, List.length_take, List.length_set, hmin, ents_takeN, bor_rows]) <;> first | done | rfl)
   ·intro c3 ρ hL
    refine awl_skip ?_
    repeat refine awl_seq ?_
    refine awl_regD mixed _ rfl fun K hK => ?_
    try simp only [go_sem, simprocAttr, hL, hX, ents_atO hn5, lq, getD_set hn2, word_deq, List.length_set, hn2]
    repeat' refine And.intro (by first | omega | (exact ⟨[0, 1, 0, 4, 0, 28, 60, 124, 255], by kernel_rfl⟩) | kernel_rfl) ?_
    refine hK _ _ (.mk (awl_live' [1, 4, 6, 7, 54] fun ρ hM => ?_))
    try simp only [go_sem, simprocAttr, hL, hX, ents_atO hn5, lq, getD_set hn2, word_deq, List.length_set, hn2] at hM
    clear hK K hL
    revert ρ hM
    refine zC ?_ ?_
    ·intro c4 ρ hL
     repeat refine awl_seq ?_
     refine awl_regS _ rfl fun K hK => ?_
     try simp only [go_sem, simprocAttr, hL, hX, hwi, s1, s2, s3, s4, s5, ents_takeN, List.length_set, Nat.sub_zero, Nat.sub_self, Nat.max_zero, Nat.zero_max, Nat.max_self, Option.isSome_none, Option.isNone_some, Option.isNone_none]
     repeat' refine And.intro (by first | rfl | omega | (simp; done)) ?_
     refine hK _ _ (.mk (awl_live' [4, 6, 7] fun ρ hM => ?_))
     try simp only [go_sem, simprocAttr, hL, hX, hwi, s1, s2, s3, s4, s5, ents_takeN, List.length_set, Nat.sub_zero, Nat.sub_self, Nat.max_zero, Nat.zero_max, Nat.max_self, Option.isSome_none, Option.isNone_some, Option.isNone_none] at hM
     clear hK K hL
     revert ρ hM
     refine zS [4, 6] ?_
     refine zS [4, 6] ?_
     refine zS [4, 5] ?_
     refine zK [2, 3, 4, 9, 6] [2, 3, 4, 9, 6] ?_ ?_
     all_goals try simp only [go_sem, simprocAttr, hX]
     all_goals (rw [do_on c1 c2, doE_turn c3 c4] <;> (try simp only [withRob, List.length_take, List.length_set, hmin, ents_takeN, bor_rows]) <;> first | done | rfl)
    ·intro c4 ρ hL
     refine awl_skip ?_
     revert ρ hL
     refine zS [4, 5] ?_
     refine zK [2, 3, 4, 5, 6] [2, 3, 4, 5, 6] ?_ ?_
     all_goals try simp only [go_sem, simprocAttr, hX]
     all_goals (rw [do_on c1 c2, doE_go c3 c4] <;> (try simp only [withRob, List.length_take, List.length_set, hmin, ents_takeN, bor_rows]) <;> first | done | rfl)
theorem sat_impl_Do (c : Cor) (i : Int) (hf : c.fit) : Sat Tryz.prog 162 [.agg c.cells, .int .i64 i] [] (.tuple [.agg ((do_ c i).1.own 0 1 2 3 4), .bool (do_ c i).2]) (do_ c i).1.blks := by
 have hX := trivial
 refine sat_mk [.cell 4 36, .tmp 5] 0 66 Tryz.call162 Tryz.func162 Tryz.ntmps162 rfl rfl rfl rfl rfl ?_
 refine zI [0, 1] ?_
 refine zS [1, 2, 4] ?_
 refine zSF [1, 2, 4, 10] (sat_impl_CoreOk c hf) ?_
 refine zC ?_ ?_
 ·intro c1
  refine zS [4, 5] ?_
  intro ρ hL
  refine awl_ret ?_
  refine retN (v := .tuple [.agg [.nilsl, .int .i64 0, .bool false, .int .i64 0, .int .i64 0, .int .i64 0, .int .i64 0, .nilsl, .nilsl, .int .i64 0, .nilsl, .int .i64 0, .bool false, .int .i64 0, .int .i64 0, .int .i64 0, .int .i64 0, .bool false, .nilsl], .bool false]) [6, 6, 1, 40, 1] [2, 3, 4, 5, 6] [2, 3, 4, 5, 6] rfl (by simp only [go_sem, simprocAttr, hL, hX]; exact rfl) (by first | rfl | (simp only [go_sem, simprocAttr, hL, hX]; first | done | rfl)) (Ref.tuple (RefL.cons (Ref.agg (RefL.cons (Ref.nil 2 ⟨Nat.le_of_ble_eq_true rfl, Nat.le_of_ble_eq_true rfl⟩) (RefL.cons (Ref.refl _) (RefL.cons (Ref.refl _) (RefL.cons (Ref.refl _) (RefL.cons (Ref.refl _) (RefL.cons (Ref.refl _) (RefL.cons (Ref.refl _) (RefL.cons (Ref.nil 3 ⟨Nat.le_of_ble_eq_true rfl, Nat.le_of_ble_eq_true rfl⟩) (RefL.cons (Ref.nil 4 ⟨Nat.le_of_ble_eq_true rfl, Nat.le_of_ble_eq_true rfl⟩) (RefL.cons (Ref.refl _) (RefL.cons (Ref.nil 5 ⟨Nat.le_of_ble_eq_true rfl, Nat.le_of_ble_eq_true rfl⟩) (RefL.cons (Ref.refl _) (RefL.cons (Ref.refl _) (RefL.cons (Ref.refl _) (RefL.cons (Ref.refl _) (RefL.cons (Ref.refl _) (RefL.cons (Ref.refl _) (RefL.cons (Ref.refl _) (RefL.cons (Ref.nil 6 ⟨Nat.le_of_ble_eq_true rfl, Nat.le_of_ble_eq_true rfl⟩) (RefL.same []))))))))))))))))))))) (RefL.same _))) rfl (by decide) rfl rfl ?_ ?_
  all_goals try simp only [go_sem, simprocAttr, hL, hX]
  all_goals (rw [do_no c1] <;> rfl)
 ·intro c1 ρ hL
  refine awl_skip ?_
  revert ρ hL
  refine zSF [1, 2, 4, 6] (sat_impl_cloneCore c hf) ?_
  refine zSF [1, 2, 4, 6, 17] (sat_impl_Ready c i hf) ?_
  refine zC ?_ ?_
  ·intro c2
   refine zS [4, 5] ?_
   refine zK [2, 3, 4, 5, 6] [2, 3, 4, 5, 6] ?_ ?_
   all_goals try simp only [go_sem, simprocAttr, hX]
   all_goals (rw [do_idle c1 c2] <;> rfl)
  ·intro c2 ρ hL
   refine awl_skip ?_
   have hr := c2
   have hp := ready_parts hr
   have hw := inR_iff.1 hp.2.1
   have hn2 : i.toNat < c.rob.length := by omega
   have hk := ent_regs hp.1 hn2
   have hva := value_ok (i := i) hp.1 hk.2.1
   have hvb := value_ok (i := i) hp.1 hk.2.2
   have hf1 := hf.2.1
   have hdp := done_put hn2
   have hn3 : i.toNat < (c.rob.set i.toNat (doneOf (c.rob.getD i.toNat noEnt))).length := by rw [List.length_set]; exact hn2
   have hn5 : i.toNat < (c.rob.set i.toNat ⟨(c.rob.getD i.toNat noEnt).pc, (c.rob.getD i.toNat noEnt).x, true, (doneBy c i (c.rob.getD i.toNat noEnt)), (c.rob.getD i.toNat noEnt).guess⟩).length := by rw [List.length_set]; exact hn2
   have hmin : min (i.toNat + 1) c.rob.length = i.toNat + 1 := by omega
   have hwi : IntKind.i64.wrap (i + 1) = i + 1 := wrap64 (by omega)
   have s1 : (0 : Int) ≤ i + 1 := by omega
   have s2 : i + 1 ≤ (c.rob.length : Int) := by omega
   have s3 : (i + 1).toNat = i.toNat + 1 := by omega
   have s4 : (i.toNat + 1) * 40 ≤ c.rob.length * 40 := by omega
   have s5 : i.toNat + 1 ≤ c.rob.length := by omega
   have lq : ∀ o o1, (rows (c.rob.set i.toNat ⟨(c.rob.getD i.toNat noEnt).pc, (c.rob.getD i.toNat noEnt).x, true, (doneBy c i (c.rob.getD i.toNat noEnt)), (c.rob.getD i.toNat noEnt).guess⟩)).drop (i.toNat * 40 + o + o1) = (Ent.cells ((c.rob.set i.toNat ⟨(c.rob.getD i.toNat noEnt).pc, (c.rob.getD i.toNat noEnt).x, true, (doneBy c i (c.rob.getD i.toNat noEnt)), (c.rob.getD i.toNat noEnt).guess⟩).getD i.toNat noEnt) ++ rows ((c.rob.set i.toNat ⟨(c.rob.getD i.toNat noEnt).pc, (c.rob.getD i.toNat noEnt).x, true, (doneBy c i (c.rob.getD i.toNat noEnt)), (c.rob.getD i.toNat noEnt).guess⟩).drop (i.toNat + 1))).drop (o + o1) := fun o o1 => by rw [Nat.add_assoc, ents_atO hn5]
   revert ρ hL
   refine zSX [1, 2, 4, 6, 7] (And.intro hn2 hX) ?_
   refine zSX [1, 2, 4, 6, 7] (And.intro hn2 (And.intro hdp hX)) ?_
   intro ρ hL
   repeat refine awl_seq ?_
   refine awl_regS _ rfl fun K hK => ?_
   try simp only [go_sem, simprocAttr, hL, hX, hn2, fx_put hn3, done_both hn2, List.length_set]
   repeat' refine And.intro (by first | rfl | omega | (simp; done)) ?_
   refine opS_call_ro rfl (sat_impl_doneBy c i hf c2) ?ha ?hv ?hh ?_
   case ha => simp only [go_sem, simprocAttr, hL, hX, hn2, fx_put hn3, done_both hn2, List.length_set]; first | done | rfl
   case hv => first | rfl | (simp only [go_sem]; done)
   case hh => first | rfl | (simp only [go_sem]; done)
   try simp only [go_sem, simprocAttr, hL, hX, hn2, fx_put hn3, done_both hn2, List.length_set]
   repeat' refine And.intro (by first | rfl | omega | (simp; done)) ?_
   refine hK _ _ (.mk (awl_live' [1, 4, 6, 7] fun ρ hM => ?_))
   try simp only [go_sem, simprocAttr, hL, hX, hn2, fx_put hn3, done_both hn2, List.length_set] at hM
   clear hK K hL
   revert ρ hM
   intro ρ hL
   refine awl_seq (awl_block fun R1 hw1 hR1 => ?_)
   repeat refine awl_seq ?_
   refine awl_regS _ rfl fun K hK => ?_
   try simp only [go_sem, simprocAttr, hL, hX, ents_atO hn5, lq, getD_set hn2, word_deq, List.length_set]
   repeat' refine And.intro (by first | rfl | omega | (simp; done)) ?_
   refine hK _ _ (.mk (awl_live' [1, 4, 6, 7, 33] fun ρ hM => ?_))
   try simp only [go_sem, simprocAttr, hL, hX, ents_atO hn5, lq, getD_set hn2, word_deq, List.length_set] at hM
   clear hK K hL
   revert ρ hM
   refine zC ?_ ?_
   ·intro c3
    refine zS [1, 4, 6] ?_
    intro ρ hL
    refine awl_nil (blk_normal (hR1 _ _ (.mk ?_)))
    repeat refine awl_seq ?_
    refine awl_regS _ rfl fun K hK => ?_
    try simp only [go_sem, simprocAttr, hL, hX, hwi, s1, s2, s3, s4, s5, ents_takeN, List.length_set, Nat.sub_zero, Nat.sub_self, Nat.max_zero, Nat.zero_max, Nat.max_self, Option.isSome_none, Option.isNone_some, Option.isNone_none]
    repeat' refine And.intro (by first | rfl | omega | (simp; done)) ?_
    refine hK _ _ (.mk (awl_live' [4, 6] fun ρ hM => ?_))
    try simp only [go_sem, simprocAttr, hL, hX, hwi, s1, s2, s3, s4, s5, ents_takeN, List.length_set, Nat.sub_zero, Nat.sub_self, Nat.max_zero, Nat.zero_max, Nat.max_self, Option.isSome_none, Option.isNone_some, Option.isNone_none] at hM
    clear hK K hL
    revert ρ hM
    refine zS [4, 5] ?_
    intro ρ hL
    refine awl_ret ?_
    refine ret_wk (Wk.trunc 5 ((i.toNat + 1) * 40) rfl) ?_
    refine retN (v := .tuple [.agg [.slice 2 0 c.s.regs.length 0, .int .i64 c.s.pc.n, .bool c.s.pc.is, .int .i64 c.s.pc.key.base, .int .i64 c.s.pc.key.top, .int .i64 c.s.pc.key.perms, .int .i64 c.s.pc.key.lock, .slice 3 0 c.s.mem.words.length 0, .slice 4 0 c.s.mem.gone.length 0, .int .i64 c.s.trap, .slice 5 0 (i.toNat + 1) c.rob.length, .int .i64 c.next.n, .bool c.next.is, .int .i64 c.next.key.base, .int .i64 c.next.key.top, .int .i64 c.next.key.perms, .int .i64 c.next.key.lock, .bool true, .slice 6 0 c.guesses.length 0], .bool true]) [] [2, 3, 4, 5, 6] [2, 3, 4, 5, 6] rfl (by simp only [go_sem, simprocAttr, hL, hX]; exact rfl) (by first | rfl | (simp only [go_sem, simprocAttr, hL, hX]; first | done | rfl)) (Ref.tuple (RefL.cons (Ref.agg (RefL.cons (Ref.refl _) (RefL.cons (Ref.refl _) (RefL.cons (Ref.refl _) (RefL.cons (Ref.refl _) (RefL.cons (Ref.refl _) (RefL.cons (Ref.refl _) (RefL.cons (Ref.refl _) (RefL.cons (Ref.refl _) (RefL.cons (Ref.refl _) (RefL.cons (Ref.refl _) (RefL.cons (Ref.cap _ _ _ _ 0 (Nat.zero_le _)) (RefL.cons (Ref.refl _) (RefL.cons (Ref.refl _) (RefL.cons (Ref.refl _) (RefL.cons (Ref.refl _) (RefL.cons (Ref.refl _) (RefL.cons (Ref.refl _) (RefL.cons (Ref.refl _) (RefL.cons (Ref.refl _) (RefL.same []))))))))))))))))))))) (RefL.same _))) rfl (by decide) rfl rfl ?_ ?_
    all_goals try simp only [go_sem, simprocAttr, hL, hX]
    all_goals ((try clear hR1); rw [do_on c1 c2, doE_trap c3] <;> (try simp only [withRob, List.length_take, List.length_set, hmin, ents_takeN, bor_rows]) <;> first | done | rfl)
   ·intro c3 ρ hL
    repeat refine awl_seq ?_
    refine awl_regD mixed _ rfl fun K hK => ?_
    try simp only [go_sem, simprocAttr, hL, hX, ents_atO hn5, lq, getD_set hn2, word_deq, List.length_set]
    repeat' refine And.intro (by first | omega | (exact ⟨[0, 1, 3, 7, 15, 0, 32, 96, 224, 511, 1023], by kernel_rfl⟩) | kernel_rfl) ?_
    refine hK _ _ (.mk (awl_live' [1, 4, 6, 7, 41] fun ρ hM => ?_))
    try simp only [go_sem, simprocAttr, hL, hX, ents_atO hn5, lq, getD_set hn2, word_deq, List.length_set] at hM
    clear hK K hL
    revert ρ hM
    refine zC ?_ ?_
    ·intro c4 ρ hL
     repeat refine awl_seq ?_
     refine awl_regS _ rfl fun K hK => ?_
     try simp only [go_sem, simprocAttr, hL, hX, ents_atO hn5, lq, getD_set hn2, word_deq, List.length_set]
     repeat' refine And.intro (by first | rfl | omega | (simp; done)) ?_
     refine hK _ _ (.mk (awl_live' [1, 4, 6] fun ρ hM => ?_))
     try simp only [go_sem, simprocAttr, hL, hX, ents_atO hn5, lq, getD_set hn2, word_deq, List.length_set] at hM
     clear hK K hL
     revert ρ hM
     refine zS [1, 4, 6] ?_
     intro ρ hL
     refine awl_nil (blk_normal (hR1 _ _ (.mk ?_)))
     repeat refine awl_seq ?_
     refine awl_regS _ rfl fun K hK => ?_
     try simp only [go_sem, simprocAttr, hL, hX, hwi, s1, s2, s3, s4, s5, ents_takeN, List.length_set, Nat.sub_zero, Nat.sub_self, Nat.max_zero, Nat.zero_max, Nat.max_self, Option.isSome_none, Option.isNone_some, Option.isNone_none]
     repeat' refine And.intro (by first | rfl | omega | (simp; done)) ?_
     refine hK _ _ (.mk (awl_live' [4, 6] fun ρ hM => ?_))
     try simp only [go_sem, simprocAttr, hL, hX, hwi, s1, s2, s3, s4, s5, ents_takeN, List.length_set, Nat.sub_zero, Nat.sub_self, Nat.max_zero, Nat.zero_max, Nat.max_self, Option.isSome_none, Option.isNone_some, Option.isNone_none] at hM
     clear hK K hL
     revert ρ hM
     refine zS [4, 5] ?_
     intro ρ hL
     refine awl_ret ?_
     refine ret_wk (Wk.trunc 5 ((i.toNat + 1) * 40) rfl) ?_
     refine retN (v := .tuple [.agg [.slice 2 0 c.s.regs.length 0, .int .i64 c.s.pc.n, .bool c.s.pc.is, .int .i64 c.s.pc.key.base, .int .i64 c.s.pc.key.top, .int .i64 c.s.pc.key.perms, .int .i64 c.s.pc.key.lock, .slice 3 0 c.s.mem.words.length 0, .slice 4 0 c.s.mem.gone.length 0, .int .i64 c.s.trap, .slice 5 0 (i.toNat + 1) c.rob.length, .int .i64 (doneBy c i (c.rob.getD i.toNat noEnt)).next.n, .bool (doneBy c i (c.rob.getD i.toNat noEnt)).next.is, .int .i64 (doneBy c i (c.rob.getD i.toNat noEnt)).next.key.base, .int .i64 (doneBy c i (c.rob.getD i.toNat noEnt)).next.key.top, .int .i64 (doneBy c i (c.rob.getD i.toNat noEnt)).next.key.perms, .int .i64 (doneBy c i (c.rob.getD i.toNat noEnt)).next.key.lock, .bool false, .slice 6 0 c.guesses.length 0], .bool true]) [] [2, 3, 4, 5, 6] [2, 3, 4, 5, 6] rfl (by simp only [go_sem, simprocAttr, hL, hX]; exact rfl) (by first | rfl | (simp only [go_sem, simprocAttr, hL, hX]; first | done | rfl)) (Ref.tuple (RefL.cons (Ref.agg (RefL.cons (Ref.refl _) (RefL.cons (Ref.refl _) (RefL.cons (Ref.refl _) (RefL.cons (Ref.refl _) (RefL.cons (Ref.refl _) (RefL.cons (Ref.refl _) (RefL.cons (Ref.refl _) (RefL.cons (Ref.refl _) (RefL.cons (Ref.refl _) (RefL.cons (Ref.refl _) (RefL.cons (Ref.cap _ _ _ _ 0 (Nat.zero_le _)) (RefL.cons (Ref.refl _) (RefL.cons (Ref.refl _) (RefL.cons (Ref.refl _) (RefL.cons (Ref.refl _) (RefL.cons (Ref.refl _) (RefL.cons (Ref.refl _) (RefL.cons (Ref.refl _) (RefL.cons (Ref.refl _) (RefL.same []))))))))))))))))))))) (RefL.same _))) rfl (by decide) rfl rfl ?_ ?_
     all_goals try simp only [go_sem, simprocAttr, hL, hX]
     all_goals ((try clear hR1); rw [do_on c1 c2, doE_turn c3 c4] <;> (try simp only [withRob, List.length_take, List.length_set, hmin, ents_takeN, bor_rows]) <;> first | done | rfl)
    ·intro c4
     refine zS [4, 5] ?_
     refine zK [2, 3, 4, 5, 6] [2, 3, 4, 5, 6] ?_ ?_
     all_goals try simp only [go_sem, simprocAttr, hX]
     all_goals ((try clear hR1); rw [do_on c1 c2, doE_go c3 c4] <;> (try simp only [withRob, List.length_take, List.length_set, hmin, ents_takeN, bor_rows]) <;> first | done | rfl)
end Go.Proofs.YtgpjgljgplngpaaGreatDoor.AM
