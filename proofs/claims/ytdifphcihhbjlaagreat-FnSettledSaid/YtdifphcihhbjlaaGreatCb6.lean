/- What an entry that is ready comes to. Working. Picks. Settling. Picks one behind the other. No conditions but those each theorem bears. -/
import Derived.Test.YtdifphcihhbjlaaGreatFa
import Derived.Test.YtdifphcihhbjlaaGreatM5
import Derived.Test.YtdifphcihhbjlaaGreatCb3
import Derived.Test.YtdifphcihhbjlaaGreatCb4
import Derived.Test.YtdifphcihhbjlaaGreatCb1
import Derived.Test.YtdifphcihhbjlaaGreatCb5
set_option linter.unusedSimpArgs false
set_option linter.unusedVariables false
namespace Go.Proofs.YtdifphcihhbjlaaGreat.AM
open Go
set_option maxHeartbeats 8000000
set_option maxRecDepth 100000

theorem sat_spec_l14Effect (c : Cor) (i : Int) (hf : c.fit) (hr : ready c i = true) : Sat Tryz.prog 74 [.agg c.cells, .int .i64 i] [] (.agg (Fx.cells (doneBy c i (c.rob.getD i.toNat noEnt)))) [] := by
 have hX := trivial
 refine sat_mk [.cell 4 51] 0 82 Tryz.call74 Tryz.func74 Tryz.ntmps74 rfl rfl rfl rfl rfl ?_
 refine zI [0, 1] ?_
 refine zS [1, 2, 4] ?_
 have hp := ready_parts hr
 have hw := inR_iff.1 hp.2.1
 have hn2 : i.toNat < c.rob.length := by omega
 have hk := ent_regs hp.1 hn2
 have hva := value_ok (i := i) hp.1 hk.2.1
 have hvb := value_ok (i := i) hp.1 hk.2.2
 have hX0 := hX
 replace hX := And.intro hn2 hX
 refine zS [1, 2, 4, 5] ?_
 clear hX
 have hX := hX0
 clear hX0
 have hX0 := hX
 replace hX := And.intro hn2 hX
 refine zS [1, 2, 4, 5, 6] ?_
 clear hX
 have hX := hX0
 clear hX0
 refine zSF [1, 2, 4, 5, 6, 7] (sat_spec_l12Value c i (c.rob.getD i.toNat noEnt).x.a hf (corOk_reg hp.1 hk.2.1)) ?_
 refine zSF [1, 2, 4, 5, 6, 7, 9] (sat_spec_l12Value c i (c.rob.getD i.toNat noEnt).x.b hf (corOk_reg hp.1 hk.2.2)) ?_
 refine zS [1, 2, 4, 5, 6, 7, 9, 11, 12] ?_
 refine zS [1, 2, 4, 5, 6, 7, 9, 11, 12, 43] ?_
 intro ρ hL
 refine awl_block fun R1 hw1 hR1 => ?_
 revert ρ hL
 refine zS [1, 2, 4, 5, 6, 7, 9, 11, 12, 43, 44] ?_
 refine zC ?_ ?_
 · intro c1
   refine zSF [4, 5, 6, 7, 9, 11, 12] (sat_spec_Found c i (valueRaw c i (c.rob.getD i.toNat noEnt).x.a).1 (wadd (valueRaw c i (c.rob.getD i.toNat noEnt).x.a).1.n (c.rob.getD i.toNat noEnt).x.n) hf) ?_
   intro ρ hL
   refine awl_nil ?_
   refine blk_normal (hR1 _ _ (.mk ?_))
   revert ρ hL
   refine zS [4, 5, 6, 7, 9, 11, 12, 72] ?_
   refine zC ?_ ?_
   · intro c2
     refine zSF [4] (sat_spec_l9Trap _ _) ?_
     refine zR ?_
     try simp only [go_sem, simprocAttr]
     all_goals try clear hR1
     all_goals (rw [doneBy, fxAt_trap (by rw [at_load c1]; exact c2), at_load c1] <;> rfl)
   · intro c2
     intro ρ hL
     refine awl_skip ?_
     revert ρ hL
     refine zSF [4] (sat_spec_Work (c.rob.getD i.toNat noEnt).x (c.rob.getD i.toNat noEnt).pc (valueRaw c i (c.rob.getD i.toNat noEnt).x.a).1 (valueRaw c i (c.rob.getD i.toNat noEnt).x.b).1 (found c i (valueRaw c i (c.rob.getD i.toNat noEnt).x.a).1 (wadd (valueRaw c i (c.rob.getD i.toNat noEnt).x.a).1.n (c.rob.getD i.toNat noEnt).x.n)).1) ?_
     refine zR ?_
     try simp only [go_sem, simprocAttr]
     all_goals try clear hR1
     all_goals (rw [doneBy, fxAt_go (by rw [at_load c1]; exact c2), at_load c1] <;> rfl)
 · intro c1
   refine zS [2, 4, 5, 6, 7, 9, 11, 12, 58] ?_
   refine zC ?_ ?_
   · intro c3
     refine zSF [4, 5, 6, 7, 9, 11, 12] (sat_spec_l8Write c.s.mem (valueRaw c i (c.rob.getD i.toNat noEnt).x.a).1 (wadd (valueRaw c i (c.rob.getD i.toNat noEnt).x.a).1.n (c.rob.getD i.toNat noEnt).x.n) (valueRaw c i (c.rob.getD i.toNat noEnt).x.b).1 hf.1.2) ?_
     intro ρ hL
     refine awl_nil ?_
     refine blk_normal (hR1 _ _ (.mk ?_))
     revert ρ hL
     refine zS [4, 5, 6, 7, 9, 11, 12, 72] ?_
     refine zC ?_ ?_
     · intro c4
       refine zSF [4] (sat_spec_l9Trap _ _) ?_
       refine zR ?_
       try simp only [go_sem, simprocAttr]
       all_goals try clear hR1
       all_goals (rw [doneBy, fxAt_trap (by rw [at_store c1 c3]; exact c4), at_store c1 c3] <;> rfl)
     · intro c4
       intro ρ hL
       refine awl_skip ?_
       revert ρ hL
       refine zSF [4] (sat_spec_Work (c.rob.getD i.toNat noEnt).x (c.rob.getD i.toNat noEnt).pc (valueRaw c i (c.rob.getD i.toNat noEnt).x.a).1 (valueRaw c i (c.rob.getD i.toNat noEnt).x.b).1 noWord) ?_
       refine zR ?_
       try simp only [go_sem, simprocAttr]
       all_goals try clear hR1
       all_goals (rw [doneBy, fxAt_go (by rw [at_store c1 c3]; exact c4), at_store c1 c3] <;> rfl)
   · intro c3
     intro ρ hL
     refine awl_skip ?_
     refine awl_nil ?_
     refine blk_normal (hR1 _ _ (.mk ?_))
     revert ρ hL
     refine zS [4, 5, 6, 7, 9, 11, 12, 72] ?_
     refine zQ ?_ ?_
     · intro c5
       try simp only [cnd] at c5
       first | done | simp at c5
     · intro c5
       try simp only [cnd] at c5
       intro ρ hL
       refine awl_skip ?_
       revert ρ hL
       refine zSF [4] (sat_spec_Work (c.rob.getD i.toNat noEnt).x (c.rob.getD i.toNat noEnt).pc (valueRaw c i (c.rob.getD i.toNat noEnt).x.a).1 (valueRaw c i (c.rob.getD i.toNat noEnt).x.b).1 noWord) ?_
       refine zR ?_
       try simp only [go_sem, simprocAttr]
       all_goals try clear hR1
       all_goals (rw [doneBy, fxAt_go (by rw [at_none c1 c3]), at_none c1 c3] <;> rfl)
theorem sat_impl_doneBy (c : Cor) (i : Int) (hf : c.fit) (hr : ready c i = true) : Sat Tryz.prog 72 [.agg c.cells, .int .i64 i] [] (.agg (Fx.cells (doneBy c i (c.rob.getD i.toNat noEnt)))) [] := by
 have hX := trivial
 refine sat_mk [.cell 4 51] 0 82 Tryz.call72 Tryz.func72 Tryz.ntmps72 rfl rfl rfl rfl rfl ?_
 refine zI [0, 1] ?_
 refine zS [1, 2, 4] ?_
 have hp := ready_parts hr
 have hw := inR_iff.1 hp.2.1
 have hn2 : i.toNat < c.rob.length := by omega
 have hk := ent_regs hp.1 hn2
 have hva := value_ok (i := i) hp.1 hk.2.1
 have hvb := value_ok (i := i) hp.1 hk.2.2
 have hX0 := hX
 replace hX := And.intro hn2 hX
 refine zD [0, 1, 0, 7, 15, 31, 0, 64, 0, 448, 960, 1984, 0, 0, 12351, 32767] [1, 2, 4, 5, 6] ?_
 clear hX
 have hX := hX0
 clear hX0
 have hX0 := hX
 replace hX := And.intro hva hX
 refine zSF [1, 2, 4, 5, 6, 7] (sat_impl_Value c i (c.rob.getD i.toNat noEnt).x.a hf) ?_
 clear hX
 have hX := hX0
 clear hX0
 have hX0 := hX
 replace hX := And.intro hvb hX
 refine zSF [1, 2, 4, 5, 6, 7, 9] (sat_impl_Value c i (c.rob.getD i.toNat noEnt).x.b hf) ?_
 clear hX
 have hX := hX0
 clear hX0
 refine zS [1, 2, 4, 5, 6, 7, 9, 11, 12] ?_
 refine zS [1, 2, 4, 5, 6, 7, 9, 11, 12, 43] ?_
 intro ρ hL
 refine awl_block fun R1 hw1 hR1 => ?_
 revert ρ hL
 refine zS [1, 2, 4, 5, 6, 7, 9, 11, 12, 43, 44] ?_
 refine zC ?_ ?_
 · intro c1
   refine zSF [4, 5, 6, 7, 9, 11, 12] (sat_impl_Found c i (valueRaw c i (c.rob.getD i.toNat noEnt).x.a).1 (wadd (valueRaw c i (c.rob.getD i.toNat noEnt).x.a).1.n (c.rob.getD i.toNat noEnt).x.n) hf) ?_
   intro ρ hL
   refine awl_nil ?_
   refine blk_normal (hR1 _ _ (.mk ?_))
   revert ρ hL
   refine zS [4, 5, 6, 7, 9, 11, 12, 72] ?_
   refine zC ?_ ?_
   · intro c2
     refine zSF [4] (sat_impl_trapped _ _) ?_
     refine zR ?_
     try simp only [go_sem, simprocAttr]
     all_goals try clear hR1
     all_goals (rw [doneBy, fxAt_trap (by rw [at_load c1]; exact c2), at_load c1] <;> rfl)
   · intro c2
     intro ρ hL
     refine awl_skip ?_
     revert ρ hL
     refine zSF [4] (sat_impl_Work (c.rob.getD i.toNat noEnt).x (c.rob.getD i.toNat noEnt).pc (valueRaw c i (c.rob.getD i.toNat noEnt).x.a).1 (valueRaw c i (c.rob.getD i.toNat noEnt).x.b).1 (found c i (valueRaw c i (c.rob.getD i.toNat noEnt).x.a).1 (wadd (valueRaw c i (c.rob.getD i.toNat noEnt).x.a).1.n (c.rob.getD i.toNat noEnt).x.n)).1) ?_
     refine zR ?_
     try simp only [go_sem, simprocAttr]
     all_goals try clear hR1
     all_goals (rw [doneBy, fxAt_go (by rw [at_load c1]; exact c2), at_load c1] <;> rfl)
 · intro c1
   refine zS [2, 4, 5, 6, 7, 9, 11, 12, 58] ?_
   refine zC ?_ ?_
   · intro c3
     refine zSF [4, 5, 6, 7, 9, 11, 12] (sat_impl_writeCode c.s.mem (valueRaw c i (c.rob.getD i.toNat noEnt).x.a).1 (wadd (valueRaw c i (c.rob.getD i.toNat noEnt).x.a).1.n (c.rob.getD i.toNat noEnt).x.n) (valueRaw c i (c.rob.getD i.toNat noEnt).x.b).1 hf.1.2) ?_
     intro ρ hL
     refine awl_nil ?_
     refine blk_normal (hR1 _ _ (.mk ?_))
     revert ρ hL
     refine zS [4, 5, 6, 7, 9, 11, 12, 72] ?_
     refine zC ?_ ?_
     · intro c4
       refine zSF [4] (sat_impl_trapped _ _) ?_
       refine zR ?_
       try simp only [go_sem, simprocAttr]
       all_goals try clear hR1
       all_goals (rw [doneBy, fxAt_trap (by rw [at_store c1 c3]; exact c4), at_store c1 c3] <;> rfl)
     · intro c4
       intro ρ hL
       refine awl_skip ?_
       revert ρ hL
       refine zSF [4] (sat_impl_Work (c.rob.getD i.toNat noEnt).x (c.rob.getD i.toNat noEnt).pc (valueRaw c i (c.rob.getD i.toNat noEnt).x.a).1 (valueRaw c i (c.rob.getD i.toNat noEnt).x.b).1 noWord) ?_
       refine zR ?_
       try simp only [go_sem, simprocAttr]
       all_goals try clear hR1
       all_goals (rw [doneBy, fxAt_go (by rw [at_store c1 c3]; exact c4), at_store c1 c3] <;> rfl)
   · intro c3
     intro ρ hL
     refine awl_skip ?_
     refine awl_nil ?_
     refine blk_normal (hR1 _ _ (.mk ?_))
     revert ρ hL
     refine zS [4, 5, 6, 7, 9, 11, 12, 72] ?_
     refine zQ ?_ ?_
     · intro c5
       try simp only [cnd] at c5
       first | done | simp at c5
     · intro c5
       try simp only [cnd] at c5
       intro ρ hL
       refine awl_skip ?_
       revert ρ hL
       refine zSF [4] (sat_impl_Work (c.rob.getD i.toNat noEnt).x (c.rob.getD i.toNat noEnt).pc (valueRaw c i (c.rob.getD i.toNat noEnt).x.a).1 (valueRaw c i (c.rob.getD i.toNat noEnt).x.b).1 noWord) ?_
       refine zR ?_
       try simp only [go_sem, simprocAttr]
       all_goals try clear hR1
       all_goals (rw [doneBy, fxAt_go (by rw [at_none c1 c3]), at_none c1 c3] <;> rfl)
theorem sat_spec_Do (c : Cor) (i : Int) (hf : c.fit) : Sat Tryz.prog 16 [.agg c.cells, .int .i64 i] [] (.tuple [.agg ((do_ c i).1.own 0 1 2 3 4), .bool (do_ c i).2]) (do_ c i).1.blks := by
 have hX := trivial
 refine sat_mk [.cell 4 37, .tmp 5] 0 68 Tryz.call16 Tryz.func16 Tryz.ntmps16 rfl rfl rfl rfl rfl ?_
 refine zI [0, 1] ?_
 refine zS [1, 2, 4] ?_
 refine zSF [1, 2, 4, 10] (sat_spec_CoreOk c hf) ?_
 refine zC ?_ ?_
 · intro c1
   refine zS [4, 5] ?_
   intro ρ hL
   refine awl_ret ?_
   refine retN (v := .tuple [.agg [.nilsl, .int .i64 0, .bool false, .int .i64 0, .int .i64 0, .int .i64 0, .int .i64 0, .nilsl, .nilsl, .int .i64 0, .nilsl, .int .i64 0, .bool false, .int .i64 0, .int .i64 0, .int .i64 0, .int .i64 0, .bool false, .nilsl], .bool false]) [6, 6, 1, 40, 1] [2, 3, 4, 5, 6] [2, 3, 4, 5, 6] rfl (by simp only [go_sem, simprocAttr, hL, hX]; exact rfl) (by first | rfl | (simp only [go_sem, simprocAttr, hL, hX]; first | done | rfl)) (Ref.tuple (RefL.cons (Ref.agg (RefL.cons (Ref.nil 2 ⟨Nat.le_of_ble_eq_true rfl, Nat.le_of_ble_eq_true rfl⟩) (RefL.cons (Ref.refl _) (RefL.cons (Ref.refl _) (RefL.cons (Ref.refl _) (RefL.cons (Ref.refl _) (RefL.cons (Ref.refl _) (RefL.cons (Ref.refl _) (RefL.cons (Ref.nil 3 ⟨Nat.le_of_ble_eq_true rfl, Nat.le_of_ble_eq_true rfl⟩) (RefL.cons (Ref.nil 4 ⟨Nat.le_of_ble_eq_true rfl, Nat.le_of_ble_eq_true rfl⟩) (RefL.cons (Ref.refl _) (RefL.cons (Ref.nil 5 ⟨Nat.le_of_ble_eq_true rfl, Nat.le_of_ble_eq_true rfl⟩) (RefL.cons (Ref.refl _) (RefL.cons (Ref.refl _) (RefL.cons (Ref.refl _) (RefL.cons (Ref.refl _) (RefL.cons (Ref.refl _) (RefL.cons (Ref.refl _) (RefL.cons (Ref.refl _) (RefL.cons (Ref.nil 6 ⟨Nat.le_of_ble_eq_true rfl, Nat.le_of_ble_eq_true rfl⟩) (RefL.same []))))))))))))))))))))) (RefL.same _))) rfl (by decide) rfl rfl ?_ ?_
   all_goals try simp only [go_sem, simprocAttr, hL, hX]
   all_goals (rw [do_no c1] <;> rfl)
 · intro c1
   intro ρ hL
   refine awl_skip ?_
   revert ρ hL
   refine zSF [1, 2, 4, 6] (sat_spec_l12Copy c hf) ?_
   refine zSF [1, 2, 4, 6, 17] (sat_spec_Ready c i hf) ?_
   refine zC ?_ ?_
   · intro c2
     refine zS [4, 5] ?_
     refine zK [2, 3, 4, 5, 6] [2, 3, 4, 5, 6] ?_ ?_
     all_goals try simp only [go_sem, simprocAttr, hX]
     all_goals (rw [do_idle c1 c2] <;> rfl)
   · intro c2
     intro ρ hL
     refine awl_skip ?_
     have hr := c2
     have hp := ready_parts hr
     have hw := inR_iff.1 hp.2.1
     have hn2 : i.toNat < c.rob.length := by omega
     have hk := ent_regs hp.1 hn2
     have hva := value_ok (i := i) hp.1 hk.2.1
     have hvb := value_ok (i := i) hp.1 hk.2.2
     have hf1 := hf.2.1
     have hdp := done_put hn2
     have hn3 : i.toNat < (c.rob.set i.toNat (doneOf (c.rob.getD i.toNat noEnt))).length := by rw [List.length_set]; exact hn2
     have hn5 : i.toNat < (c.rob.set i.toNat ⟨(c.rob.getD i.toNat noEnt).pc, (c.rob.getD i.toNat noEnt).x, true, (doneBy c i (c.rob.getD i.toNat noEnt)), (c.rob.getD i.toNat noEnt).guess⟩).length := by rw [List.length_set]; exact hn2
     have hmin : min (i.toNat + 1) c.rob.length = i.toNat + 1 := by omega
     have hwi : IntKind.i64.wrap (i + 1) = i + 1 := wrap64 (by omega)
     have s1 : (0 : Int) ≤ i + 1 := by omega
     have s2 : i + 1 ≤ (c.rob.length : Int) := by omega
     have s3 : (i + 1).toNat = i.toNat + 1 := by omega
     have s4 : (i.toNat + 1) * 40 ≤ c.rob.length * 40 := by omega
     have s5 : i.toNat + 1 ≤ c.rob.length := by omega
     have lq : ∀ o o1, (rows (c.rob.set i.toNat ⟨(c.rob.getD i.toNat noEnt).pc, (c.rob.getD i.toNat noEnt).x, true, (doneBy c i (c.rob.getD i.toNat noEnt)), (c.rob.getD i.toNat noEnt).guess⟩)).drop (i.toNat * 40 + o + o1) = (Ent.cells ((c.rob.set i.toNat ⟨(c.rob.getD i.toNat noEnt).pc, (c.rob.getD i.toNat noEnt).x, true, (doneBy c i (c.rob.getD i.toNat noEnt)), (c.rob.getD i.toNat noEnt).guess⟩).getD i.toNat noEnt) ++ rows ((c.rob.set i.toNat ⟨(c.rob.getD i.toNat noEnt).pc, (c.rob.getD i.toNat noEnt).x, true, (doneBy c i (c.rob.getD i.toNat noEnt)), (c.rob.getD i.toNat noEnt).guess⟩).drop (i.toNat + 1))).drop (o + o1) := fun o o1 => by rw [Nat.add_assoc, ents_atO hn5]
     have hX0 := hX
     replace hX := And.intro hn2 hX
     revert ρ hL
     refine zSF [1, 4, 6, 7] (sat_spec_l14Effect c i hf c2) ?_
     clear hX
     have hX := hX0
     clear hX0
     have hX0 := hX
     replace hX := And.intro hn2 (And.intro hdp hX)
     refine zS [1, 4, 6, 7] ?_
     clear hX
     have hX := hX0
     clear hX0
     intro ρ hL
     repeat refine awl_seq ?_
     refine awl_regS _ rfl fun K hK => ?_
     try simp only [go_sem, simprocAttr, hL, hX, hn2, fx_put hn3, done_both hn2, List.length_set]
     repeat' refine And.intro (by first | rfl | omega | (simp; done)) ?_
     refine hK _ _ (.mk (awl_live' [1, 4, 6, 7] fun ρ hM => ?_))
     try simp only [go_sem, simprocAttr, hL, hX, hn2, fx_put hn3, done_both hn2, List.length_set] at hM
     clear hK K hL
     revert ρ hM
     refine zS [1, 4, 6, 7, 35] ?_
     refine zC ?_ ?_
     · intro c3
       intro ρ hL
       repeat refine awl_seq ?_
       refine awl_regS _ rfl fun K hK => ?_
       try simp only [go_sem, simprocAttr, hL, hX, hwi, s1, s2, s3, s4, s5, ents_takeN, List.length_set, Nat.sub_zero, Nat.sub_self, Nat.max_zero, Nat.zero_max, Nat.max_self, Option.isSome_none, Option.isNone_some, Option.isNone_none]
       repeat' refine And.intro (by first | rfl | omega | (simp; done)) ?_
       refine hK _ _ (.mk (awl_live' [4, 6] fun ρ hM => ?_))
       try simp only [go_sem, simprocAttr, hL, hX, hwi, s1, s2, s3, s4, s5, ents_takeN, List.length_set, Nat.sub_zero, Nat.sub_self, Nat.max_zero, Nat.zero_max, Nat.max_self, Option.isSome_none, Option.isNone_some, Option.isNone_none] at hM
       clear hK K hL
       revert ρ hM
       refine zS [4, 6] ?_
       refine zS [4, 5] ?_
       refine zK [2, 3, 4, 9, 6] [2, 3, 4, 9, 6] ?_ ?_
       all_goals try simp only [go_sem, simprocAttr, hX]
       all_goals (rw [do_on c1 c2, doE_trap c3] <;> (try simp only [withRob, List.length_take, List.length_set, hmin, ents_takeN, bor_rows]) <;> first | done | rfl)
     · intro c3
       intro ρ hL
       refine awl_skip ?_
       repeat refine awl_seq ?_
       refine awl_regD mixed _ rfl fun K hK => ?_
       try simp only [go_sem, simprocAttr, hL, hX, ents_atO hn5, lq, getD_set hn2, word_deq, List.length_set, hn2]
       repeat' refine And.intro (by first | omega | (exact ⟨[0, 1, 0, 4, 0, 28, 60, 124, 255], by kernel_rfl⟩) | kernel_rfl) ?_
       refine hK _ _ (.mk (awl_live' [1, 4, 6, 7, 54] fun ρ hM => ?_))
       try simp only [go_sem, simprocAttr, hL, hX, ents_atO hn5, lq, getD_set hn2, word_deq, List.length_set, hn2] at hM
       clear hK K hL
       revert ρ hM
       refine zC ?_ ?_
       · intro c4
         intro ρ hL
         repeat refine awl_seq ?_
         refine awl_regS _ rfl fun K hK => ?_
         try simp only [go_sem, simprocAttr, hL, hX, hwi, s1, s2, s3, s4, s5, ents_takeN, List.length_set, Nat.sub_zero, Nat.sub_self, Nat.max_zero, Nat.zero_max, Nat.max_self, Option.isSome_none, Option.isNone_some, Option.isNone_none]
         repeat' refine And.intro (by first | rfl | omega | (simp; done)) ?_
         refine hK _ _ (.mk (awl_live' [4, 6, 7] fun ρ hM => ?_))
         try simp only [go_sem, simprocAttr, hL, hX, hwi, s1, s2, s3, s4, s5, ents_takeN, List.length_set, Nat.sub_zero, Nat.sub_self, Nat.max_zero, Nat.zero_max, Nat.max_self, Option.isSome_none, Option.isNone_some, Option.isNone_none] at hM
         clear hK K hL
         revert ρ hM
         refine zS [4, 6] ?_
         refine zS [4, 6] ?_
         refine zS [4, 5] ?_
         refine zK [2, 3, 4, 9, 6] [2, 3, 4, 9, 6] ?_ ?_
         all_goals try simp only [go_sem, simprocAttr, hX]
         all_goals (rw [do_on c1 c2, doE_turn c3 c4] <;> (try simp only [withRob, List.length_take, List.length_set, hmin, ents_takeN, bor_rows]) <;> first | done | rfl)
       · intro c4
         intro ρ hL
         refine awl_skip ?_
         revert ρ hL
         refine zS [4, 5] ?_
         refine zK [2, 3, 4, 5, 6] [2, 3, 4, 5, 6] ?_ ?_
         all_goals try simp only [go_sem, simprocAttr, hX]
         all_goals (rw [do_on c1 c2, doE_go c3 c4] <;> (try simp only [withRob, List.length_take, List.length_set, hmin, ents_takeN, bor_rows]) <;> first | done | rfl)
theorem sat_impl_Do (c : Cor) (i : Int) (hf : c.fit) : Sat Tryz.prog 15 [.agg c.cells, .int .i64 i] [] (.tuple [.agg ((do_ c i).1.own 0 1 2 3 4), .bool (do_ c i).2]) (do_ c i).1.blks := by
 have hX := trivial
 refine sat_mk [.cell 4 37, .tmp 5] 0 66 Tryz.call15 Tryz.func15 Tryz.ntmps15 rfl rfl rfl rfl rfl ?_
 refine zI [0, 1] ?_
 refine zS [1, 2, 4] ?_
 refine zSF [1, 2, 4, 10] (sat_impl_CoreOk c hf) ?_
 refine zC ?_ ?_
 · intro c1
   refine zS [4, 5] ?_
   intro ρ hL
   refine awl_ret ?_
   refine retN (v := .tuple [.agg [.nilsl, .int .i64 0, .bool false, .int .i64 0, .int .i64 0, .int .i64 0, .int .i64 0, .nilsl, .nilsl, .int .i64 0, .nilsl, .int .i64 0, .bool false, .int .i64 0, .int .i64 0, .int .i64 0, .int .i64 0, .bool false, .nilsl], .bool false]) [6, 6, 1, 40, 1] [2, 3, 4, 5, 6] [2, 3, 4, 5, 6] rfl (by simp only [go_sem, simprocAttr, hL, hX]; exact rfl) (by first | rfl | (simp only [go_sem, simprocAttr, hL, hX]; first | done | rfl)) (Ref.tuple (RefL.cons (Ref.agg (RefL.cons (Ref.nil 2 ⟨Nat.le_of_ble_eq_true rfl, Nat.le_of_ble_eq_true rfl⟩) (RefL.cons (Ref.refl _) (RefL.cons (Ref.refl _) (RefL.cons (Ref.refl _) (RefL.cons (Ref.refl _) (RefL.cons (Ref.refl _) (RefL.cons (Ref.refl _) (RefL.cons (Ref.nil 3 ⟨Nat.le_of_ble_eq_true rfl, Nat.le_of_ble_eq_true rfl⟩) (RefL.cons (Ref.nil 4 ⟨Nat.le_of_ble_eq_true rfl, Nat.le_of_ble_eq_true rfl⟩) (RefL.cons (Ref.refl _) (RefL.cons (Ref.nil 5 ⟨Nat.le_of_ble_eq_true rfl, Nat.le_of_ble_eq_true rfl⟩) (RefL.cons (Ref.refl _) (RefL.cons (Ref.refl _) (RefL.cons (Ref.refl _) (RefL.cons (Ref.refl _) (RefL.cons (Ref.refl _) (RefL.cons (Ref.refl _) (RefL.cons (Ref.refl _) (RefL.cons (Ref.nil 6 ⟨Nat.le_of_ble_eq_true rfl, Nat.le_of_ble_eq_true rfl⟩) (RefL.same []))))))))))))))))))))) (RefL.same _))) rfl (by decide) rfl rfl ?_ ?_
   all_goals try simp only [go_sem, simprocAttr, hL, hX]
   all_goals (rw [do_no c1] <;> rfl)
 · intro c1
   intro ρ hL
   refine awl_skip ?_
   revert ρ hL
   refine zSF [1, 2, 4, 6] (sat_impl_cloneCore c hf) ?_
   refine zSF [1, 2, 4, 6, 17] (sat_impl_Ready c i hf) ?_
   refine zC ?_ ?_
   · intro c2
     refine zS [4, 5] ?_
     refine zK [2, 3, 4, 5, 6] [2, 3, 4, 5, 6] ?_ ?_
     all_goals try simp only [go_sem, simprocAttr, hX]
     all_goals (rw [do_idle c1 c2] <;> rfl)
   · intro c2
     intro ρ hL
     refine awl_skip ?_
     have hr := c2
     have hp := ready_parts hr
     have hw := inR_iff.1 hp.2.1
     have hn2 : i.toNat < c.rob.length := by omega
     have hk := ent_regs hp.1 hn2
     have hva := value_ok (i := i) hp.1 hk.2.1
     have hvb := value_ok (i := i) hp.1 hk.2.2
     have hf1 := hf.2.1
     have hdp := done_put hn2
     have hn3 : i.toNat < (c.rob.set i.toNat (doneOf (c.rob.getD i.toNat noEnt))).length := by rw [List.length_set]; exact hn2
     have hn5 : i.toNat < (c.rob.set i.toNat ⟨(c.rob.getD i.toNat noEnt).pc, (c.rob.getD i.toNat noEnt).x, true, (doneBy c i (c.rob.getD i.toNat noEnt)), (c.rob.getD i.toNat noEnt).guess⟩).length := by rw [List.length_set]; exact hn2
     have hmin : min (i.toNat + 1) c.rob.length = i.toNat + 1 := by omega
     have hwi : IntKind.i64.wrap (i + 1) = i + 1 := wrap64 (by omega)
     have s1 : (0 : Int) ≤ i + 1 := by omega
     have s2 : i + 1 ≤ (c.rob.length : Int) := by omega
     have s3 : (i + 1).toNat = i.toNat + 1 := by omega
     have s4 : (i.toNat + 1) * 40 ≤ c.rob.length * 40 := by omega
     have s5 : i.toNat + 1 ≤ c.rob.length := by omega
     have lq : ∀ o o1, (rows (c.rob.set i.toNat ⟨(c.rob.getD i.toNat noEnt).pc, (c.rob.getD i.toNat noEnt).x, true, (doneBy c i (c.rob.getD i.toNat noEnt)), (c.rob.getD i.toNat noEnt).guess⟩)).drop (i.toNat * 40 + o + o1) = (Ent.cells ((c.rob.set i.toNat ⟨(c.rob.getD i.toNat noEnt).pc, (c.rob.getD i.toNat noEnt).x, true, (doneBy c i (c.rob.getD i.toNat noEnt)), (c.rob.getD i.toNat noEnt).guess⟩).getD i.toNat noEnt) ++ rows ((c.rob.set i.toNat ⟨(c.rob.getD i.toNat noEnt).pc, (c.rob.getD i.toNat noEnt).x, true, (doneBy c i (c.rob.getD i.toNat noEnt)), (c.rob.getD i.toNat noEnt).guess⟩).drop (i.toNat + 1))).drop (o + o1) := fun o o1 => by rw [Nat.add_assoc, ents_atO hn5]
     have hX0 := hX
     replace hX := And.intro hn2 hX
     revert ρ hL
     refine zS [1, 2, 4, 6, 7] ?_
     clear hX
     have hX := hX0
     clear hX0
     have hX0 := hX
     replace hX := And.intro hn2 (And.intro hdp hX)
     refine zS [1, 2, 4, 6, 7] ?_
     clear hX
     have hX := hX0
     clear hX0
     intro ρ hL
     repeat refine awl_seq ?_
     refine awl_regS _ rfl fun K hK => ?_
     try simp only [go_sem, simprocAttr, hL, hX, hn2, fx_put hn3, done_both hn2, List.length_set]
     repeat' refine And.intro (by first | rfl | omega | (simp; done)) ?_
     refine opS_call_ro rfl (sat_impl_doneBy c i hf c2) ?ha ?hv ?hh ?_
     case ha => simp only [go_sem, simprocAttr, hL, hX, hn2, fx_put hn3, done_both hn2, List.length_set]; first | done | rfl
     case hv => first | rfl | (simp only [go_sem]; done)
     case hh => first | rfl | (simp only [go_sem]; done)
     try simp only [go_sem, simprocAttr, hL, hX, hn2, fx_put hn3, done_both hn2, List.length_set]
     repeat' refine And.intro (by first | rfl | omega | (simp; done)) ?_
     refine hK _ _ (.mk (awl_live' [1, 4, 6, 7] fun ρ hM => ?_))
     try simp only [go_sem, simprocAttr, hL, hX, hn2, fx_put hn3, done_both hn2, List.length_set] at hM
     clear hK K hL
     revert ρ hM
     intro ρ hL
     refine awl_seq ?_
     refine awl_block fun R1 hw1 hR1 => ?_
     repeat refine awl_seq ?_
     refine awl_regS _ rfl fun K hK => ?_
     try simp only [go_sem, simprocAttr, hL, hX, ents_atO hn5, lq, getD_set hn2, word_deq, List.length_set]
     repeat' refine And.intro (by first | rfl | omega | (simp; done)) ?_
     refine hK _ _ (.mk (awl_live' [1, 4, 6, 7, 33] fun ρ hM => ?_))
     try simp only [go_sem, simprocAttr, hL, hX, ents_atO hn5, lq, getD_set hn2, word_deq, List.length_set] at hM
     clear hK K hL
     revert ρ hM
     refine zC ?_ ?_
     · intro c3
       refine zS [1, 4, 6] ?_
       intro ρ hL
       refine awl_nil ?_
       refine blk_normal (hR1 _ _ (.mk ?_))
       repeat refine awl_seq ?_
       refine awl_regS _ rfl fun K hK => ?_
       try simp only [go_sem, simprocAttr, hL, hX, hwi, s1, s2, s3, s4, s5, ents_takeN, List.length_set, Nat.sub_zero, Nat.sub_self, Nat.max_zero, Nat.zero_max, Nat.max_self, Option.isSome_none, Option.isNone_some, Option.isNone_none]
       repeat' refine And.intro (by first | rfl | omega | (simp; done)) ?_
       refine hK _ _ (.mk (awl_live' [4, 6] fun ρ hM => ?_))
       try simp only [go_sem, simprocAttr, hL, hX, hwi, s1, s2, s3, s4, s5, ents_takeN, List.length_set, Nat.sub_zero, Nat.sub_self, Nat.max_zero, Nat.zero_max, Nat.max_self, Option.isSome_none, Option.isNone_some, Option.isNone_none] at hM
       clear hK K hL
       revert ρ hM
       refine zS [4, 5] ?_
       intro ρ hL
       refine awl_ret ?_
       refine ret_wk (Wk.trunc 5 ((i.toNat + 1) * 40) rfl) ?_
       refine retN (v := .tuple [.agg [.slice 2 0 c.s.regs.length 0, .int .i64 c.s.pc.n, .bool c.s.pc.is, .int .i64 c.s.pc.key.base, .int .i64 c.s.pc.key.top, .int .i64 c.s.pc.key.perms, .int .i64 c.s.pc.key.lock, .slice 3 0 c.s.mem.words.length 0, .slice 4 0 c.s.mem.gone.length 0, .int .i64 c.s.trap, .slice 5 0 (i.toNat + 1) c.rob.length, .int .i64 c.next.n, .bool c.next.is, .int .i64 c.next.key.base, .int .i64 c.next.key.top, .int .i64 c.next.key.perms, .int .i64 c.next.key.lock, .bool true, .slice 6 0 c.guesses.length 0], .bool true]) [] [2, 3, 4, 5, 6] [2, 3, 4, 5, 6] rfl (by simp only [go_sem, simprocAttr, hL, hX]; exact rfl) (by first | rfl | (simp only [go_sem, simprocAttr, hL, hX]; first | done | rfl)) (Ref.tuple (RefL.cons (Ref.agg (RefL.cons (Ref.refl _) (RefL.cons (Ref.refl _) (RefL.cons (Ref.refl _) (RefL.cons (Ref.refl _) (RefL.cons (Ref.refl _) (RefL.cons (Ref.refl _) (RefL.cons (Ref.refl _) (RefL.cons (Ref.refl _) (RefL.cons (Ref.refl _) (RefL.cons (Ref.refl _) (RefL.cons (Ref.cap _ _ _ _ 0 (Nat.zero_le _)) (RefL.cons (Ref.refl _) (RefL.cons (Ref.refl _) (RefL.cons (Ref.refl _) (RefL.cons (Ref.refl _) (RefL.cons (Ref.refl _) (RefL.cons (Ref.refl _) (RefL.cons (Ref.refl _) (RefL.cons (Ref.refl _) (RefL.same []))))))))))))))))))))) (RefL.same _))) rfl (by decide) rfl rfl ?_ ?_
       all_goals try simp only [go_sem, simprocAttr, hL, hX]
       all_goals try clear hR1
       all_goals (rw [do_on c1 c2, doE_trap c3] <;> (try simp only [withRob, List.length_take, List.length_set, hmin, ents_takeN, bor_rows]) <;> first | done | rfl)
     · intro c3
       intro ρ hL
       repeat refine awl_seq ?_
       refine awl_regD mixed _ rfl fun K hK => ?_
       try simp only [go_sem, simprocAttr, hL, hX, ents_atO hn5, lq, getD_set hn2, word_deq, List.length_set]
       repeat' refine And.intro (by first | omega | (exact ⟨[0, 1, 3, 7, 15, 0, 32, 96, 224, 511, 1023], by kernel_rfl⟩) | kernel_rfl) ?_
       refine hK _ _ (.mk (awl_live' [1, 4, 6, 7, 41] fun ρ hM => ?_))
       try simp only [go_sem, simprocAttr, hL, hX, ents_atO hn5, lq, getD_set hn2, word_deq, List.length_set] at hM
       clear hK K hL
       revert ρ hM
       refine zC ?_ ?_
       · intro c4
         intro ρ hL
         repeat refine awl_seq ?_
         refine awl_regS _ rfl fun K hK => ?_
         try simp only [go_sem, simprocAttr, hL, hX, ents_atO hn5, lq, getD_set hn2, word_deq, List.length_set]
         repeat' refine And.intro (by first | rfl | omega | (simp; done)) ?_
         refine hK _ _ (.mk (awl_live' [1, 4, 6] fun ρ hM => ?_))
         try simp only [go_sem, simprocAttr, hL, hX, ents_atO hn5, lq, getD_set hn2, word_deq, List.length_set] at hM
         clear hK K hL
         revert ρ hM
         refine zS [1, 4, 6] ?_
         intro ρ hL
         refine awl_nil ?_
         refine blk_normal (hR1 _ _ (.mk ?_))
         repeat refine awl_seq ?_
         refine awl_regS _ rfl fun K hK => ?_
         try simp only [go_sem, simprocAttr, hL, hX, hwi, s1, s2, s3, s4, s5, ents_takeN, List.length_set, Nat.sub_zero, Nat.sub_self, Nat.max_zero, Nat.zero_max, Nat.max_self, Option.isSome_none, Option.isNone_some, Option.isNone_none]
         repeat' refine And.intro (by first | rfl | omega | (simp; done)) ?_
         refine hK _ _ (.mk (awl_live' [4, 6] fun ρ hM => ?_))
         try simp only [go_sem, simprocAttr, hL, hX, hwi, s1, s2, s3, s4, s5, ents_takeN, List.length_set, Nat.sub_zero, Nat.sub_self, Nat.max_zero, Nat.zero_max, Nat.max_self, Option.isSome_none, Option.isNone_some, Option.isNone_none] at hM
         clear hK K hL
         revert ρ hM
         refine zS [4, 5] ?_
         intro ρ hL
         refine awl_ret ?_
         refine ret_wk (Wk.trunc 5 ((i.toNat + 1) * 40) rfl) ?_
         refine retN (v := .tuple [.agg [.slice 2 0 c.s.regs.length 0, .int .i64 c.s.pc.n, .bool c.s.pc.is, .int .i64 c.s.pc.key.base, .int .i64 c.s.pc.key.top, .int .i64 c.s.pc.key.perms, .int .i64 c.s.pc.key.lock, .slice 3 0 c.s.mem.words.length 0, .slice 4 0 c.s.mem.gone.length 0, .int .i64 c.s.trap, .slice 5 0 (i.toNat + 1) c.rob.length, .int .i64 (doneBy c i (c.rob.getD i.toNat noEnt)).next.n, .bool (doneBy c i (c.rob.getD i.toNat noEnt)).next.is, .int .i64 (doneBy c i (c.rob.getD i.toNat noEnt)).next.key.base, .int .i64 (doneBy c i (c.rob.getD i.toNat noEnt)).next.key.top, .int .i64 (doneBy c i (c.rob.getD i.toNat noEnt)).next.key.perms, .int .i64 (doneBy c i (c.rob.getD i.toNat noEnt)).next.key.lock, .bool false, .slice 6 0 c.guesses.length 0], .bool true]) [] [2, 3, 4, 5, 6] [2, 3, 4, 5, 6] rfl (by simp only [go_sem, simprocAttr, hL, hX]; exact rfl) (by first | rfl | (simp only [go_sem, simprocAttr, hL, hX]; first | done | rfl)) (Ref.tuple (RefL.cons (Ref.agg (RefL.cons (Ref.refl _) (RefL.cons (Ref.refl _) (RefL.cons (Ref.refl _) (RefL.cons (Ref.refl _) (RefL.cons (Ref.refl _) (RefL.cons (Ref.refl _) (RefL.cons (Ref.refl _) (RefL.cons (Ref.refl _) (RefL.cons (Ref.refl _) (RefL.cons (Ref.refl _) (RefL.cons (Ref.cap _ _ _ _ 0 (Nat.zero_le _)) (RefL.cons (Ref.refl _) (RefL.cons (Ref.refl _) (RefL.cons (Ref.refl _) (RefL.cons (Ref.refl _) (RefL.cons (Ref.refl _) (RefL.cons (Ref.refl _) (RefL.cons (Ref.refl _) (RefL.cons (Ref.refl _) (RefL.same []))))))))))))))))))))) (RefL.same _))) rfl (by decide) rfl rfl ?_ ?_
         all_goals try simp only [go_sem, simprocAttr, hL, hX]
         all_goals try clear hR1
         all_goals (rw [do_on c1 c2, doE_turn c3 c4] <;> (try simp only [withRob, List.length_take, List.length_set, hmin, ents_takeN, bor_rows]) <;> first | done | rfl)
       · intro c4
         refine zS [4, 5] ?_
         refine zK [2, 3, 4, 5, 6] [2, 3, 4, 5, 6] ?_ ?_
         all_goals try simp only [go_sem, simprocAttr, hX]
         all_goals try clear hR1
         all_goals (rw [do_on c1 c2, doE_go c3 c4] <;> (try simp only [withRob, List.length_take, List.length_set, hmin, ents_takeN, bor_rows]) <;> first | done | rfl)
theorem sat_spec_CorePick (l : List Ins) (c : Cor) (p : Pik) (hl : l.length ≤ 1048576) (hf : c.fit) : Sat Tryz.prog 30 [.sl l.length l.length (rows l), .agg c.cells, .agg p.cells] [] (.tuple [.agg ((corPick l c p).1.own 0 1 2 3 4), .bool (corPick l c p).2]) (corPick l c p).1.blks := by
 have hX := trivial
 refine sat_mk [.cell 6 37, .tmp 7] 0 69 Tryz.call30 Tryz.func30 Tryz.ntmps30 rfl rfl rfl rfl rfl ?_
 refine zI [0, 1, 2] ?_
 refine zS [0, 4, 5, 6] ?_
 refine zSF [0, 4, 5, 6, 17] (sat_spec_CoreOk c hf) ?_
 refine zC ?_ ?_
 · intro c1
   refine zS [6, 7] ?_
   intro ρ hL
   refine awl_ret ?_
   refine retN (v := .tuple [.agg [.nilsl, .int .i64 0, .bool false, .int .i64 0, .int .i64 0, .int .i64 0, .int .i64 0, .nilsl, .nilsl, .int .i64 0, .nilsl, .int .i64 0, .bool false, .int .i64 0, .int .i64 0, .int .i64 0, .int .i64 0, .bool false, .nilsl], .bool false]) [6, 6, 1, 40, 1] [3, 4, 5, 6, 7] [3, 4, 5, 6, 7] rfl (by simp only [go_sem, simprocAttr, hL, hX]; exact rfl) (by first | rfl | (simp only [go_sem, simprocAttr, hL, hX]; first | done | rfl)) (Ref.tuple (RefL.cons (Ref.agg (RefL.cons (Ref.nil 3 ⟨Nat.le_of_ble_eq_true rfl, Nat.le_of_ble_eq_true rfl⟩) (RefL.cons (Ref.refl _) (RefL.cons (Ref.refl _) (RefL.cons (Ref.refl _) (RefL.cons (Ref.refl _) (RefL.cons (Ref.refl _) (RefL.cons (Ref.refl _) (RefL.cons (Ref.nil 4 ⟨Nat.le_of_ble_eq_true rfl, Nat.le_of_ble_eq_true rfl⟩) (RefL.cons (Ref.nil 5 ⟨Nat.le_of_ble_eq_true rfl, Nat.le_of_ble_eq_true rfl⟩) (RefL.cons (Ref.refl _) (RefL.cons (Ref.nil 6 ⟨Nat.le_of_ble_eq_true rfl, Nat.le_of_ble_eq_true rfl⟩) (RefL.cons (Ref.refl _) (RefL.cons (Ref.refl _) (RefL.cons (Ref.refl _) (RefL.cons (Ref.refl _) (RefL.cons (Ref.refl _) (RefL.cons (Ref.refl _) (RefL.cons (Ref.refl _) (RefL.cons (Ref.nil 7 ⟨Nat.le_of_ble_eq_true rfl, Nat.le_of_ble_eq_true rfl⟩) (RefL.same []))))))))))))))))))))) (RefL.same _))) rfl (by decide) rfl rfl ?_ ?_
   all_goals try simp only [go_sem, simprocAttr, hL, hX]
   all_goals (rw [pick_no c1] <;> rfl)
 · intro c1
   intro ρ hL
   refine awl_skip ?_
   revert ρ hL
   refine zS [0, 4, 5, 6, 20] ?_
   intro ρ hL
   refine awl_block fun R1 hw1 hR1 => ?_
   revert ρ hL
   refine zS [0, 4, 5, 6, 20, 21] ?_
   refine zC ?_ ?_
   · intro c2
     refine zSF [6, 8, 9] (sat_spec_Pull l c hl hf) ?_
     refine zS [6, 7] ?_
     refine zK [3, 4, 5, 6, 7] [3, 4, 5, 6, 7] ?_ ?_
     all_goals try simp only [go_sem, simprocAttr, hX]
     all_goals try clear hR1
     all_goals (rw [pick_1 c1 c2] <;> rfl)
   · intro c2
     refine zS [4, 5, 6, 20, 31] ?_
     refine zC ?_ ?_
     · intro c3
       refine zSF [6, 10, 11] (sat_spec_Do c p.n hf) ?_
       refine zS [6, 7] ?_
       refine zK [3, 4, 5, 6, 7] [3, 4, 5, 6, 7] ?_ ?_
       all_goals try simp only [go_sem, simprocAttr, hX]
       all_goals try clear hR1
       all_goals (rw [pick_2 c1 c3] <;> rfl)
     · intro c3
       refine zS [4, 5, 6, 20, 42] ?_
       refine zC ?_ ?_
       · intro c4
         refine zSF [6, 12, 13] (sat_spec_Commit c hf) ?_
         refine zS [6, 7] ?_
         refine zK [3, 4, 5, 6, 7] [3, 4, 5, 6, 7] ?_ ?_
         all_goals try simp only [go_sem, simprocAttr, hX]
         all_goals try clear hR1
         all_goals (rw [pick_3 c1 c4] <;> rfl)
       · intro c4
         refine zS [4, 5, 6, 51] ?_
         refine zC ?_ ?_
         · intro c5
           refine zSF [4, 5, 6, 14] (sat_spec_l12Copy c hf) ?_
           refine zSF [5, 6, 14] (sat_spec_Sweep c.s.mem p.n hf.1.2) ?_
           intro ρ hL
           refine zAD [0, 0, 2, 6, 15, 31] ?_
           intro K hK
           refine zFD [0, 0, 2, 6, 15, 31] (sat_spec_l1In _ _ _) ?_
           refine zE [6, 7] ?_
           clear hK K hL
           refine zK [3, 9, 10, 6, 7] [3, 9, 10, 6, 7] ?_ ?_
           all_goals try simp only [go_sem, simprocAttr, hX]
           all_goals try clear hR1
           all_goals (rw [pick_4 c1 c5] <;> rfl)
         · intro c5
           intro ρ hL
           refine awl_skip ?_
           refine awl_nil ?_
           refine blk_normal (hR1 _ _ (.mk ?_))
           revert ρ hL
           refine zSF [6, 7] (sat_spec_l12Copy c hf) ?_
           refine zK [3, 4, 5, 6, 7] [3, 4, 5, 6, 7] ?_ ?_
           all_goals try simp only [go_sem, simprocAttr, hX]
           all_goals try clear hR1
           all_goals (rw [pick_5 c1 c2 c3 c4 c5] <;> rfl)
theorem sat_impl_CorePick (l : List Ins) (c : Cor) (p : Pik) (hl : l.length ≤ 1048576) (hf : c.fit) : Sat Tryz.prog 29 [.sl l.length l.length (rows l), .agg c.cells, .agg p.cells] [] (.tuple [.agg ((corPick l c p).1.own 0 1 2 3 4), .bool (corPick l c p).2]) (corPick l c p).1.blks := by
 have hX := trivial
 refine sat_mk [.cell 6 37, .tmp 7] 0 57 Tryz.call29 Tryz.func29 Tryz.ntmps29 rfl rfl rfl rfl rfl ?_
 refine zI [0, 1, 2] ?_
 refine zS [0, 4, 5, 6] ?_
 refine zSF [0, 4, 5, 6, 11] (sat_impl_CoreOk c hf) ?_
 refine zC ?_ ?_
 · intro c1
   refine zS [6, 7] ?_
   intro ρ hL
   refine awl_ret ?_
   refine retN (v := .tuple [.agg [.nilsl, .int .i64 0, .bool false, .int .i64 0, .int .i64 0, .int .i64 0, .int .i64 0, .nilsl, .nilsl, .int .i64 0, .nilsl, .int .i64 0, .bool false, .int .i64 0, .int .i64 0, .int .i64 0, .int .i64 0, .bool false, .nilsl], .bool false]) [6, 6, 1, 40, 1] [3, 4, 5, 6, 7] [3, 4, 5, 6, 7] rfl (by simp only [go_sem, simprocAttr, hL, hX]; exact rfl) (by first | rfl | (simp only [go_sem, simprocAttr, hL, hX]; first | done | rfl)) (Ref.tuple (RefL.cons (Ref.agg (RefL.cons (Ref.nil 3 ⟨Nat.le_of_ble_eq_true rfl, Nat.le_of_ble_eq_true rfl⟩) (RefL.cons (Ref.refl _) (RefL.cons (Ref.refl _) (RefL.cons (Ref.refl _) (RefL.cons (Ref.refl _) (RefL.cons (Ref.refl _) (RefL.cons (Ref.refl _) (RefL.cons (Ref.nil 4 ⟨Nat.le_of_ble_eq_true rfl, Nat.le_of_ble_eq_true rfl⟩) (RefL.cons (Ref.nil 5 ⟨Nat.le_of_ble_eq_true rfl, Nat.le_of_ble_eq_true rfl⟩) (RefL.cons (Ref.refl _) (RefL.cons (Ref.nil 6 ⟨Nat.le_of_ble_eq_true rfl, Nat.le_of_ble_eq_true rfl⟩) (RefL.cons (Ref.refl _) (RefL.cons (Ref.refl _) (RefL.cons (Ref.refl _) (RefL.cons (Ref.refl _) (RefL.cons (Ref.refl _) (RefL.cons (Ref.refl _) (RefL.cons (Ref.refl _) (RefL.cons (Ref.nil 7 ⟨Nat.le_of_ble_eq_true rfl, Nat.le_of_ble_eq_true rfl⟩) (RefL.same []))))))))))))))))))))) (RefL.same _))) rfl (by decide) rfl rfl ?_ ?_
   all_goals try simp only [go_sem, simprocAttr, hL, hX]
   all_goals (rw [pick_no c1] <;> rfl)
 · intro c1
   intro ρ hL
   refine awl_skip ?_
   revert ρ hL
   refine zS [0, 4, 5, 6, 14] ?_
   intro ρ hL
   refine awl_block fun R1 hw1 hR1 => ?_
   revert ρ hL
   refine zS [0, 4, 5, 6, 14, 15] ?_
   refine zC ?_ ?_
   · intro c2
     refine zSF [6, 7] (sat_impl_Pull l c hl hf) ?_
     refine zK [3, 4, 5, 6, 7] [3, 4, 5, 6, 7] ?_ ?_
     all_goals try simp only [go_sem, simprocAttr, hX]
     all_goals try clear hR1
     all_goals (rw [pick_1 c1 c2] <;> rfl)
   · intro c2
     refine zS [4, 5, 6, 14, 22] ?_
     refine zC ?_ ?_
     · intro c3
       refine zSF [6, 7] (sat_impl_Do c p.n hf) ?_
       refine zK [3, 4, 5, 6, 7] [3, 4, 5, 6, 7] ?_ ?_
       all_goals try simp only [go_sem, simprocAttr, hX]
       all_goals try clear hR1
       all_goals (rw [pick_2 c1 c3] <;> rfl)
     · intro c3
       refine zS [4, 5, 6, 30] ?_
       refine zC ?_ ?_
       · intro c4
         refine zSF [6, 7] (sat_impl_Commit c hf) ?_
         refine zK [3, 4, 5, 6, 7] [3, 4, 5, 6, 7] ?_ ?_
         all_goals try simp only [go_sem, simprocAttr, hX]
         all_goals try clear hR1
         all_goals (rw [pick_3 c1 c4] <;> rfl)
       · intro c4
         intro ρ hL
         refine awl_skip ?_
         refine awl_nil ?_
         refine blk_normal (hR1 _ _ (.mk ?_))
         revert ρ hL
         refine zSF [4, 5, 6, 8] (sat_impl_cloneCore c hf) ?_
         intro ρ hL
         refine zA ?_
         intro K hK
         refine zL [4, 5, 6, 8, 41] ?_
         clear hL
         intro ρ hL
         refine grp_orN (tc := 41) (tv := 45) (td := 46) (v := ?v1) 4 rfl [4, 5, 6, 8] hL.2.2.2.2 rfl (fun hb K1 hK1 => ?run) (fun hb => ?skip) (fun ρ hP hM => ?_)
         case skip => exact skA (want := false) (b := _) (by rw [hb]; rfl) hL.2.2.2.2 rfl
         case run =>
          simp only [List.take_succ_cons, List.take_zero]
          rw [hb] at hL
          try simp only [go_sem, simprocAttr, hL, hX]
          repeat' refine And.intro (by first | rfl | omega | (simp; done)) ?_
          refine zF (sat_impl_in _ _ _) ?_
          refine hK1 _ ?_ ?_ ?_ <;> simp only [go_sem, simprocAttr, hL, hX] <;> exact rfl
         simp only [List.drop_succ_cons, List.drop_zero]
         try simp only [go_sem, simprocAttr, hL, hX] at hM
         replace hL := And.intro hP hM
         clear hP hM
         try simp only [go_sem, simprocAttr, hL, hX]
         repeat' refine And.intro (by first | rfl | omega | (simp; done)) ?_
         refine zE [4, 5, 6, 8, 46] ?_
         clear hK K hL
         refine zC ?_ ?_
         · intro c5
           refine zS [6, 7] ?_
           refine zK [3, 4, 5, 6, 7] [3, 4, 5, 6, 7] ?_ ?_
           all_goals try simp only [go_sem, simprocAttr, hX]
           all_goals try clear hR1
           all_goals (rw [pick_idle c1 c2 c3 c4 c5] <;> rfl)
         · intro c5
           intro ρ hL
           refine awl_skip ?_
           revert ρ hL
           refine zSF [6, 8] (sat_impl_Sweep c.s.mem p.n hf.1.2) ?_
           refine zS [6, 7] ?_
           refine zK [3, 9, 10, 6, 7] [3, 9, 10, 6, 7] ?_ ?_
           all_goals try simp only [go_sem, simprocAttr, hX]
           all_goals try clear hR1
           all_goals (rw [pick_in c1 (by omega) c5.2] <;> rfl)
theorem sat_spec_Settle (l : List Ins) (c : Cor) (hf : c.fit) : Sat Tryz.prog 27 [.sl l.length l.length (rows l), .agg c.cells] [] (.tuple [.agg ((settle c).1.own 0 1 2 3 4), .int .i64 (settle c).2]) (settle c).1.blks := by
 have hX := trivial
 refine sat_mk [.cell 4 37, .tmp 5] 0 52 Tryz.call27 Tryz.func27 Tryz.ntmps27 rfl rfl rfl rfl rfl ?_
 refine zI [1] ?_
 refine zS [3, 4] ?_
 refine zSF [3, 4, 14] (sat_spec_CoreOk c hf) ?_
 refine zC ?_ ?_
 · intro c1
   refine zS [4, 5] ?_
   intro ρ hL
   refine awl_ret ?_
   refine retN (v := .tuple [.agg [.nilsl, .int .i64 0, .bool false, .int .i64 0, .int .i64 0, .int .i64 0, .int .i64 0, .nilsl, .nilsl, .int .i64 0, .nilsl, .int .i64 0, .bool false, .int .i64 0, .int .i64 0, .int .i64 0, .int .i64 0, .bool false, .nilsl], .int .i64 0]) [6, 6, 1, 40, 1] [2, 3, 4, 5, 6] [2, 3, 4, 5, 6] rfl (by simp only [go_sem, simprocAttr, hL, hX]; exact rfl) (by first | rfl | (simp only [go_sem, simprocAttr, hL, hX]; first | done | rfl)) (Ref.tuple (RefL.cons (Ref.agg (RefL.cons (Ref.nil 2 ⟨Nat.le_of_ble_eq_true rfl, Nat.le_of_ble_eq_true rfl⟩) (RefL.cons (Ref.refl _) (RefL.cons (Ref.refl _) (RefL.cons (Ref.refl _) (RefL.cons (Ref.refl _) (RefL.cons (Ref.refl _) (RefL.cons (Ref.refl _) (RefL.cons (Ref.nil 3 ⟨Nat.le_of_ble_eq_true rfl, Nat.le_of_ble_eq_true rfl⟩) (RefL.cons (Ref.nil 4 ⟨Nat.le_of_ble_eq_true rfl, Nat.le_of_ble_eq_true rfl⟩) (RefL.cons (Ref.refl _) (RefL.cons (Ref.nil 5 ⟨Nat.le_of_ble_eq_true rfl, Nat.le_of_ble_eq_true rfl⟩) (RefL.cons (Ref.refl _) (RefL.cons (Ref.refl _) (RefL.cons (Ref.refl _) (RefL.cons (Ref.refl _) (RefL.cons (Ref.refl _) (RefL.cons (Ref.refl _) (RefL.cons (Ref.refl _) (RefL.cons (Ref.nil 6 ⟨Nat.le_of_ble_eq_true rfl, Nat.le_of_ble_eq_true rfl⟩) (RefL.same []))))))))))))))))))))) (RefL.same _))) rfl (by decide) rfl rfl ?_ ?_
   all_goals try simp only [go_sem, simprocAttr, hL, hX]
   all_goals (rw [settle_no c1] <;> rfl)
 · intro c1
   intro ρ hL
   refine awl_skip ?_
   revert ρ hL
   refine zSF [4, 6] (sat_spec_l12Copy c hf) ?_
   refine zS [4, 6, 7] ?_
   refine zS [4, 6, 7, 8] ?_
   intro ρ hL
   have e1 := hL
   refine awl_loopH (fun H0 n σ G => ∃ (u : Cor) (k : Nat) (m : Int), n = 600 - k ∧ (k ≤ 600) ∧ (u.fit) ∧ (u.rob.length ≤ 6) ∧ (0 ≤ m) ∧ (m ≤ k) ∧ (settleGo (600 - k) u m = settleGo 600 c 0) ∧ (liveE [4, 6] σ ρ ∧ σ 7 = .int .i64 m ∧ σ 8 = .int .i64 (k : Int)) ∧ G = [⟨19, c.cells, true, false⟩, ⟨19, [.nilsl, .int .i64 0, .bool false, .int .i64 0, .int .i64 0, .int .i64 0, .int .i64 0, .nilsl, .nilsl, .int .i64 0, .nilsl, .int .i64 0, .bool false, .int .i64 0, .int .i64 0, .int .i64 0, .int .i64 0, .bool false, .nilsl], true, false⟩, ⟨6, rows u.s.regs, true, false⟩, ⟨6, rows u.s.mem.words, true, false⟩, ⟨1, rows u.s.mem.gone, true, false⟩, ⟨40, rows u.rob, true, false⟩, ⟨1, ints u.guesses, true, false⟩, ⟨19, u.own 2 3 4 5 6, true, false⟩]) (fun H0 σ G => ∃ (u : Cor) (m : Int), (settleGo 600 c 0 = (u, m)) ∧ (liveE [4, 6] σ ρ ∧ σ 7 = .int .i64 m) ∧ G = [⟨19, c.cells, true, false⟩, ⟨19, [.nilsl, .int .i64 0, .bool false, .int .i64 0, .int .i64 0, .int .i64 0, .int .i64 0, .nilsl, .nilsl, .int .i64 0, .nilsl, .int .i64 0, .bool false, .int .i64 0, .int .i64 0, .int .i64 0, .int .i64 0, .bool false, .nilsl], true, false⟩, ⟨6, rows u.s.regs, true, false⟩, ⟨6, rows u.s.mem.words, true, false⟩, ⟨1, rows u.s.mem.gone, true, false⟩, ⟨40, rows u.rob, true, false⟩, ⟨1, ints u.guesses, true, false⟩, ⟨19, u.own 2 3 4 5 6, true, false⟩]) ((fun (u : Cor) (k : Nat) (m : Int) => 600 - k) c  0  0) ?init1 (fun n ρ G hI => ?round1) (fun ρ G hJ => ?after1)
   case init1 => exact ⟨c, 0, 0, rfl, (Nat.zero_le _), (hf), ((corOk_parts c1).2.2.1), (Int.le_refl _), (Int.le_refl _), (rfl), ⟨liveE_refl _ _, (hL.2.2.1), (hL.2.2.2)⟩, rfl⟩
   case round1 =>
    clear hL
    obtain ⟨u, k, m, hn, i1_0, i1_1, i1_2, i1_3, i1_4, i1_5, hL, hG⟩ := hI
    subst hG
    try simp only [go_sem, simprocAttr, e1, hX] at hL
    refine zA ?_
    intro K hK
    refine zL [4, 6, 7, 8, 20] ?_
    clear hL
    intro ρ hL
    refine grp_andN (tc := 20) (tv := 24) (td := 25) (v := ?v1) 4 rfl [4, 6, 7, 8] hL.2.2.2.2 rfl (fun hb K1 hK1 => ?run) (fun hb => ?skip) (fun ρ hP hM => ?_)
    case skip => exact skA (want := true) (b := _) (by rw [hb]; rfl) hL.2.2.2.2 rfl
    case run =>
     simp only [List.take_succ_cons, List.take_zero]
     rw [hb] at hL
     try simp only [go_sem, simprocAttr, hL, hX]
     repeat' refine And.intro (by first | rfl | omega | (simp; done)) ?_
     refine hK1 _ ?_ ?_ ?_ <;> simp only [go_sem, simprocAttr, hL, hX] <;> exact rfl
    simp only [List.drop_succ_cons, List.drop_zero]
    try simp only [go_sem, simprocAttr, hL, hX] at hM
    replace hL := And.intro hP hM
    clear hP hM
    try simp only [go_sem, simprocAttr, hL, hX]
    repeat' refine And.intro (by first | rfl | omega | (simp; done)) ?_
    refine zE [4, 6, 7, 8, 25] ?_
    clear hK K hL
    refine zC ?_ ?_
    · intro c2
      intro ρ hL
      refine awl_skip ?_
      refine awl_seq ?_
      refine awl_block fun R1 hw1 hR1 => ?_
      revert ρ hL
      refine zS [4, 6, 7, 8, 9] ?_
      intro ρ hL
      have e2 := hL
      refine awl_loopH (fun H0 n σ G => ∃ (w : Cor) (i : Nat), n = 7 - i ∧ (i ≤ 7) ∧ (w.fit) ∧ (w.rob.length ≤ 6) ∧ (doAll (7 - i) i w = doAll 7 0 u) ∧ (liveE [4, 6, 7, 8] σ ρ ∧ σ 9 = .int .i64 (i : Int)) ∧ G = [⟨19, c.cells, true, false⟩, ⟨19, [.nilsl, .int .i64 0, .bool false, .int .i64 0, .int .i64 0, .int .i64 0, .int .i64 0, .nilsl, .nilsl, .int .i64 0, .nilsl, .int .i64 0, .bool false, .int .i64 0, .int .i64 0, .int .i64 0, .int .i64 0, .bool false, .nilsl], true, false⟩, ⟨6, rows w.s.regs, true, false⟩, ⟨6, rows w.s.mem.words, true, false⟩, ⟨1, rows w.s.mem.gone, true, false⟩, ⟨40, rows w.rob, true, false⟩, ⟨1, ints w.guesses, true, false⟩, ⟨19, w.own 2 3 4 5 6, true, false⟩]) (fun H0 σ G => ∃ (w : Cor), (w = doAll 7 0 u) ∧ (w.fit) ∧ (w.rob.length ≤ 6) ∧ (liveE [4, 6, 7, 8] σ ρ) ∧ G = [⟨19, c.cells, true, false⟩, ⟨19, [.nilsl, .int .i64 0, .bool false, .int .i64 0, .int .i64 0, .int .i64 0, .int .i64 0, .nilsl, .nilsl, .int .i64 0, .nilsl, .int .i64 0, .bool false, .int .i64 0, .int .i64 0, .int .i64 0, .int .i64 0, .bool false, .nilsl], true, false⟩, ⟨6, rows w.s.regs, true, false⟩, ⟨6, rows w.s.mem.words, true, false⟩, ⟨1, rows w.s.mem.gone, true, false⟩, ⟨40, rows w.rob, true, false⟩, ⟨1, ints w.guesses, true, false⟩, ⟨19, w.own 2 3 4 5 6, true, false⟩]) ((fun (w : Cor) (i : Nat) => 7 - i) u  0) ?init2 (fun n ρ G hI => ?round2) (fun ρ G hJ => ?after2)
      case init2 => exact ⟨u, 0, rfl, (Nat.zero_le _), (i1_1), (i1_2), (rfl), ⟨liveE_refl _ _, (hL.2.2.2.2)⟩, rfl⟩
      case round2 =>
       clear hL
       obtain ⟨w, i, hn, i2_0, i2_1, i2_2, i2_3, hL, hG⟩ := hI
       subst hG
       try simp only [go_sem, simprocAttr, e2, hX] at hL
       revert ρ hL
       refine zS [4, 6, 7, 8, 9, 32] ?_
       refine zC ?_ ?_
       · intro c3
         intro ρ hL
         refine awl_skip ?_
         refine awl_seq ?_
         refine awl_block fun R2 hw2 hR2 => ?_
         revert ρ hL
         refine zSF [4, 6, 7, 8, 9] (sat_spec_Do w (i : Int) i2_1) ?_
         intro ρ hL
         refine awl_nil ?_
         refine blk_normal (hR2 _ _ (.mk ?_))
         have wi : IntKind.i64.wrap ((i : Int) + 1) = ((i + 1 : Nat) : Int) := by rw [wrap64 (by omega)]; omega
         have hX0 := hX
         replace hX := And.intro wi hX
         revert ρ hL
         refine zS [4, 6, 7, 8, 9] ?_
         clear hX
         have hX := hX0
         clear hX0
         intro ρ hL
         refine awl_nil ?_
         refine loop_againW (Wk.keep [0, 1, 8, 9, 10, 11, 12, 7] rfl) _ ?meas ⟨(do_ w (i : Int)).1, (i + 1), rfl, (by omega), (by exact do_fit i2_1), (by exact Nat.le_trans do_len i2_2), (by rw [← i2_3, all_step (by omega) i2_2]), ⟨(by simp only [go_sem, simprocAttr, hL, hX, e2]), (by simp only [go_sem, simprocAttr, hL, hX, e2]; first | done | rfl)⟩, (by simp only [go_sem, simprocAttr, hL, hX, e2]; first | done | rfl)⟩
         case meas => subst hn; omega
       · intro c3
         intro ρ hL
         refine awl_exit ?_
         refine loop_break ?_
         exact ⟨w, (by rw [← i2_3, all_stop (by omega)]), (by exact i2_1), (by exact i2_2), (by simp only [go_sem, simprocAttr, hL, hX, e2]), rfl⟩
      case after2 =>
       clear hL
       obtain ⟨w, j2_0, j2_1, j2_2, hL, hG⟩ := hJ
       subst hG
       try simp only [go_sem, simprocAttr, e2, hX] at hL
       revert ρ hL
       refine zSF [4, 6, 7, 8, 10, 11] (sat_spec_Commit w j2_1) ?_
       refine zS [4, 6, 7, 8, 11] ?_
       refine zS [4, 6, 7, 8, 47] ?_
       refine zC ?_ ?_
       · intro c4
         have wm : IntKind.i64.wrap (m + 1) = m + 1 := wrap64 (by omega)
         have hX0 := hX
         replace hX := And.intro wm hX
         refine zS [4, 6, 7, 8] ?_
         clear hX
         have hX := hX0
         clear hX0
         intro ρ hL
         refine awl_nil ?_
         refine blk_normal (hR1 _ _ (.mk ?_))
         have wk : IntKind.i64.wrap ((k : Int) + 1) = ((k + 1 : Nat) : Int) := by rw [wrap64 (by omega)]; omega
         have hX0 := hX
         replace hX := And.intro wk hX
         revert ρ hL
         refine zS [4, 6, 7, 8] ?_
         clear hX
         have hX := hX0
         clear hX0
         intro ρ hL
         refine awl_nil ?_
         refine loop_againW (Wk.keep [0, 1, 8, 9, 10, 11, 12, 7] rfl) _ ?meas ⟨(commit w).1, (k + 1), (m + 1), rfl, (by omega), (by exact commit_fit j2_1), (by exact Nat.le_trans commit_len j2_2), (by omega), (by omega), (by rw [← i1_5, set_on (by omega) (by omega) j2_0 c4]), ⟨(by simp only [go_sem, simprocAttr, hL, hX, e1]), (by simp only [go_sem, simprocAttr, hL, hX, e1]; first | done | rfl), (by simp only [go_sem, simprocAttr, hL, hX, e1]; first | done | rfl)⟩, (by simp only [go_sem, simprocAttr, hL, hX, e1]; first | done | rfl)⟩
         case meas => subst hn; omega
       · intro c4
         intro ρ hL
         refine awl_skip ?_
         refine awl_nil ?_
         refine blk_normal (hR1 _ _ (.mk ?_))
         have wk : IntKind.i64.wrap ((k : Int) + 1) = ((k + 1 : Nat) : Int) := by rw [wrap64 (by omega)]; omega
         have hX0 := hX
         replace hX := And.intro wk hX
         revert ρ hL
         refine zS [4, 6, 7, 8] ?_
         clear hX
         have hX := hX0
         clear hX0
         intro ρ hL
         refine awl_nil ?_
         refine loop_againW (Wk.keep [0, 1, 8, 9, 10, 11, 12, 7] rfl) _ ?meas ⟨(commit w).1, (k + 1), m, rfl, (by omega), (by exact commit_fit j2_1), (by exact Nat.le_trans commit_len j2_2), (by omega), (by omega), (by rw [← i1_5, set_off (by omega) (by omega) j2_0 c4]), ⟨(by simp only [go_sem, simprocAttr, hL, hX, e1]), (by simp only [go_sem, simprocAttr, hL, hX, e1]; first | done | rfl), (by simp only [go_sem, simprocAttr, hL, hX, e1]; first | done | rfl)⟩, (by simp only [go_sem, simprocAttr, hL, hX, e1]; first | done | rfl)⟩
         case meas => subst hn; omega
    · intro c2
      intro ρ hL
      refine awl_exit ?_
      refine loop_break ?_
      exact ⟨u, m, (by rw [← i1_5]; exact set_stop (by omega)), ⟨(by simp only [go_sem, simprocAttr, hL, hX, e1]), (hL.2.2.1)⟩, rfl⟩
   case after1 =>
    clear hL
    obtain ⟨u, m, j1_0, hL, hG⟩ := hJ
    subst hG
    try simp only [go_sem, simprocAttr, e1, hX] at hL
    revert ρ hL
    refine zS [4, 5] ?_
    refine zK [2, 3, 4, 5, 6] [2, 3, 4, 5, 6] ?_ ?_
    all_goals try simp only [go_sem, simprocAttr, hX]
    all_goals try clear hR1
    all_goals try clear hR2
    all_goals (rw [settle_go c1, j1_0] <;> rfl)
theorem sat_impl_Settle (l : List Ins) (c : Cor) (hf : c.fit) : Sat Tryz.prog 26 [.sl l.length l.length (rows l), .agg c.cells] [] (.tuple [.agg ((settle c).1.own 0 1 2 3 4), .int .i64 (settle c).2]) (settle c).1.blks := by
 have hX := trivial
 refine sat_mk [.cell 4 37, .tmp 5] 0 52 Tryz.call26 Tryz.func26 Tryz.ntmps26 rfl rfl rfl rfl rfl ?_
 refine zI [1] ?_
 refine zS [3, 4] ?_
 refine zSF [3, 4, 14] (sat_impl_CoreOk c hf) ?_
 refine zC ?_ ?_
 · intro c1
   refine zS [4, 5] ?_
   intro ρ hL
   refine awl_ret ?_
   refine retN (v := .tuple [.agg [.nilsl, .int .i64 0, .bool false, .int .i64 0, .int .i64 0, .int .i64 0, .int .i64 0, .nilsl, .nilsl, .int .i64 0, .nilsl, .int .i64 0, .bool false, .int .i64 0, .int .i64 0, .int .i64 0, .int .i64 0, .bool false, .nilsl], .int .i64 0]) [6, 6, 1, 40, 1] [2, 3, 4, 5, 6] [2, 3, 4, 5, 6] rfl (by simp only [go_sem, simprocAttr, hL, hX]; exact rfl) (by first | rfl | (simp only [go_sem, simprocAttr, hL, hX]; first | done | rfl)) (Ref.tuple (RefL.cons (Ref.agg (RefL.cons (Ref.nil 2 ⟨Nat.le_of_ble_eq_true rfl, Nat.le_of_ble_eq_true rfl⟩) (RefL.cons (Ref.refl _) (RefL.cons (Ref.refl _) (RefL.cons (Ref.refl _) (RefL.cons (Ref.refl _) (RefL.cons (Ref.refl _) (RefL.cons (Ref.refl _) (RefL.cons (Ref.nil 3 ⟨Nat.le_of_ble_eq_true rfl, Nat.le_of_ble_eq_true rfl⟩) (RefL.cons (Ref.nil 4 ⟨Nat.le_of_ble_eq_true rfl, Nat.le_of_ble_eq_true rfl⟩) (RefL.cons (Ref.refl _) (RefL.cons (Ref.nil 5 ⟨Nat.le_of_ble_eq_true rfl, Nat.le_of_ble_eq_true rfl⟩) (RefL.cons (Ref.refl _) (RefL.cons (Ref.refl _) (RefL.cons (Ref.refl _) (RefL.cons (Ref.refl _) (RefL.cons (Ref.refl _) (RefL.cons (Ref.refl _) (RefL.cons (Ref.refl _) (RefL.cons (Ref.nil 6 ⟨Nat.le_of_ble_eq_true rfl, Nat.le_of_ble_eq_true rfl⟩) (RefL.same []))))))))))))))))))))) (RefL.same _))) rfl (by decide) rfl rfl ?_ ?_
   all_goals try simp only [go_sem, simprocAttr, hL, hX]
   all_goals (rw [settle_no c1] <;> rfl)
 · intro c1
   intro ρ hL
   refine awl_skip ?_
   revert ρ hL
   refine zSF [4, 6] (sat_impl_cloneCore c hf) ?_
   refine zS [4, 6, 7] ?_
   refine zS [4, 6, 7, 8] ?_
   intro ρ hL
   have e1 := hL
   refine awl_loopH (fun H0 n σ G => ∃ (u : Cor) (k : Nat) (m : Int), n = 600 - k ∧ (k ≤ 600) ∧ (u.fit) ∧ (u.rob.length ≤ 6) ∧ (0 ≤ m) ∧ (m ≤ k) ∧ (settleGo (600 - k) u m = settleGo 600 c 0) ∧ (liveE [4, 6] σ ρ ∧ σ 7 = .int .i64 m ∧ σ 8 = .int .i64 (k : Int)) ∧ G = [⟨19, c.cells, true, false⟩, ⟨19, [.nilsl, .int .i64 0, .bool false, .int .i64 0, .int .i64 0, .int .i64 0, .int .i64 0, .nilsl, .nilsl, .int .i64 0, .nilsl, .int .i64 0, .bool false, .int .i64 0, .int .i64 0, .int .i64 0, .int .i64 0, .bool false, .nilsl], true, false⟩, ⟨6, rows u.s.regs, true, false⟩, ⟨6, rows u.s.mem.words, true, false⟩, ⟨1, rows u.s.mem.gone, true, false⟩, ⟨40, rows u.rob, true, false⟩, ⟨1, ints u.guesses, true, false⟩, ⟨19, u.own 2 3 4 5 6, true, false⟩]) (fun H0 σ G => ∃ (u : Cor) (m : Int), (settleGo 600 c 0 = (u, m)) ∧ (liveE [4, 6] σ ρ ∧ σ 7 = .int .i64 m) ∧ G = [⟨19, c.cells, true, false⟩, ⟨19, [.nilsl, .int .i64 0, .bool false, .int .i64 0, .int .i64 0, .int .i64 0, .int .i64 0, .nilsl, .nilsl, .int .i64 0, .nilsl, .int .i64 0, .bool false, .int .i64 0, .int .i64 0, .int .i64 0, .int .i64 0, .bool false, .nilsl], true, false⟩, ⟨6, rows u.s.regs, true, false⟩, ⟨6, rows u.s.mem.words, true, false⟩, ⟨1, rows u.s.mem.gone, true, false⟩, ⟨40, rows u.rob, true, false⟩, ⟨1, ints u.guesses, true, false⟩, ⟨19, u.own 2 3 4 5 6, true, false⟩]) ((fun (u : Cor) (k : Nat) (m : Int) => 600 - k) c  0  0) ?init1 (fun n ρ G hI => ?round1) (fun ρ G hJ => ?after1)
   case init1 => exact ⟨c, 0, 0, rfl, (Nat.zero_le _), (hf), ((corOk_parts c1).2.2.1), (Int.le_refl _), (Int.le_refl _), (rfl), ⟨liveE_refl _ _, (hL.2.2.1), (hL.2.2.2)⟩, rfl⟩
   case round1 =>
    clear hL
    obtain ⟨u, k, m, hn, i1_0, i1_1, i1_2, i1_3, i1_4, i1_5, hL, hG⟩ := hI
    subst hG
    try simp only [go_sem, simprocAttr, e1, hX] at hL
    refine zA ?_
    intro K hK
    refine zL [4, 6, 7, 8, 20] ?_
    clear hL
    intro ρ hL
    refine grp_andN (tc := 20) (tv := 24) (td := 25) (v := ?v1) 4 rfl [4, 6, 7, 8] hL.2.2.2.2 rfl (fun hb K1 hK1 => ?run) (fun hb => ?skip) (fun ρ hP hM => ?_)
    case skip => exact skA (want := true) (b := _) (by rw [hb]; rfl) hL.2.2.2.2 rfl
    case run =>
     simp only [List.take_succ_cons, List.take_zero]
     rw [hb] at hL
     try simp only [go_sem, simprocAttr, hL, hX]
     repeat' refine And.intro (by first | rfl | omega | (simp; done)) ?_
     refine hK1 _ ?_ ?_ ?_ <;> simp only [go_sem, simprocAttr, hL, hX] <;> exact rfl
    simp only [List.drop_succ_cons, List.drop_zero]
    try simp only [go_sem, simprocAttr, hL, hX] at hM
    replace hL := And.intro hP hM
    clear hP hM
    try simp only [go_sem, simprocAttr, hL, hX]
    repeat' refine And.intro (by first | rfl | omega | (simp; done)) ?_
    refine zE [4, 6, 7, 8, 25] ?_
    clear hK K hL
    refine zC ?_ ?_
    · intro c2
      intro ρ hL
      refine awl_skip ?_
      refine awl_seq ?_
      refine awl_block fun R1 hw1 hR1 => ?_
      revert ρ hL
      refine zS [4, 6, 7, 8, 9] ?_
      intro ρ hL
      have e2 := hL
      refine awl_loopH (fun H0 n σ G => ∃ (w : Cor) (i : Nat), n = 7 - i ∧ (i ≤ 7) ∧ (w.fit) ∧ (w.rob.length ≤ 6) ∧ (doAll (7 - i) i w = doAll 7 0 u) ∧ (liveE [4, 6, 7, 8] σ ρ ∧ σ 9 = .int .i64 (i : Int)) ∧ G = [⟨19, c.cells, true, false⟩, ⟨19, [.nilsl, .int .i64 0, .bool false, .int .i64 0, .int .i64 0, .int .i64 0, .int .i64 0, .nilsl, .nilsl, .int .i64 0, .nilsl, .int .i64 0, .bool false, .int .i64 0, .int .i64 0, .int .i64 0, .int .i64 0, .bool false, .nilsl], true, false⟩, ⟨6, rows w.s.regs, true, false⟩, ⟨6, rows w.s.mem.words, true, false⟩, ⟨1, rows w.s.mem.gone, true, false⟩, ⟨40, rows w.rob, true, false⟩, ⟨1, ints w.guesses, true, false⟩, ⟨19, w.own 2 3 4 5 6, true, false⟩]) (fun H0 σ G => ∃ (w : Cor), (w = doAll 7 0 u) ∧ (w.fit) ∧ (w.rob.length ≤ 6) ∧ (liveE [4, 6, 7, 8] σ ρ) ∧ G = [⟨19, c.cells, true, false⟩, ⟨19, [.nilsl, .int .i64 0, .bool false, .int .i64 0, .int .i64 0, .int .i64 0, .int .i64 0, .nilsl, .nilsl, .int .i64 0, .nilsl, .int .i64 0, .bool false, .int .i64 0, .int .i64 0, .int .i64 0, .int .i64 0, .bool false, .nilsl], true, false⟩, ⟨6, rows w.s.regs, true, false⟩, ⟨6, rows w.s.mem.words, true, false⟩, ⟨1, rows w.s.mem.gone, true, false⟩, ⟨40, rows w.rob, true, false⟩, ⟨1, ints w.guesses, true, false⟩, ⟨19, w.own 2 3 4 5 6, true, false⟩]) ((fun (w : Cor) (i : Nat) => 7 - i) u  0) ?init2 (fun n ρ G hI => ?round2) (fun ρ G hJ => ?after2)
      case init2 => exact ⟨u, 0, rfl, (Nat.zero_le _), (i1_1), (i1_2), (rfl), ⟨liveE_refl _ _, (hL.2.2.2.2)⟩, rfl⟩
      case round2 =>
       clear hL
       obtain ⟨w, i, hn, i2_0, i2_1, i2_2, i2_3, hL, hG⟩ := hI
       subst hG
       try simp only [go_sem, simprocAttr, e2, hX] at hL
       revert ρ hL
       refine zS [4, 6, 7, 8, 9, 32] ?_
       refine zC ?_ ?_
       · intro c3
         intro ρ hL
         refine awl_skip ?_
         refine awl_seq ?_
         refine awl_block fun R2 hw2 hR2 => ?_
         revert ρ hL
         refine zSF [4, 6, 7, 8, 9] (sat_impl_Do w (i : Int) i2_1) ?_
         intro ρ hL
         refine awl_nil ?_
         refine blk_normal (hR2 _ _ (.mk ?_))
         have wi : IntKind.i64.wrap ((i : Int) + 1) = ((i + 1 : Nat) : Int) := by rw [wrap64 (by omega)]; omega
         have hX0 := hX
         replace hX := And.intro wi hX
         revert ρ hL
         refine zS [4, 6, 7, 8, 9] ?_
         clear hX
         have hX := hX0
         clear hX0
         intro ρ hL
         refine awl_nil ?_
         refine loop_againW (Wk.keep [0, 1, 8, 9, 10, 11, 12, 7] rfl) _ ?meas ⟨(do_ w (i : Int)).1, (i + 1), rfl, (by omega), (by exact do_fit i2_1), (by exact Nat.le_trans do_len i2_2), (by rw [← i2_3, all_step (by omega) i2_2]), ⟨(by simp only [go_sem, simprocAttr, hL, hX, e2]), (by simp only [go_sem, simprocAttr, hL, hX, e2]; first | done | rfl)⟩, (by simp only [go_sem, simprocAttr, hL, hX, e2]; first | done | rfl)⟩
         case meas => subst hn; omega
       · intro c3
         intro ρ hL
         refine awl_exit ?_
         refine loop_break ?_
         exact ⟨w, (by rw [← i2_3, all_stop (by omega)]), (by exact i2_1), (by exact i2_2), (by simp only [go_sem, simprocAttr, hL, hX, e2]), rfl⟩
      case after2 =>
       clear hL
       obtain ⟨w, j2_0, j2_1, j2_2, hL, hG⟩ := hJ
       subst hG
       try simp only [go_sem, simprocAttr, e2, hX] at hL
       revert ρ hL
       refine zSF [4, 6, 7, 8, 10, 11] (sat_impl_Commit w j2_1) ?_
       refine zS [4, 6, 7, 8, 11] ?_
       refine zS [4, 6, 7, 8, 47] ?_
       refine zC ?_ ?_
       · intro c4
         have wm : IntKind.i64.wrap (m + 1) = m + 1 := wrap64 (by omega)
         have hX0 := hX
         replace hX := And.intro wm hX
         refine zS [4, 6, 7, 8] ?_
         clear hX
         have hX := hX0
         clear hX0
         intro ρ hL
         refine awl_nil ?_
         refine blk_normal (hR1 _ _ (.mk ?_))
         have wk : IntKind.i64.wrap ((k : Int) + 1) = ((k + 1 : Nat) : Int) := by rw [wrap64 (by omega)]; omega
         have hX0 := hX
         replace hX := And.intro wk hX
         revert ρ hL
         refine zS [4, 6, 7, 8] ?_
         clear hX
         have hX := hX0
         clear hX0
         intro ρ hL
         refine awl_nil ?_
         refine loop_againW (Wk.keep [0, 1, 8, 9, 10, 11, 12, 7] rfl) _ ?meas ⟨(commit w).1, (k + 1), (m + 1), rfl, (by omega), (by exact commit_fit j2_1), (by exact Nat.le_trans commit_len j2_2), (by omega), (by omega), (by rw [← i1_5, set_on (by omega) (by omega) j2_0 c4]), ⟨(by simp only [go_sem, simprocAttr, hL, hX, e1]), (by simp only [go_sem, simprocAttr, hL, hX, e1]; first | done | rfl), (by simp only [go_sem, simprocAttr, hL, hX, e1]; first | done | rfl)⟩, (by simp only [go_sem, simprocAttr, hL, hX, e1]; first | done | rfl)⟩
         case meas => subst hn; omega
       · intro c4
         intro ρ hL
         refine awl_skip ?_
         refine awl_nil ?_
         refine blk_normal (hR1 _ _ (.mk ?_))
         have wk : IntKind.i64.wrap ((k : Int) + 1) = ((k + 1 : Nat) : Int) := by rw [wrap64 (by omega)]; omega
         have hX0 := hX
         replace hX := And.intro wk hX
         revert ρ hL
         refine zS [4, 6, 7, 8] ?_
         clear hX
         have hX := hX0
         clear hX0
         intro ρ hL
         refine awl_nil ?_
         refine loop_againW (Wk.keep [0, 1, 8, 9, 10, 11, 12, 7] rfl) _ ?meas ⟨(commit w).1, (k + 1), m, rfl, (by omega), (by exact commit_fit j2_1), (by exact Nat.le_trans commit_len j2_2), (by omega), (by omega), (by rw [← i1_5, set_off (by omega) (by omega) j2_0 c4]), ⟨(by simp only [go_sem, simprocAttr, hL, hX, e1]), (by simp only [go_sem, simprocAttr, hL, hX, e1]; first | done | rfl), (by simp only [go_sem, simprocAttr, hL, hX, e1]; first | done | rfl)⟩, (by simp only [go_sem, simprocAttr, hL, hX, e1]; first | done | rfl)⟩
         case meas => subst hn; omega
    · intro c2
      intro ρ hL
      refine awl_exit ?_
      refine loop_break ?_
      exact ⟨u, m, (by rw [← i1_5]; exact set_stop (by omega)), ⟨(by simp only [go_sem, simprocAttr, hL, hX, e1]), (hL.2.2.1)⟩, rfl⟩
   case after1 =>
    clear hL
    obtain ⟨u, m, j1_0, hL, hG⟩ := hJ
    subst hG
    try simp only [go_sem, simprocAttr, e1, hX] at hL
    revert ρ hL
    refine zS [4, 5] ?_
    refine zK [2, 3, 4, 5, 6] [2, 3, 4, 5, 6] ?_ ?_
    all_goals try simp only [go_sem, simprocAttr, hX]
    all_goals try clear hR1
    all_goals try clear hR2
    all_goals (rw [settle_go c1, j1_0] <;> rfl)
theorem sat_spec_l16Number (p : Pik)  : Sat Tryz.prog 111 [.agg p.cells] [] (.tuple [.int .i64 (numS p), .bool (isN p)]) [] := by
 have hX := trivial
 refine sat_mk [.tmp 2, .tmp 3] 0 12 Tryz.call111 Tryz.func111 Tryz.ntmps111 rfl rfl rfl rfl rfl ?_
 refine zI [0] ?_
 refine zS [1] ?_
 refine zS [1, 6] ?_
 refine zC ?_ ?_
 · intro c1
   refine zS [2, 3] ?_
   refine zR ?_
   try simp only [go_sem, simprocAttr]
   all_goals (simp [numS, isN, c1])
 · intro c1
   intro ρ hL
   refine awl_skip ?_
   revert ρ hL
   refine zD [0, 1, 3, 0, 15] [2, 3] ?_
   refine zR ?_
   try simp only [go_sem, simprocAttr]
   all_goals (simp [numS, isN, c1])
theorem sat_impl_noted (p : Pik)  : Sat Tryz.prog 110 [.agg p.cells] [] (.tuple [.int .i64 (numI p), .bool (isN p)]) [] := by
 have hX := trivial
 refine sat_mk [.tmp 2, .tmp 3] 0 12 Tryz.call110 Tryz.func110 Tryz.ntmps110 rfl rfl rfl rfl rfl ?_
 refine zI [0] ?_
 refine zS [1] ?_
 refine zS [1, 5] ?_
 intro ρ hL
 refine awl_block fun R1 hw1 hR1 => ?_
 revert ρ hL
 refine zS [1, 5, 6] ?_
 refine zC ?_ ?_
 · intro c1
   refine zS [2, 3] ?_
   refine zR ?_
   try simp only [go_sem, simprocAttr]
   all_goals try clear hR1
   all_goals (simp [numI, isN, c1])
 · intro c1
   refine zS [1, 8] ?_
   refine zC ?_ ?_
   · intro c2
     refine zS [2, 3] ?_
     refine zR ?_
     try simp only [go_sem, simprocAttr]
     all_goals try clear hR1
     all_goals (simp [numI, isN, c1, c2])
   · intro c2
     intro ρ hL
     refine awl_skip ?_
     refine awl_nil ?_
     refine blk_normal (hR1 _ _ (.mk ?_))
     revert ρ hL
     refine zS [2, 3] ?_
     refine zR ?_
     try simp only [go_sem, simprocAttr]
     all_goals try clear hR1
     all_goals (simp [numI, isN, c1, c2])
theorem sat_spec_CoreRun (l : List Ins) (s : Stt) (ps : List Pik) (hl : l.length ≤ 1048576) (hf : s.fit) (hp_ : ps.length ≤ 1048576) : Sat Tryz.prog 33 [.sl l.length l.length (rows l), .agg s.cells, .sl ps.length ps.length (rows ps)] [] (.tuple [.agg ((corRun l s ps).1.own 0 1 2 3 4), .slice 5 0 (corRun l s ps).2.length 0]) ((corRun l s ps).1.blks ++ [⟨1, ints (corRun l s ps).2, true, false⟩]) := by
 have hX := trivial
 refine sat_mk [.cell 6 37, .tmp 7] 0 63 Tryz.call33 Tryz.func33 Tryz.ntmps33 rfl rfl rfl rfl rfl ?_
 refine zI [0, 1, 2] ?_
 refine zS [0, 2, 4, 6] ?_
 refine zS [0, 2, 4, 6, 8] ?_
 intro ρ hL
 refine zA ?_
 intro K hK
 refine zL [0, 2, 4, 6, 8, 19] ?_
 clear hL
 intro ρ hL
 refine grp_orN (tc := 19) (tv := 22) (td := 23) (v := ?v1) 3 rfl [0, 2, 4, 6, 8] hL.2.2.2.2.2 rfl (fun hb K1 hK1 => ?run) (fun hb => ?skip) (fun ρ hP hM => ?_)
 case skip => exact skA (want := false) (b := _) (by rw [hb]; rfl) hL.2.2.2.2.2 rfl
 case run =>
  simp only [List.take_succ_cons, List.take_zero]
  rw [hb] at hL
  try simp only [go_sem, simprocAttr, hL, hX]
  repeat' refine And.intro (by first | rfl | omega | (simp; done)) ?_
  refine zF (sat_spec_StateOk s hf) ?_
  refine hK1 _ ?_ ?_ ?_ <;> simp only [go_sem, simprocAttr, hL, hX] <;> exact rfl
 simp only [List.drop_succ_cons, List.drop_zero]
 try simp only [go_sem, simprocAttr, hL, hX] at hM
 replace hL := And.intro hP hM
 clear hP hM
 try simp only [go_sem, simprocAttr, hL, hX]
 repeat' refine And.intro (by first | rfl | omega | (simp; done)) ?_
 refine zE [0, 2, 4, 6, 8, 23] ?_
 clear hK K hL
 refine zC ?_ ?_
 · intro c1
   refine zS [6, 7] ?_
   intro ρ hL
   refine awl_ret ?_
   refine retN (v := .tuple [.agg [.nilsl, .int .i64 0, .bool false, .int .i64 0, .int .i64 0, .int .i64 0, .int .i64 0, .nilsl, .nilsl, .int .i64 0, .nilsl, .int .i64 0, .bool false, .int .i64 0, .int .i64 0, .int .i64 0, .int .i64 0, .bool false, .nilsl], .esl]) [6, 6, 1, 40, 1, 1] [2, 3, 4, 5, 6, 7] [2, 3, 4, 5, 6, 7] rfl (by simp only [go_sem, simprocAttr, hL, hX]; exact rfl) (by first | rfl | (simp only [go_sem, simprocAttr, hL, hX]; first | done | rfl)) (Ref.tuple (RefL.cons (Ref.agg (RefL.cons (Ref.nil 2 ⟨Nat.le_of_ble_eq_true rfl, Nat.le_of_ble_eq_true rfl⟩) (RefL.cons (Ref.refl _) (RefL.cons (Ref.refl _) (RefL.cons (Ref.refl _) (RefL.cons (Ref.refl _) (RefL.cons (Ref.refl _) (RefL.cons (Ref.refl _) (RefL.cons (Ref.nil 3 ⟨Nat.le_of_ble_eq_true rfl, Nat.le_of_ble_eq_true rfl⟩) (RefL.cons (Ref.nil 4 ⟨Nat.le_of_ble_eq_true rfl, Nat.le_of_ble_eq_true rfl⟩) (RefL.cons (Ref.refl _) (RefL.cons (Ref.nil 5 ⟨Nat.le_of_ble_eq_true rfl, Nat.le_of_ble_eq_true rfl⟩) (RefL.cons (Ref.refl _) (RefL.cons (Ref.refl _) (RefL.cons (Ref.refl _) (RefL.cons (Ref.refl _) (RefL.cons (Ref.refl _) (RefL.cons (Ref.refl _) (RefL.cons (Ref.refl _) (RefL.cons (Ref.nil 6 ⟨Nat.le_of_ble_eq_true rfl, Nat.le_of_ble_eq_true rfl⟩) (RefL.same []))))))))))))))))))))) (RefL.cons (Ref.esl 7 ⟨Nat.le_of_ble_eq_true rfl, Nat.le_of_ble_eq_true rfl⟩) (RefL.same [])))) rfl (by decide) rfl rfl ?_ ?_
   all_goals try simp only [go_sem, simprocAttr, hL, hX]
   all_goals (rw [runC_no (c1.imp (fun h => by omega) id)] <;> rfl)
 · intro c1
   intro ρ hL
   refine awl_skip ?_
   have hgo : ¬ (600 < ps.length ∨ sttOk s = false) := fun h => h.elim (fun h => by omega) (fun h => by rw [c1.2] at h; cases h)
   revert ρ hL
   refine zSF [0, 2, 6, 8, 9] (sat_spec_CoreNew s hf) ?_
   intro ρ hL
   refine zA ?_
   intro K hK
   have h8 := hL.2.2.2.1
   refine hK _ _ ⟨_, _, (Wk.norm [1] (RefE.refl.upd (t := 8) (by simp only [go_sem, simprocAttr, h8]; first | done | rfl) (Ref.esl 8 ⟨Nat.le_refl _, Nat.lt_succ_self _⟩))), awl_live' [0, 2, 6, 8, 9, 10] fun ρ hM => ?_⟩
   try simp only [go_sem, simprocAttr, hL, hX] at hM
   clear hK K h8 hL
   try simp only [go_sem, simprocAttr]
   revert ρ hM
   intro ρ hL
   have e1 := hL
   refine awl_loopH (fun H0 n σ G => ∃ (u : Cor) (o : List Int) (i : Nat), n = ps.length - i ∧ (i ≤ ps.length) ∧ (u.fit) ∧ (o.length ≤ i) ∧ ((ps.take i).foldl (corStep l) (corNew s, []) = (u, o)) ∧ (liveE [0, 2, 6, 9] σ ρ ∧ σ 8 = .slice 8 0 o.length 0 ∧ σ 10 = .int .i64 (i : Int)) ∧ G = [⟨10, s.cells, true, false⟩, ⟨19, [.nilsl, .int .i64 0, .bool false, .int .i64 0, .int .i64 0, .int .i64 0, .int .i64 0, .nilsl, .nilsl, .int .i64 0, .nilsl, .int .i64 0, .bool false, .int .i64 0, .int .i64 0, .int .i64 0, .int .i64 0, .bool false, .nilsl], true, false⟩, ⟨6, rows u.s.regs, true, false⟩, ⟨6, rows u.s.mem.words, true, false⟩, ⟨1, rows u.s.mem.gone, true, false⟩, ⟨40, rows u.rob, true, false⟩, ⟨1, ints u.guesses, true, false⟩, ⟨19, u.own 2 3 4 5 6, true, false⟩, ⟨1, ints o, true, false⟩]) (fun H0 σ G => ∃ (u : Cor) (o : List Int), (corRun l s ps = (u, o)) ∧ (liveE [6, 9] σ ρ ∧ σ 8 = .slice 8 0 o.length 0) ∧ G = [⟨10, s.cells, true, false⟩, ⟨19, [.nilsl, .int .i64 0, .bool false, .int .i64 0, .int .i64 0, .int .i64 0, .int .i64 0, .nilsl, .nilsl, .int .i64 0, .nilsl, .int .i64 0, .bool false, .int .i64 0, .int .i64 0, .int .i64 0, .int .i64 0, .bool false, .nilsl], true, false⟩, ⟨6, rows u.s.regs, true, false⟩, ⟨6, rows u.s.mem.words, true, false⟩, ⟨1, rows u.s.mem.gone, true, false⟩, ⟨40, rows u.rob, true, false⟩, ⟨1, ints u.guesses, true, false⟩, ⟨19, u.own 2 3 4 5 6, true, false⟩, ⟨1, ints o, true, false⟩]) ((fun (u : Cor) (o : List Int) (i : Nat) => ps.length - i) (corNew s)  []  0) ?init1 (fun n ρ G hI => ?round1) (fun ρ G hJ => ?after1)
   case init1 => exact ⟨(corNew s), [], 0, rfl, (Nat.zero_le _), (corNew_fit hf), (Nat.le_refl _), (rfl), ⟨liveE_refl _ _, (hL.2.2.2.1), (hL.2.2.2.2.2)⟩, rfl⟩
   case round1 =>
    clear hL
    obtain ⟨u, o, i, hn, i1_0, i1_1, i1_2, i1_3, hL, hG⟩ := hI
    subst hG
    try simp only [go_sem, simprocAttr, e1, hX] at hL
    revert ρ hL
    refine zS [0, 2, 6, 8, 9, 10, 31] ?_
    refine zC ?_ ?_
    · intro c2
      have hi1 : i < ps.length := by omega
      replace hX := And.intro hi1 hX
      intro ρ hL
      refine awl_skip ?_
      refine awl_seq ?_
      refine awl_block fun R1 hw1 hR1 => ?_
      refine zAD [0, 0, 0, 0, 12, 28, 63, 127, 255, 255, 0, 1535, 4095] ?_
      intro K hK
      refine zFD [0, 0, 0, 0, 12, 28, 63, 127, 255, 255, 0, 1535, 4095] (sat_spec_CorePick l u (ps.getD i noPik) hl i1_1) ?_
      refine zE [0, 2, 6, 8, 9, 10, 11, 12] ?_
      clear hK K hL
      refine zS [0, 2, 6, 8, 9, 10, 12] ?_
      refine zSF [0, 2, 6, 8, 9, 10, 12, 13, 14] (sat_spec_l16Number (ps.getD i noPik)) ?_
      intro ρ hL
      refine zA ?_
      intro K hK
      refine zL [0, 2, 6, 8, 9, 10, 13, 14, 54] ?_
      clear hL
      intro ρ hL
      refine grp_andN (tc := 54) (tv := 55) (td := 56) (v := ?v2) 1 rfl [0, 2, 6, 8, 9, 10, 13] hL.2.2.2.2.2.2.2.2 rfl (fun hb K1 hK1 => ?run) (fun hb => ?skip) (fun ρ hP hM => ?_)
      case skip => exact skA (want := true) (b := _) (by rw [hb]; rfl) hL.2.2.2.2.2.2.2.2 rfl
      case run =>
       simp only [List.take_succ_cons, List.take_zero]
       rw [hb] at hL
       try simp only [go_sem, simprocAttr, hL, hX]
       repeat' refine And.intro (by first | rfl | omega | (simp; done)) ?_
       refine hK1 _ ?_ ?_ ?_ <;> simp only [go_sem, simprocAttr, hL, hX] <;> exact rfl
      simp only [List.drop_succ_cons, List.drop_zero]
      try simp only [go_sem, simprocAttr, hL, hX] at hM
      replace hL := And.intro hP hM
      clear hP hM
      try simp only [go_sem, simprocAttr, hL, hX]
      repeat' refine And.intro (by first | rfl | omega | (simp; done)) ?_
      refine zE [0, 2, 6, 8, 9, 10, 13, 56] ?_
      clear hK K hL
      refine zC ?_ ?_
      · intro c3
        have hq1 : o.length ≤ 600 := by omega
        refine zS [0, 2, 6, 8, 9, 10] ?_
        intro ρ hL
        refine awl_nil ?_
        refine blk_normal (hR1 _ _ (.mk ?_))
        have w1 : IntKind.i64.wrap ((i : Int) + 1) = ((i + 1 : Nat) : Int) := by rw [wrap64 (by omega)]; omega
        replace hX := And.intro w1 hX
        revert ρ hL
        refine zS [0, 2, 6, 8, 9, 10] ?_
        intro ρ hL
        refine awl_nil ?_
        refine loop_againW (Wk.keep [0, 1, 9, 10, 11, 12, 13, 7, 16] rfl) _ ?meas ⟨(corPick l u (ps.getD i noPik)).1, (o ++ [numS (ps.getD i noPik)]), (i + 1), rfl, (by omega), (by exact pick_fit i1_1), (by rw [List.length_append]; simp; omega), (by rw [foldC_take hi1 i1_3, stepC_on c3.1 (noteS c3.2)]), ⟨(by simp only [go_sem, simprocAttr, hL, hX, e1]), (by simp only [go_sem, simprocAttr, hL, hX, e1]; rw [List.length_append]; rfl), (by simp only [go_sem, simprocAttr, hL, hX, e1]; first | done | rfl)⟩, (by simp only [go_sem, simprocAttr, hL, hX, e1]; rw [ints_snoc])⟩
        case meas => subst hn; omega
      · intro c3
        intro ρ hL
        refine awl_skip ?_
        refine awl_nil ?_
        refine blk_normal (hR1 _ _ (.mk ?_))
        have w1 : IntKind.i64.wrap ((i : Int) + 1) = ((i + 1 : Nat) : Int) := by rw [wrap64 (by omega)]; omega
        replace hX := And.intro w1 hX
        revert ρ hL
        refine zS [0, 2, 6, 8, 9, 10] ?_
        intro ρ hL
        refine awl_nil ?_
        refine loop_againW (Wk.keep [0, 1, 9, 10, 11, 12, 13, 7, 8] rfl) _ ?meas ⟨(corPick l u (ps.getD i noPik)).1, o, (i + 1), rfl, (by omega), (by exact pick_fit i1_1), (by omega), (by rw [foldC_take hi1 i1_3, stepC_off (c3.imp id note_off)]), ⟨(by simp only [go_sem, simprocAttr, hL, hX, e1]), (by simp only [go_sem, simprocAttr, hL, hX, e1]; first | done | rfl), (by simp only [go_sem, simprocAttr, hL, hX, e1]; first | done | rfl)⟩, (by simp only [go_sem, simprocAttr, hL, hX, e1]; first | done | rfl)⟩
        case meas => subst hn; omega
    · intro c2
      intro ρ hL
      refine awl_exit ?_
      refine loop_break ?_
      exact ⟨u, o, (by rw [runC_go hgo, ← i1_3, List.take_of_length_le (by omega)]), ⟨(by simp only [go_sem, simprocAttr, hL, hX, e1]), (hL.2.2.2.1)⟩, rfl⟩
   case after1 =>
    clear hL
    obtain ⟨u, o, j1_0, hL, hG⟩ := hJ
    subst hG
    try simp only [go_sem, simprocAttr, e1, hX] at hL
    revert ρ hL
    refine zS [6, 7] ?_
    refine zK [2, 3, 4, 5, 6, 8] [2, 3, 4, 5, 6, 8] ?_ ?_
    all_goals try simp only [go_sem, simprocAttr, hX]
    all_goals try clear hR1
    all_goals (rw [j1_0] <;> rfl)
theorem sat_impl_CoreRun (l : List Ins) (s : Stt) (ps : List Pik) (hl : l.length ≤ 1048576) (hf : s.fit) (hp_ : ps.length ≤ 1048576) : Sat Tryz.prog 32 [.sl l.length l.length (rows l), .agg s.cells, .sl ps.length ps.length (rows ps)] [] (.tuple [.agg ((corRun l s ps).1.own 0 1 2 3 4), .slice 5 0 (corRun l s ps).2.length 0]) ((corRun l s ps).1.blks ++ [⟨1, ints (corRun l s ps).2, true, false⟩]) := by
 have hX := trivial
 refine sat_mk [.cell 6 37, .tmp 7] 0 58 Tryz.call32 Tryz.func32 Tryz.ntmps32 rfl rfl rfl rfl rfl ?_
 refine zI [0, 1, 2] ?_
 refine zS [0, 2, 4, 6] ?_
 intro ρ hL
 refine zA ?_
 intro K hK
 refine zL [0, 2, 4, 6, 19] ?_
 clear hL
 intro ρ hL
 refine grp_orN (tc := 19) (tv := 22) (td := 23) (v := ?v1) 3 rfl [0, 2, 4, 6] hL.2.2.2.2 rfl (fun hb K1 hK1 => ?run) (fun hb => ?skip) (fun ρ hP hM => ?_)
 case skip => exact skA (want := false) (b := _) (by rw [hb]; rfl) hL.2.2.2.2 rfl
 case run =>
  simp only [List.take_succ_cons, List.take_zero]
  rw [hb] at hL
  try simp only [go_sem, simprocAttr, hL, hX]
  repeat' refine And.intro (by first | rfl | omega | (simp; done)) ?_
  refine zF (sat_impl_StateOk s hf) ?_
  refine hK1 _ ?_ ?_ ?_ <;> simp only [go_sem, simprocAttr, hL, hX] <;> exact rfl
 simp only [List.drop_succ_cons, List.drop_zero]
 try simp only [go_sem, simprocAttr, hL, hX] at hM
 replace hL := And.intro hP hM
 clear hP hM
 try simp only [go_sem, simprocAttr, hL, hX]
 repeat' refine And.intro (by first | rfl | omega | (simp; done)) ?_
 refine zE [0, 2, 4, 6, 23] ?_
 clear hK K hL
 refine zC ?_ ?_
 · intro c1
   refine zS [6, 7] ?_
   intro ρ hL
   refine awl_ret ?_
   refine retN (v := .tuple [.agg [.nilsl, .int .i64 0, .bool false, .int .i64 0, .int .i64 0, .int .i64 0, .int .i64 0, .nilsl, .nilsl, .int .i64 0, .nilsl, .int .i64 0, .bool false, .int .i64 0, .int .i64 0, .int .i64 0, .int .i64 0, .bool false, .nilsl], .nilsl]) [6, 6, 1, 40, 1, 1] [2, 3, 4, 5, 6, 7] [2, 3, 4, 5, 6, 7] rfl (by simp only [go_sem, simprocAttr, hL, hX]; exact rfl) (by first | rfl | (simp only [go_sem, simprocAttr, hL, hX]; first | done | rfl)) (Ref.tuple (RefL.cons (Ref.agg (RefL.cons (Ref.nil 2 ⟨Nat.le_of_ble_eq_true rfl, Nat.le_of_ble_eq_true rfl⟩) (RefL.cons (Ref.refl _) (RefL.cons (Ref.refl _) (RefL.cons (Ref.refl _) (RefL.cons (Ref.refl _) (RefL.cons (Ref.refl _) (RefL.cons (Ref.refl _) (RefL.cons (Ref.nil 3 ⟨Nat.le_of_ble_eq_true rfl, Nat.le_of_ble_eq_true rfl⟩) (RefL.cons (Ref.nil 4 ⟨Nat.le_of_ble_eq_true rfl, Nat.le_of_ble_eq_true rfl⟩) (RefL.cons (Ref.refl _) (RefL.cons (Ref.nil 5 ⟨Nat.le_of_ble_eq_true rfl, Nat.le_of_ble_eq_true rfl⟩) (RefL.cons (Ref.refl _) (RefL.cons (Ref.refl _) (RefL.cons (Ref.refl _) (RefL.cons (Ref.refl _) (RefL.cons (Ref.refl _) (RefL.cons (Ref.refl _) (RefL.cons (Ref.refl _) (RefL.cons (Ref.nil 6 ⟨Nat.le_of_ble_eq_true rfl, Nat.le_of_ble_eq_true rfl⟩) (RefL.same []))))))))))))))))))))) (RefL.cons (Ref.nil 7 ⟨Nat.le_of_ble_eq_true rfl, Nat.le_of_ble_eq_true rfl⟩) (RefL.same [])))) rfl (by decide) rfl rfl ?_ ?_
   all_goals try simp only [go_sem, simprocAttr, hL, hX]
   all_goals (rw [runC_no (c1.imp (fun h => by omega) id)] <;> rfl)
 · intro c1
   intro ρ hL
   refine awl_skip ?_
   have hgo : ¬ (600 < ps.length ∨ sttOk s = false) := fun h => h.elim (fun h => by omega) (fun h => by rw [c1.2] at h; cases h)
   revert ρ hL
   refine zSF [0, 2, 6, 8] (sat_impl_CoreNew s hf) ?_
   refine zS [0, 2, 6, 8, 9] ?_
   intro ρ hL
   refine zA ?_
   intro K hK
   have h9 := hL.2.2.2.2
   refine hK _ _ ⟨_, _, (Wk.norm [1] (RefE.refl.upd (t := 9) (by simp only [go_sem, simprocAttr, h9]; first | done | rfl) (Ref.esl 8 ⟨Nat.le_refl _, Nat.lt_succ_self _⟩))), awl_live' [0, 6, 8, 9, 28, 29, 30] fun ρ hM => ?_⟩
   try simp only [go_sem, simprocAttr, hL, hX] at hM
   clear hK K h9 hL
   try simp only [go_sem, simprocAttr]
   revert ρ hM
   intro ρ hL
   have e1 := hL
   refine awl_loopH (fun H0 n σ G => ∃ (u : Cor) (o : List Int) (i : Nat), n = ps.length - i ∧ (i ≤ ps.length) ∧ (u.fit) ∧ (o.length ≤ i) ∧ ((ps.take i).foldl (corStep l) (corNew s, []) = (u, o)) ∧ (liveE [0, 6, 8, 28, 29] σ ρ ∧ σ 9 = .slice 8 0 o.length 0 ∧ σ 30 = .int .i64 (i : Int)) ∧ G = [⟨10, s.cells, true, false⟩, ⟨19, [.nilsl, .int .i64 0, .bool false, .int .i64 0, .int .i64 0, .int .i64 0, .int .i64 0, .nilsl, .nilsl, .int .i64 0, .nilsl, .int .i64 0, .bool false, .int .i64 0, .int .i64 0, .int .i64 0, .int .i64 0, .bool false, .nilsl], true, false⟩, ⟨6, rows u.s.regs, true, false⟩, ⟨6, rows u.s.mem.words, true, false⟩, ⟨1, rows u.s.mem.gone, true, false⟩, ⟨40, rows u.rob, true, false⟩, ⟨1, ints u.guesses, true, false⟩, ⟨19, u.own 2 3 4 5 6, true, false⟩, ⟨1, ints o, true, false⟩]) (fun H0 σ G => ∃ (u : Cor) (o : List Int), (corRun l s ps = (u, o)) ∧ (liveE [6, 8] σ ρ ∧ σ 9 = .slice 8 0 o.length 0) ∧ G = [⟨10, s.cells, true, false⟩, ⟨19, [.nilsl, .int .i64 0, .bool false, .int .i64 0, .int .i64 0, .int .i64 0, .int .i64 0, .nilsl, .nilsl, .int .i64 0, .nilsl, .int .i64 0, .bool false, .int .i64 0, .int .i64 0, .int .i64 0, .int .i64 0, .bool false, .nilsl], true, false⟩, ⟨6, rows u.s.regs, true, false⟩, ⟨6, rows u.s.mem.words, true, false⟩, ⟨1, rows u.s.mem.gone, true, false⟩, ⟨40, rows u.rob, true, false⟩, ⟨1, ints u.guesses, true, false⟩, ⟨19, u.own 2 3 4 5 6, true, false⟩, ⟨1, ints o, true, false⟩]) ((fun (u : Cor) (o : List Int) (i : Nat) => ps.length - i) (corNew s)  []  0) ?init1 (fun n ρ G hI => ?round1) (fun ρ G hJ => ?after1)
   case init1 => exact ⟨(corNew s), [], 0, rfl, (Nat.zero_le _), (corNew_fit hf), (Nat.le_refl _), (rfl), ⟨liveE_refl _ _, (hL.2.2.2.1), (hL.2.2.2.2.2.2)⟩, rfl⟩
   case round1 =>
    clear hL
    obtain ⟨u, o, i, hn, i1_0, i1_1, i1_2, i1_3, hL, hG⟩ := hI
    subst hG
    try simp only [go_sem, simprocAttr, e1, hX] at hL
    revert ρ hL
    refine zS [0, 6, 8, 9, 28, 29, 30, 31] ?_
    refine zC ?_ ?_
    · intro c2
      have hi1 : i < ps.length := by omega
      replace hX := And.intro hi1 hX
      intro ρ hL
      refine awl_skip ?_
      refine awl_seq ?_
      refine awl_block fun R1 hw1 hR1 => ?_
      revert ρ hL
      refine zS [0, 6, 8, 9, 11, 28, 29, 30] ?_
      refine zSF [0, 6, 8, 9, 11, 12, 13, 28, 29, 30] (sat_impl_CorePick l u (ps.getD i noPik) hl i1_1) ?_
      refine zS [0, 6, 8, 9, 11, 13, 28, 29, 30] ?_
      refine zSF [0, 6, 8, 9, 13, 14, 15, 28, 29, 30] (sat_impl_noted (ps.getD i noPik)) ?_
      intro ρ hL
      refine zA ?_
      intro K hK
      refine zL [0, 6, 8, 9, 14, 15, 28, 29, 30, 48] ?_
      clear hL
      intro ρ hL
      refine grp_andN (tc := 48) (tv := 49) (td := 50) (v := ?v2) 1 rfl [0, 6, 8, 9, 14, 28, 29, 30] hL.2.2.2.2.2.2.2.2.2 rfl (fun hb K1 hK1 => ?run) (fun hb => ?skip) (fun ρ hP hM => ?_)
      case skip => exact skA (want := true) (b := _) (by rw [hb]; rfl) hL.2.2.2.2.2.2.2.2.2 rfl
      case run =>
       simp only [List.take_succ_cons, List.take_zero]
       rw [hb] at hL
       try simp only [go_sem, simprocAttr, hL, hX]
       repeat' refine And.intro (by first | rfl | omega | (simp; done)) ?_
       refine hK1 _ ?_ ?_ ?_ <;> simp only [go_sem, simprocAttr, hL, hX] <;> exact rfl
      simp only [List.drop_succ_cons, List.drop_zero]
      try simp only [go_sem, simprocAttr, hL, hX] at hM
      replace hL := And.intro hP hM
      clear hP hM
      try simp only [go_sem, simprocAttr, hL, hX]
      repeat' refine And.intro (by first | rfl | omega | (simp; done)) ?_
      refine zE [0, 6, 8, 9, 14, 28, 29, 30, 50] ?_
      clear hK K hL
      refine zC ?_ ?_
      · intro c3
        have hq1 : o.length ≤ 600 := by omega
        refine zS [0, 6, 8, 9, 28, 29, 30] ?_
        intro ρ hL
        refine awl_nil ?_
        refine blk_normal (hR1 _ _ (.mk ?_))
        have w1 : IntKind.i64.wrap ((i : Int) + 1) = ((i + 1 : Nat) : Int) := by rw [wrap64 (by omega)]; omega
        replace hX := And.intro w1 hX
        revert ρ hL
        refine zS [0, 6, 8, 9, 28, 29, 30] ?_
        intro ρ hL
        refine awl_nil ?_
        refine loop_againW (Wk.keep [0, 1, 10, 11, 12, 13, 14, 7, 17] rfl) _ ?meas ⟨(corPick l u (ps.getD i noPik)).1, (o ++ [numI (ps.getD i noPik)]), (i + 1), rfl, (by omega), (by exact pick_fit i1_1), (by rw [List.length_append]; simp; omega), (by rw [foldC_take hi1 i1_3, stepC_on c3.1 (noteI c3.2)]), ⟨(by simp only [go_sem, simprocAttr, hL, hX, e1]), (by simp only [go_sem, simprocAttr, hL, hX, e1]; rw [List.length_append]; rfl), (by simp only [go_sem, simprocAttr, hL, hX, e1]; first | done | rfl)⟩, (by simp only [go_sem, simprocAttr, hL, hX, e1]; rw [ints_snoc])⟩
        case meas => subst hn; omega
      · intro c3
        intro ρ hL
        refine awl_skip ?_
        refine awl_nil ?_
        refine blk_normal (hR1 _ _ (.mk ?_))
        have w1 : IntKind.i64.wrap ((i : Int) + 1) = ((i + 1 : Nat) : Int) := by rw [wrap64 (by omega)]; omega
        replace hX := And.intro w1 hX
        revert ρ hL
        refine zS [0, 6, 8, 9, 28, 29, 30] ?_
        intro ρ hL
        refine awl_nil ?_
        refine loop_againW (Wk.keep [0, 1, 10, 11, 12, 13, 14, 7, 8] rfl) _ ?meas ⟨(corPick l u (ps.getD i noPik)).1, o, (i + 1), rfl, (by omega), (by exact pick_fit i1_1), (by omega), (by rw [foldC_take hi1 i1_3, stepC_off (c3.imp id note_off)]), ⟨(by simp only [go_sem, simprocAttr, hL, hX, e1]), (by simp only [go_sem, simprocAttr, hL, hX, e1]; first | done | rfl), (by simp only [go_sem, simprocAttr, hL, hX, e1]; first | done | rfl)⟩, (by simp only [go_sem, simprocAttr, hL, hX, e1]; first | done | rfl)⟩
        case meas => subst hn; omega
    · intro c2
      intro ρ hL
      refine awl_exit ?_
      refine loop_break ?_
      exact ⟨u, o, (by rw [runC_go hgo, ← i1_3, List.take_of_length_le (by omega)]), ⟨(by simp only [go_sem, simprocAttr, hL, hX, e1]), (hL.2.2.2.1)⟩, rfl⟩
   case after1 =>
    clear hL
    obtain ⟨u, o, j1_0, hL, hG⟩ := hJ
    subst hG
    try simp only [go_sem, simprocAttr, e1, hX] at hL
    revert ρ hL
    refine zS [6, 7] ?_
    refine zK [2, 3, 4, 5, 6, 8] [2, 3, 4, 5, 6, 8] ?_ ?_
    all_goals try simp only [go_sem, simprocAttr, hX]
    all_goals try clear hR1
    all_goals (rw [j1_0] <;> rfl)
end Go.Proofs.YtdifphcihhbjlaaGreat.AM
