/- The abstract machine, part 17: rules by which a function is shown to do something. No conditions. -/
import Derived.Test.YtgddflnhibhacaaAm16
set_option linter.unusedVariables false
set_option linter.unusedSimpArgs false
namespace Go.Proofs.Ytgddflnhibhacaa.AM
open Go

/-- A row of code. -/
def awpL (P : Program) (k : Nat) : List Code → (Exit → Env → Heap → Prop) → Env → Heap → Prop
  | [], Q => Q .normal
  | c :: cs, Q => awp P k c fun e ρ H => match e with
    | .normal => wkQ k (awpL P k cs Q) ρ H
    | e => Q e ρ H
/-- Behind a block. -/
def blkQ (id : Nat) (R : Env → Heap → Prop) (Q : Exit → Env → Heap → Prop) (e : Exit) (ρ : Env) (H : Heap) : Prop :=
  match e with
  | .normal => R ρ H
  | .exit i => if i = id then R ρ H else Q (.exit i) ρ H
  | e => Q e ρ H
/-- Behind a round. -/
def loopQ (k id : Nat) (n : Nat) (I : Nat → Env → Heap → Prop) (J : Env → Heap → Prop) (Q : Exit → Env → Heap → Prop) (e : Exit) (ρ : Env) (H : Heap) : Prop :=
  match e with
  | .normal => wkQ k (fun ρ H => ∃ m, m < n ∧ I m ρ H) ρ H
  | .exit i => if i = id then wkQ k J ρ H else Q (.exit i) ρ H
  | e => Q e ρ H

section
variable {P : Program} {k : Nat} {Q : Exit → Env → Heap → Prop} {ρ : Env} {H : Heap} {cs : List Code}

/-- Is it so of less, it is so. -/
def wkOk (k : Nat) (Q : Exit → Env → Heap → Prop) : Prop := ∀ ρ H, wkQ k (Q .normal) ρ H → Q .normal ρ H
theorem awl_of {c : Code} (hQ : wkOk k Q) (h : awpL P k [c] Q ρ H) : awp P k c Q ρ H := by
  refine awp_mono c h fun e ρ H he => ?_
  cases e <;> first | exact hQ _ _ he | exact he
theorem awl_seq {a b : Code} (h : awpL P k (a :: b :: cs) Q ρ H) : awpL P k (.seq a b :: cs) Q ρ H := by
  refine awp_mono (k := k) a h fun e ρ H he => ?_
  cases e <;> exact he
theorem wkQ.join {Q : Env → Heap → Prop} (h : wkQ k (wkQ k Q) ρ H) : wkQ k Q ρ H := by
  obtain ⟨ρ1, H1, h1, ρ2, H2, h2, h3⟩ := h
  exact ⟨ρ2, H2, h1.trans h2, h3⟩
theorem awl_skip (h : awpL P k cs Q ρ H) : awpL P k (.skip :: cs) Q ρ H := .mk h
theorem awl_exit {i : Nat} (h : Q (.exit i) ρ H) : awpL P k (.exit i :: cs) Q ρ H := h
theorem awl_ret (h : Q .ret ρ H) : awpL P k (.ret :: cs) Q ρ H := h
theorem awl_nil (h : Q .normal ρ H) : awpL P k [] Q ρ H := h
theorem awl_cond {c : Operand} {a b : Code} {t : Bool} (hc : aeval ρ c = .bool t) (ht : t = true → awpL P k (a :: cs) Q ρ H) (hf : t = false → awpL P k (b :: cs) Q ρ H) : awpL P k (.cond c a b :: cs) Q ρ H := by
  show awp P k (.cond c a b) _ ρ H
  simp only [awp]
  rw [hc]
  cases t with
  | true =>
    simp only [if_true]
    exact ht rfl
  | false =>
    simp only [Bool.false_eq_true, if_false]
    exact hf rfl
theorem awl_reg {id : Nat} {ops : Array Oper} (h : ∀ K : Env → Heap → Prop, (∀ ρ H, wkQ k (awpL P k cs Q) ρ H → K ρ H) → awpOps P ops K ops.toList ρ H) : awpL P k (.region id ops false :: cs) Q ρ H := by
  show awp P k (.region id ops false) _ ρ H
  simp only [awp, Bool.false_eq_true, if_false]
  exact h _ fun _ _ h => h
theorem awl_regDraw {id : Nat} {ops : Array Oper} (hm : P.follows .mixedOrders = true) (h : ∀ K : Env → Heap → Prop, (∀ ρ H, wkQ k (awpL P k cs Q) ρ H → K ρ H) → awpD P ops K ops.toList [] ρ H) : awpL P k (.region id ops true :: cs) Q ρ H := by
  show awp P k (.region id ops true) _ ρ H
  simp only [awp, if_true]
  exact ⟨hm, h _ fun _ _ h => h⟩
theorem blkQ_ok {id : Nat} {R : Env → Heap → Prop} (hR : ∀ ρ H, wkQ k R ρ H → R ρ H) : wkOk k (blkQ id R Q) := fun ρ H h => hR ρ H h
theorem awl_block {id : Nat} {c : Code} (h : ∀ R : Env → Heap → Prop, (∀ ρ H, wkQ k R ρ H → R ρ H) → (∀ ρ H, wkQ k (awpL P k cs Q) ρ H → R ρ H) → awpL P k [c] (blkQ id R Q) ρ H) : awpL P k (.block id c :: cs) Q ρ H := by
  refine awp_mono c (awl_of (blkQ_ok fun ρ H h => h.join) (h (wkQ k (awpL P k cs Q)) (fun ρ H h => h.join) fun _ _ h => h)) fun e ρ H he => ?_
  cases e with
  | exit i =>
    simp only [blkQ] at he ⊢
    split
    · rename_i hi; rw [if_pos hi] at he; exact he
    · rename_i hi; rw [if_neg hi] at he; exact he
  | _ => exact he
theorem awl_loop {id : Nat} {c : Code} (I : Nat → Env → Heap → Prop) (J : Env → Heap → Prop) (n : Nat) (h0 : I n ρ H) (round : ∀ n ρ H, I n ρ H → awpL P k [c] (loopQ k id n I J Q) ρ H)
    (after : ∀ ρ H, J ρ H → awpL P k cs Q ρ H) : awpL P k (.block id (.loop c) :: cs) Q ρ H := by
  have key : ∀ n ρ H, I n ρ H → awp P k (.loop c) (fun e ρ H => match e with
    | .exit i => if i = id then wkQ k J ρ H else Q (.exit i) ρ H
    | .normal => False
    | e => Q e ρ H) ρ H := by
    intro n
    induction n using Nat.strongRecOn with
    | _ n ih =>
      intro ρ H hI X hX
      refine hX ρ H (awp_mono c (awl_of (fun ρ H h => wkQ.join h) (round n ρ H hI)) fun e ρ H he => ?_)
      cases e with
      | normal =>
        refine wkQ.mono he fun ρ H h => ?_
        obtain ⟨m, hm, h1⟩ := h
        exact ih m hm _ _ h1 X hX
      | _ => exact he
  refine awp_mono (.loop c) (key n ρ H h0) fun e ρ H he => ?_
  cases e with
  | exit i =>
    simp only at he ⊢
    split
    · rename_i hi; rw [if_pos hi] at he; exact wkQ.mono he after
    · rename_i hi; rw [if_neg hi] at he; exact he
  | normal => exact he.elim
  | _ => exact he
/-- Roads come together. -/
theorem awl_join {c : Code} (J : Env → Heap → Prop) (h : awpL P k [c] (fun e ρ H => match e with | .normal => wkQ k J ρ H | e => Q e ρ H) ρ H) (after : ∀ ρ H, J ρ H → awpL P k cs Q ρ H) : awpL P k (c :: cs) Q ρ H := by
  refine awp_mono c h fun e ρ H he => ?_
  cases e with
  | normal => exact wkQ.mono he.join after
  | _ => exact he
/-- The blocks as they are at first are named in what is kept. -/
theorem awl_loopH {id : Nat} {c : Code} (I : Heap → Nat → Env → Heap → Prop) (J : Heap → Env → Heap → Prop) (n : Nat) (h0 : I H n ρ H) (round : ∀ n ρ G, I H n ρ G → awpL P k [c] (loopQ k id n (I H) (J H) Q) ρ G)
    (after : ∀ ρ G, J H ρ G → awpL P k cs Q ρ G) : awpL P k (.block id (.loop c) :: cs) Q ρ H := awl_loop (I H) (J H) n h0 round after
/-- Only some temporaries are looked at further on. -/
theorem awl_live (L : List Tmp) (h : ∀ ρ' : Env, (∀ t, t ∈ L → ρ' t = ρ t) → awpL P k cs Q ρ' H) : awpL P k cs Q ρ H := h ρ fun _ _ => rfl

theorem blk_normal {id : Nat} {R : Env → Heap → Prop} (h : R ρ H) : blkQ id R Q .normal ρ H := h
theorem blk_exit {id : Nat} {R : Env → Heap → Prop} (h : R ρ H) : blkQ id R Q (.exit id) ρ H := by simpa [blkQ] using h
theorem blk_other {id i : Nat} {R : Env → Heap → Prop} (hi : i ≠ id) (h : Q (.exit i) ρ H) : blkQ id R Q (.exit i) ρ H := by simpa [blkQ, hi] using h
theorem blk_ret {id : Nat} {R : Env → Heap → Prop} (h : Q .ret ρ H) : blkQ id R Q .ret ρ H := h
theorem loop_again {id n : Nat} {I : Nat → Env → Heap → Prop} {J : Env → Heap → Prop} (m : Nat) (hm : m < n) (h : I m ρ H) : loopQ k id n I J Q .normal ρ H := .mk ⟨m, hm, h⟩
theorem loop_againW {id n : Nat} {I : Nat → Env → Heap → Prop} {J : Env → Heap → Prop} {ρ' : Env} {H' : Heap} (hw : Wk k ρ H ρ' H') (m : Nat) (hm : m < n) (h : I m ρ' H') : loopQ k id n I J Q .normal ρ H := ⟨ρ', H', hw, m, hm, h⟩
theorem loop_break {id n : Nat} {I : Nat → Env → Heap → Prop} {J : Env → Heap → Prop} (h : J ρ H) : loopQ k id n I J Q (.exit id) ρ H := by
  simp only [loopQ, if_true]
  exact .mk h
theorem loop_breakW {id n : Nat} {I : Nat → Env → Heap → Prop} {J : Env → Heap → Prop} {ρ' : Env} {H' : Heap} (hw : Wk k ρ H ρ' H') (h : J ρ' H') : loopQ k id n I J Q (.exit id) ρ H := by
  simp only [loopQ, if_true]
  exact ⟨ρ', H', hw, h⟩
theorem loop_other {id i n : Nat} {I : Nat → Env → Heap → Prop} {J : Env → Heap → Prop} (hi : i ≠ id) (h : Q (.exit i) ρ H) : loopQ k id n I J Q (.exit i) ρ H := by simpa [loopQ, hi] using h
theorem loop_ret {id n : Nat} {I : Nat → Env → Heap → Prop} {J : Env → Heap → Prop} (h : Q .ret ρ H) : loopQ k id n I J Q .ret ρ H := h

theorem retQ_ok {rs : List ResultVar} {Qv : AV → Heap → Prop} : wkOk k (retQ P rs k Qv) := fun _ _ h => h.join
theorem sat_mk {f : FuncId} {fn : Func} {c : Code} {args : List AV} {h h' : Heap} {v : AV} (rs : List ResultVar) (k n : Nat) (hent : ∀ (xs : Array Value) (w : World), (callFunc f xs).run P w = .ok (.enter f xs) w)
    (hf : P.funcs[f]? = some fn) (hn : fn.ntmps = n) (hr : fn.results.toList = rs) (hk : h.length = k) (hb : fn.body = some c) (hd : dstsOk n c = true) (hlen : args.length.ble n = true)
    (hw : awpL P k [c] (retQ P rs k (fun v' h'' => v' = v ∧ h'' = h')) (argEnv args) h) : Sat P f args h v h' := by
  subst hn hr hk
  obtain ⟨v', h'', ⟨rfl, rfl⟩, h⟩ := sat_of hent hf hb hd (Nat.le_of_ble_eq_true hlen) (awl_of (retQ_ok) hw)
  exact h

/-- A function's end: the result, and the blocks that are kept behind the caller's. -/
theorem ret_mk {rs : List ResultVar} {Qv : AV → Heap → Prop} (keep : List Nat) (vs : List AV) (h1 : aRes P H ρ rs = some vs) (h2 : (List.range k ++ keep).Nodup) (h3 : k ≤ H.length) (h4 : ∀ id, id ∈ keep → ∃ b, H[id]? = some b ∧ b.live = true)
    (hq : Qv (bor [] (idx (List.range k ++ keep)) fuel (aResult vs)) (gcH (List.range k ++ keep) H)) : retQ P rs k Qv .ret ρ H := by
  refine .mk ⟨vs, h1, [], _, .refl _, keep, ?_⟩
  simp only [List.map_nil, List.append_nil]
  refine ⟨⟨h2, fun j hj => ?_, fun id hid => ?_⟩, h4, hq⟩
  · rw [List.getElem?_append_left (by simpa using hj)]
    simp [hj]
  · rcases List.mem_append.1 hid with h | h
    · exact Nat.lt_of_lt_of_le (List.mem_range.1 h) h3
    · obtain ⟨b, hb, _⟩ := h4 id h
      exact (List.getElem?_eq_some_iff.1 hb).1
/-- A function's end, where less is told of the result; szs: empty blocks that are laid behind. -/
theorem ret_norm {rs : List ResultVar} {Qv : AV → Heap → Prop} (szs keep : List Nat) (vs : List AV) (v : AV) (h1 : aRes P H ρ rs = some vs) (hr : Ref H.length (H.length + szs.length) (aResult vs) v) {H' : Heap} (hH : H ++ szs.map (fun s => (⟨s, [], true, false⟩ : Blk)) = H') (h2 : (List.range k ++ keep).Nodup) (h3 : k ≤ H'.length) (h4 : ∀ id, id ∈ keep → ∃ b, H'[id]? = some b ∧ b.live = true)
    (hq : Qv (bor [] (idx (List.range k ++ keep)) fuel v) (gcH (List.range k ++ keep) H')) : retQ P rs k Qv .ret ρ H := by
  subst hH
  refine .mk ⟨vs, h1, szs, v, hr, keep, ⟨h2, fun j hj => ?_, fun id hid => ?_⟩, h4, hq⟩
  · rw [List.getElem?_append_left (by simpa using hj)]
    simp [hj]
  · rcases List.mem_append.1 hid with h | h
    · exact Nat.lt_of_lt_of_le (List.mem_range.1 h) h3
    · obtain ⟨b, hb, _⟩ := h4 id h
      exact (List.getElem?_eq_some_iff.1 hb).1
theorem ret_wk {rs : List ResultVar} {Qv : AV → Heap → Prop} {ρ' : Env} {H' : Heap} (hw : Wk k ρ H ρ' H') (h : retQ P rs k Qv .ret ρ' H') : retQ P rs k Qv .ret ρ H := by
  obtain ⟨ρ2, H2, h1, h2⟩ := h
  exact ⟨ρ2, H2, hw.trans h1, h2⟩
theorem end_mk {rs : List ResultVar} {Qv : AV → Heap → Prop} (h : retQ P rs k Qv .ret ρ H) : retQ P rs k Qv .normal ρ H := h

/-- A call inside a stretch. m: the blocks handed over. -/
theorem ops_call {ops : Array Oper} {K : Env → Heap → Prop} {rest : List Oper} {o : Oper} {f : Operand} {args : List Operand} {g : FuncId} {first cap : List AV} (hg : o.guard = none) (hc : goCall o.op = some (f, args)) (hf : aeval ρ f = .func g first cap)
    (Hb : Heap) (m : List Nat) (v : AV) (h' : Heap) (hC : CallOk P g (first ++ args.map (aeval ρ) ++ cap) H m v h' Hb) (hK : awpOps P ops K rest (updO ρ o.dst (sh (mmap m H.length) v)) (back H m h')) :
    awpOps P ops K (o :: rest) ρ H := by
  simp only [awpOps, aguard, hg, if_true, opK, hc, callK, hf]
  exact ⟨m, v, h', Hb, hC, hK⟩
end
end Go.Proofs.Ytgddflnhibhacaa.AM
