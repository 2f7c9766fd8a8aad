/- The abstract machine, part 14: stretches of operations, code, and what is shown of it. No conditions. -/
import Derived.Test.YtgddflnhibhacaaAm13
set_option linter.unusedVariables false
set_option linter.unusedSimpArgs false
namespace Go.Proofs.Ytgddflnhibhacaa.AM
open Go

def upd (ρ : Env) (t : Nat) (v : AV) : Env := fun i => if i = t then v else ρ i
def updO (ρ : Env) (dst : Option Tmp) (v : AV) : Env := match dst with
  | some d => upd ρ d v
  | none => ρ
def goCall : Op → Option (Operand × List Operand)
  | .call c => match c.callee with
    | .value f => some (f, c.args.toList)
    | _ => none
  | _ => none
/-- Is an operation carried out? -/
def aguard (ops : Array Oper) (ρ : Env) (o : Oper) : Option Bool := match o.guard with
  | none => some true
  | some (j, want) => match (ops[j]?).bind (·.dst) with
    | some t => match ρ t with
      | .bool b => some (b == want)
      | .tuple xs => match xs with
        | [] => some false
        | _ => none
      | _ => none
    | none => none
/-- A call of a function value. -/
def callK (P : Program) (f : AV) (args : List AV) (H : Heap) (K : AV → Heap → Prop) : Prop :=
  match f with
  | .func f first cap => ∃ m v h' Hb, CallOk P f (first ++ args ++ cap) H m v h' Hb ∧ K (sh (mmap m H.length) v) (back H m h')
  | _ => False
def opK (P : Program) (ρ : Env) (H : Heap) (o : Oper) (K : Env → Heap → Prop) : Prop :=
  match goCall o.op with
  | some (f, args) => callK P (aeval ρ f) (args.map (aeval ρ)) H fun v H' => K (updO ρ o.dst v) H'
  | none => match aop P (aeval ρ) H o.op with
    | some (x, e) => K (updO ρ o.dst x) (e.app H)
    | none => False
def awpOps (P : Program) (ops : Array Oper) (K : Env → Heap → Prop) : List Oper → Env → Heap → Prop
  | [], ρ, H => K ρ H
  | o :: rest, ρ, H => match aguard ops ρ o with
    | some b => if b = true then opK P ρ H o (awpOps P ops K rest) else awpOps P ops K rest (updO ρ o.dst (.tuple [])) H
    | none => False

/-! A stretch whose order is drawn: what each operation writes and looks at, and that what clashes is bound in the order of its text. -/
structure Foot where
  n0 : Nat
  n1 : Nat
  W : List Nat
  R : List Nat
def liveIds (Hb : Heap) : List Nat := (List.range Hb.length).filter fun id => match Hb[id]? with
  | some b => b.live
  | none => false
/-- What stands ahead of an operation by what binds, as bits; A: what is said to stand ahead of each. -/
def uOf (o : Oper) (A : List Nat) : Nat := (o.after.toList.filter (Region.binds .any)).foldl (fun s e => s ||| 2 ^ e.on ||| A.getD e.on 0) 0
def clashB (ops : Array Oper) (fs : List Foot) (i j : Nat) : Bool := match ops[i]?, ops[j]?, fs[i]?, fs[j]? with
  | some oi, some oj, some fi, some fj => !(oi.apart ops oj) || fj.R.any (fun r => fi.W.contains r || (decide (fi.n0 ≤ r) && decide (r < fi.n1))) || fj.W.any (fun r => fi.R.contains r)
  | _, _, _, _ => false
def dOk (ops : Array Oper) (fs : List Foot) (A : List Nat) : Bool := (List.range ops.size).all fun j => (match ops[j]? with
  | some o => (o.after.toList.all fun e => !(Region.binds .any e) || decide (e.on < j)) && (A.getD j 0 ||| uOf o A == uOf o A)
  | none => true) && (List.range j).all fun i => (A.getD j 0).testBit i || !(clashB ops fs i j)
def awpD (P : Program) (ops : Array Oper) (K : Env → Heap → Prop) : List Oper → List Foot → Env → Heap → Prop
  | [], acc, ρ, H => (∃ A, dOk ops acc.reverse A = true) ∧ K ρ H
  | o :: rest, acc, ρ, H => match aguard ops ρ o with
    | none => False
    | some false => awpD P ops K rest (⟨H.length, H.length, [], []⟩ :: acc) (updO ρ o.dst (.tuple [])) H
    | some true => match goCall o.op with
      | some (f, args) => match aeval ρ f with
        | .func g first cap => ∃ m v h' Hb, CallOk P g (first ++ args.map (aeval ρ) ++ cap) H m v h' Hb ∧
            awpD P ops K rest (⟨H.length, (back H m h').length, m, m ++ liveIds Hb⟩ :: acc) (updO ρ o.dst (sh (mmap m H.length) v)) (back H m h')
        | _ => False
      | none => match aop P (aeval ρ) H o.op with
        | some (x, e) => awpD P ops K rest (⟨H.length, (e.app H).length, e.wr, (afoot (aeval ρ) o.op ++ e.wr).filter (· < H.length)⟩ :: acc) (updO ρ o.dst x) (e.app H)
        | none => False

def gcE (m : List Nat) (ρ : Env) : Env := fun t => bor [] (idx m) fuel (ρ t)
def gcH (m : List Nat) (H : Heap) : Heap := m.map fun id => borB [] (idx m) fuel (H.getD id deadBlk)
/-- The blocks that are kept: the first k stay what they are. -/
def GcOk (k : Nat) (m : List Nat) (H : Heap) : Prop := m.Nodup ∧ (∀ j, j < k → m[j]? = some j) ∧ ∀ id, id ∈ m → id < H.length

/-- The model's state is what the machine's state says. -/
structure St (F : Nat → Prop) (w0 : World) (M : Nat → Prop) (k : Nat) (ι0 : Inj) (n : Nat) (ι : Inj) (ρ : Env) (H : Heap) (a : Act) (w : World) : Prop where
  defers : a.defers = []
  size : a.tmps.size = n
  env : ∀ t, VR F ι w0 (ρ t) (a.tmps.getD t undef)
  hs : HS F w0 ι M (fun id => id < H.length) H w
  cr : ∀ id, id < H.length → ι id ≠ none
  nw : ∀ id, H.length ≤ id → ι id = none
  ws : WS w0 M w
  par : ∀ id, id < k → ι id = ι0 id
  kle : k ≤ H.length

/-- Whatever the first state says, the second says too (of less, or of other numbers). -/
def Wk (k : Nat) (ρ : Env) (H : Heap) (ρ' : Env) (H' : Heap) : Prop :=
  ∀ (F : Nat → Prop) (w0 : World) (M : Nat → Prop) (ι0 : Inj) (n : Nat) (ι : Inj) (a : Act) (w : World), FS F w0 M → St F w0 M k ι0 n ι ρ H a w → ∃ ι', St F w0 M k ι0 n ι' ρ' H' a w
theorem Wk.refl {k : Nat} {ρ : Env} {H : Heap} : Wk k ρ H ρ H := fun _ _ _ _ _ ι _ _ _ h => ⟨ι, h⟩
theorem Wk.trans {k : Nat} {ρ ρ' ρ'' : Env} {H H' H'' : Heap} (h : Wk k ρ H ρ' H') (h' : Wk k ρ' H' ρ'' H'') : Wk k ρ H ρ'' H'' := fun F w0 M ι0 n ι a w hF hs => by
  obtain ⟨ι1, h1⟩ := h F w0 M ι0 n ι a w hF hs
  exact h' F w0 M ι0 n ι1 a w hF h1
/-- It is so of a state that the given one says. -/
def wkQ (k : Nat) (Q : Env → Heap → Prop) (ρ : Env) (H : Heap) : Prop := ∃ ρ' H', Wk k ρ H ρ' H' ∧ Q ρ' H'
theorem wkQ.mk {k : Nat} {Q : Env → Heap → Prop} {ρ : Env} {H : Heap} (h : Q ρ H) : wkQ k Q ρ H := ⟨ρ, H, .refl, h⟩
theorem wkQ.mono {k : Nat} {Q Q' : Env → Heap → Prop} {ρ : Env} {H : Heap} (h : wkQ k Q ρ H) (hQ : ∀ ρ H, Q ρ H → Q' ρ H) : wkQ k Q' ρ H := by
  obtain ⟨ρ', H', h1, h2⟩ := h
  exact ⟨ρ', H', h1, hQ _ _ h2⟩

/-- What a piece of code is shown to do. k: so many blocks are the caller's. -/
def awp (P : Program) (k : Nat) : Code → (Exit → Env → Heap → Prop) → Env → Heap → Prop
  | .skip, Q => fun ρ H => Q .normal ρ H
  | .region _ ops draw, Q => fun ρ H => if draw = true then P.follows .mixedOrders = true ∧ awpD P ops (Q .normal) ops.toList [] ρ H else awpOps P ops (Q .normal) ops.toList ρ H
  | .seq a b, Q => awp P k a fun e ρ H => match e with
    | .normal => wkQ k (awp P k b Q) ρ H
    | e => Q e ρ H
  | .cond c a b, Q => fun ρ H => match aeval ρ c with
    | .bool t => if t = true then awp P k a Q ρ H else awp P k b Q ρ H
    | _ => False
  | .block id c, Q => awp P k c fun e ρ H => match e with
    | .exit i => if i = id then Q .normal ρ H else Q (.exit i) ρ H
    | e => Q e ρ H
  | .loop c, Q => fun ρ H => ∀ I : Env → Heap → Prop, (∀ ρ H, awp P k c (fun e ρ1 H1 => match e with
      | .normal => wkQ k I ρ1 H1
      | e => Q e ρ1 H1) ρ H → I ρ H) → I ρ H
  | .exit i, Q => fun ρ H => Q (.exit i) ρ H
  | .ret, Q => fun ρ H => Q .ret ρ H
  | _, _ => fun _ _ => False

def dstsOk (n : Nat) : Code → Bool
  | .region _ ops _ => ops.toList.all fun o => match o.dst with
    | some d => decide (d < n)
    | none => true
  | .seq a b => dstsOk n a && dstsOk n b
  | .cond _ a b => dstsOk n a && dstsOk n b
  | .block _ c => dstsOk n c
  | .loop c => dstsOk n c
  | _ => true

section
variable {P : Program} {F : Nat → Prop} {ι ι' ι0 : Inj} {w0 w w' : World} {M D : Nat → Prop} {H H' : Heap} {k n : Nat} {ρ : Env} {a : Act}

theorem St.aeval (h : St F w0 M k ι0 n ι ρ H a w) (y : Operand) : VR F ι w0 (aeval ρ y) (a.eval y) := by
  cases y with
  | tmp t => exact h.env t
  | const v => exact VR_ofV v
  | global g => simp [AM.aeval, VR]
  | func f => simp [AM.aeval, VR, Act.eval, VRL]

theorem env_put {dst : Option Tmp} {x : AV} {v : Value} (h : ∀ t, VR F ι w0 (ρ t) (a.tmps.getD t undef)) (hx : VR F ι w0 x v) (hd : ∀ d, dst = some d → d < a.tmps.size) : ∀ t, VR F ι w0 (updO ρ dst x t) ((a.put dst v).tmps.getD t undef) := by
  intro t
  cases dst with
  | none => exact h t
  | some d =>
    have hd := hd d rfl
    simp only [updO, upd, Act.put]
    by_cases ht : t = d
    · subst ht
      simpa [Array.getD, hd] using hx
    · rw [if_neg ht]
      have := h t
      rw [Array.getD_eq_getD_getElem?] at this ⊢
      rw [Array.getElem?_setIfInBounds_ne (fun e => ht e.symm)]
      exact this

/-- A step. -/
theorem St.step {W : List Nat} {dst : Option Tmp} {x : AV} {v : Value} (hFS : FS F w0 M) (h : St F w0 M k ι0 n ι ρ H a w) (hE : Eff F w0 ι ι' H H' W w w') (hW : ∀ id, id ∈ W → ∃ b, H[id]? = some b ∧ b.live = true) (hx : VR F ι' w0 x v) (hd : ∀ d, dst = some d → d < n) :
    St F w0 M k ι0 n ι' (updO ρ dst x) H' (a.put dst v) w' := by
  have hW' : ∀ id, id ∈ W → id < H.length ∧ ∃ b, H[id]? = some b ∧ b.live = true := fun id hi => ⟨by
    obtain ⟨b, hb, _⟩ := hW id hi
    exact (List.getElem?_eq_some_iff.1 hb).1, hW id hi⟩
  refine ⟨?_, ?_, ?_, ?_, ?_, ?_, h.ws.step hE h.hs hW', ?_, Nat.le_trans h.kle hE.len⟩
  · cases dst <;> exact h.defers
  · cases dst with
    | none => exact h.size
    | some d => simp [Act.put, h.size]
  · exact env_put (fun t => VR.mono (fun _ h => h) hE.le (fun _ _ => rfl) _ (h.env t)) hx (by rw [h.size]; exact hd)
  · refine (HS.step hE hFS h.ws.size (fun _ h => h) h.hs hW').weaken fun id hi => ?_
    by_cases hlt : id < H.length
    · exact Or.inl hlt
    · exact Or.inr ⟨by omega, hi⟩
  · intro id hi
    by_cases hlt : id < H.length
    · rw [hE.old id (Or.inl hlt)]
      exact h.cr id hlt
    · obtain ⟨e, he, _⟩ := hE.new id (by omega) hi
      rw [he]
      simp
  · intro id hi
    rw [hE.old id (Or.inr hi)]
    exact h.nw id (Nat.le_trans hE.len hi)
  · intro id hi
    rw [hE.old id (Or.inl (Nat.lt_of_lt_of_le hi h.kle))]
    exact h.par id hi

theorem St.putUndef {dst : Option Tmp} (h : St F w0 M k ι0 n ι ρ H a w) (hd : ∀ d, dst = some d → d < n) : St F w0 M k ι0 n ι (updO ρ dst (.tuple [])) H (a.put dst undef) w := by
  refine ⟨?_, ?_, ?_, h.hs, h.cr, h.nw, h.ws, h.par, h.kle⟩
  · cases dst <;> exact h.defers
  · cases dst with
    | none => exact h.size
    | some d => simp [Act.put, h.size]
  · exact env_put h.env (by simp [VR, VRL, undef]) (by rw [h.size]; exact hd)

theorem wanted_of {ops : Array Oper} {o : Oper} {b : Bool} (hg : aguard ops ρ o = some b) (h : ∀ t, VR F ι w0 (ρ t) (a.tmps.getD t undef)) : Region.wanted o (yielded ops a.tmps) = b := by
  unfold aguard at hg
  unfold Region.wanted
  split at hg
  · rename_i hgd
    rw [hgd]
    obtain rfl := Option.some.inj hg
    rfl
  · rename_i j want hgd
    rw [hgd]
    simp only
    split at hg
    · rename_i t ht
      split at hg
      · rename_i c hc
        obtain rfl := Option.some.inj hg
        have := h t
        rw [hc] at this
        have hv := VR_bool this
        have hy : yielded ops a.tmps j = some c := by
          unfold yielded
          rw [ht]
          have hlt : t < a.tmps.size := by
            by_cases hlt : t < a.tmps.size
            · exact hlt
            · rw [Array.getD, dif_neg hlt] at hv
              cases hv
          have h2 : a.tmps[t]? = some (.bool c) := by
            rw [Array.getD, dif_pos hlt] at hv
            rw [Array.getElem?_eq_getElem hlt]
            exact congrArg some hv
          simp [h2]
        rw [hy]
        cases c <;> cases want <;> rfl
      · rename_i xs hc
        split at hg
        case h_2 => cases hg
        obtain rfl := Option.some.inj hg
        have := h t
        rw [hc] at this
        simp only [VR, VRL] at this
        obtain ⟨us, hv, hus⟩ := this
        have hy : yielded ops a.tmps j = none := by
          unfold yielded
          rw [ht]
          simp only [Option.bind_some]
          split
          · rename_i b hb
            rw [Array.getD_eq_getD_getElem?, hb] at hv
            simp at hv
          · rfl
        rw [hy]
        cases want <;> rfl
      · cases hg
    · cases hg

theorem resolve_value {a : Act} {f : Operand} {args : Array Operand} {ts : Array TypeId} {ty : TypeId} {g : Nat} {fs cs : Array Value} (h : a.eval f = .func (.func g) fs cs) :
    execOp a.eval { dst := none, op := .call ⟨.value f, args, ts⟩, type := ty, pos := "", after := #[], guard := none } = callFunc g (fs ++ args.map a.eval ++ cs) := by
  simp [execOp, resolve, h, Deferred.ofValue, invoke]

theorem aStore_wr {t : TypeId} {x y : AV} {e : AEff} (h : aStore P H t x y = some e) : ∀ id, id ∈ e.wr → ∃ b, H[id]? = some b ∧ b.live = true := by
  unfold aStore at h
  split at h
  case h_2 => cases h
  split at h
  case h_2 => cases h
  rename_i b cs n hb _ _
  split at h
  case isFalse => cases h
  rename_i hc
  obtain rfl := Option.some.inj h
  intro id hid
  simp [AEff.wr] at hid
  subst hid
  exact ⟨b, hb, hc.1⟩
theorem aClear_wr {t : TypeId} {x : AV} {e : AEff} (h : aClear P H t x = some e) : ∀ id, id ∈ e.wr → ∃ b, H[id]? = some b ∧ b.live = true := by
  unfold aClear at h
  split at h
  · cases h
  split at h
  case h_2 => cases h
  split at h
  · cases h
  split at h
  case h_2 => cases h
  try simp only at h
  split at h
  · cases h
  rename_i b hb
  split at h
  case isFalse => cases h
  rename_i hc
  obtain rfl := Option.some.inj h
  intro id hid
  simp [AEff.wr] at hid
  subst hid
  exact ⟨b, hb, hc.1⟩
theorem aCopy_wr {t t' : TypeId} {s x y : AV} {e : AEff} (h : aCopy P H t t' s x = some (y, e)) : ∀ id, id ∈ e.wr → ∃ b, H[id]? = some b ∧ b.live = true := by
  unfold aCopy at h
  split at h
  · cases h
  split at h
  case h_2 => cases h
  split at h
  · cases h
  split at h
  · cases h
  split at h
  case h_2 => cases h
  try simp only at h
  split at h
  · cases h
  rename_i b hb
  split at h
  case isFalse => cases h
  rename_i hc
  obtain ⟨_, rfl⟩ := Prod.mk.inj (Option.some.inj h)
  intro id hid
  simp [AEff.wr] at hid
  subst hid
  exact ⟨b, hb, hc.1⟩
theorem aAppend_wr {t t' : TypeId} {s x y : AV} {e : AEff} (h : aAppend P H t t' s x = some (y, e)) : ∀ id, id ∈ e.wr → ∃ b, H[id]? = some b ∧ b.live = true := by
  unfold aAppend at h
  split at h
  · cases h
  split at h
  case h_2 => cases h
  split at h
  · cases h
  split at h
  · cases h
  split at h
  · split at h
    · obtain ⟨_, rfl⟩ := Prod.mk.inj (Option.some.inj h)
      intro id hid
      simp [AEff.wr] at hid
    · cases h
  · split at h
    · obtain ⟨_, rfl⟩ := Prod.mk.inj (Option.some.inj h)
      intro id hid
      simp [AEff.wr] at hid
    · cases h
  · split at h
    · cases h
    rename_i b hb
    split at h
    case isFalse => cases h
    rename_i hc
    split at h
    · obtain ⟨_, rfl⟩ := Prod.mk.inj (Option.some.inj h)
      intro id hid
      simp [AEff.wr] at hid
      subst hid
      exact ⟨b, hb, hc.1⟩
    · obtain ⟨_, rfl⟩ := Prod.mk.inj (Option.some.inj h)
      intro id hid
      simp [AEff.wr] at hid
      subst hid
      exact ⟨b, hb, hc.1⟩
  · cases h
theorem aMake_wr {t : TypeId} {l c y : AV} {e : AEff} (h : aMake P H t l c = some (y, e)) : e.wr = [] := by
  unfold aMake at h
  split at h
  · cases h
  split at h
  case h_2 => cases h
  split at h
  case h_2 => cases h
  split at h
  case isFalse => cases h
  obtain ⟨_, rfl⟩ := Prod.mk.inj (Option.some.inj h)
  rfl

/-- What an operation writes is in use. -/
theorem aop_wr {op : Op} {x : AV} {e : AEff} {f : Operand → AV} (h : aop P f H op = some (x, e)) : ∀ id, id ∈ e.wr → ∃ b, H[id]? = some b ∧ b.live = true := by
  have nil : e.wr = [] → ∀ id, id ∈ e.wr → ∃ b, H[id]? = some b ∧ b.live = true := fun h id hid => by rw [h] at hid; simp at hid
  have map : ∀ {o : Option AV}, (o.map fun v => (v, AEff.nil)) = some (x, e) → e.wr = [] := by
    intro o h
    obtain ⟨_, _, h2⟩ := Option.map_eq_some_iff.1 h
    obtain ⟨_, rfl⟩ := Prod.mk.inj h2
    rfl
  cases op with
  | store t y z =>
    simp only [aop] at h
    obtain ⟨e', h1, h2⟩ := Option.map_eq_some_iff.1 h
    obtain ⟨_, rfl⟩ := Prod.mk.inj h2
    exact aStore_wr h1
  | makeSlice t l c => exact nil (aMake_wr h)
  | call c =>
    simp only [aop] at h
    split at h
    · rename_i b hb
      unfold aBuiltin at h
      split at h
      · split at h
        · exact nil (map h)
        · cases h
      · split at h
        · exact nil (map h)
        · cases h
      · split at h
        · exact aAppend_wr h
        · cases h
      · split at h
        · exact aCopy_wr h
        · cases h
      · split at h
        · obtain ⟨e', h1, h2⟩ := Option.map_eq_some_iff.1 h
          obtain ⟨_, rfl⟩ := Prod.mk.inj h2
          exact aClear_wr h1
        · cases h
      · split at h
        · split at h
          · obtain ⟨_, rfl⟩ := Prod.mk.inj (Option.some.inj h)
            exact nil rfl
          · cases h
        · cases h
      · split at h
        · split at h
          · obtain ⟨_, rfl⟩ := Prod.mk.inj (Option.some.inj h)
            exact nil rfl
          · cases h
        · cases h
      · cases h
    · cases h
  | makeFunc g first cap =>
    refine nil ?_
    cases g <;> simp only [aop, Option.some.injEq, Prod.mk.injEq, reduceCtorEq] at h
    obtain ⟨_, rfl⟩ := h
    rfl
  | load t y => exact nil (map h)
  | unOp o t y => exact nil (map h)
  | slice t y lo hi mx => exact nil (map h)
  | fieldAddr s y f => exact nil (map h)
  | field s y f => exact nil (map h)
  | indexAddr t y i => exact nil (map h)
  | index t y i => exact nil (map h)
  | binOp o t y z t' =>
    simp only [aop] at h
    split at h
    · exact nil (map h)
    · cases h
  | extract y i =>
    simp only [aop] at h
    split at h
    · exact nil (map h)
    · cases h
  | move y =>
    simp only [aop, Option.some.injEq, Prod.mk.injEq] at h
    obtain ⟨_, rfl⟩ := h
    exact nil rfl
  | assign y =>
    simp only [aop, Option.some.injEq, Prod.mk.injEq] at h
    obtain ⟨_, rfl⟩ := h
    exact nil rfl
  | pick c y z =>
    simp only [aop] at h
    split at h
    · obtain ⟨_, rfl⟩ := Prod.mk.inj (Option.some.inj h)
      exact nil rfl
    · cases h
  | nilCheck y =>
    simp only [aop] at h
    split at h
    · obtain ⟨_, rfl⟩ := Prod.mk.inj (Option.some.inj h)
      exact nil rfl
    · obtain ⟨_, rfl⟩ := Prod.mk.inj (Option.some.inj h)
      exact nil rfl
    · cases h
  | alloc t =>
    simp only [aop] at h
    split at h
    · split at h
      · obtain ⟨_, rfl⟩ := Prod.mk.inj (Option.some.inj h)
        exact nil rfl
      · cases h
    · cases h
  | box t y =>
    simp only [aop] at h
    split at h
    · obtain ⟨_, rfl⟩ := Prod.mk.inj (Option.some.inj h)
      exact nil rfl
    · cases h
  | build t ps =>
    simp only [aop] at h
    split at h
    · split at h
      · obtain ⟨_, rfl⟩ := Prod.mk.inj (Option.some.inj h)
        exact nil rfl
      · cases h
    · cases h
  | buildSlice t m ps =>
    simp only [aop] at h
    split at h
    · split at h
      · obtain ⟨_, rfl⟩ := Prod.mk.inj (Option.some.inj h)
        exact nil rfl
      · split at h
        · split at h
          · obtain ⟨_, rfl⟩ := Prod.mk.inj (Option.some.inj h)
            exact nil rfl
          · cases h
        · cases h
    · cases h
  | convert s d y =>
    simp only [aop] at h
    split at h
    · unfold aSelf at h
      split at h
      case h_2 => cases h
      split at h
      case h_2 => cases h
      rename_i b _ hb
      split at h
      case isFalse => cases h
      rename_i hc
      obtain ⟨_, rfl⟩ := Prod.mk.inj (Option.some.inj h)
      intro id hid
      simp [AEff.wr] at hid
      subst hid
      exact ⟨b, hb, hc.1⟩
    split at h
    · split at h
      · obtain ⟨_, rfl⟩ := Prod.mk.inj (Option.some.inj h)
        exact nil rfl
      · cases h
    · split at h
      · split at h
        · obtain ⟨_, rfl⟩ := Prod.mk.inj (Option.some.inj h)
          exact nil rfl
        · cases h
      · cases h
    · split at h
      · split at h
        · obtain ⟨_, rfl⟩ := Prod.mk.inj (Option.some.inj h)
          exact nil rfl
        · cases h
      · cases h
  | _ => simp [aop] at h

/-- One operation: a call, or any other. -/
theorem opK_sound {o : Oper} {K : Env → Heap → Prop} {KC : Act → World → Prop} {Q : Exit → Act → World → Prop} (hFS : FS F w0 M) (h : St F w0 M k ι0 n ι ρ H a w) (hd : ∀ d, o.dst = some d → d < n) (hop : opK P ρ H o K)
    (hK : ∀ ρ' H' ι' a' w', K ρ' H' → St F w0 M k ι0 n ι' ρ' H' a' w' → KC a' w') : o.wp P a w KC Q := by
  unfold opK at hop
  cases hg : goCall o.op with
  | some fa =>
    obtain ⟨f, args⟩ := fa
    rw [hg] at hop
    simp only at hop
    unfold callK at hop
    split at hop
    case h_2 => exact hop.elim
    rename_i g first cap hf
    obtain ⟨m, v, h', Hb, hC, hKv⟩ := hop
    obtain ⟨dst, op, ty, pos, after, guard⟩ := o
    simp only at hg hd hKv
    have hcall : ∃ ts : Array TypeId, op = .call ⟨.value f, ⟨args⟩, ts⟩ := by
      cases op with
      | call c =>
        obtain ⟨callee, as, ts⟩ := c
        cases callee with
        | value f' =>
          simp only [goCall, Option.some.injEq, Prod.mk.injEq] at hg
          obtain ⟨rfl, rfl⟩ := hg
          exact ⟨ts, rfl⟩
        | _ => simp [goCall] at hg
      | _ => simp [goCall] at hg
    obtain ⟨ts, rfl⟩ := hcall
    have hfv := h.aeval f
    rw [hf] at hfv
    simp only [VR] at hfv
    obtain ⟨fs, cs, h1, h2, h3⟩ := hfv
    have hargs : VRL F ι w0 (first ++ args.map (AM.aeval ρ) ++ cap) (fs ++ (⟨args⟩ : Array Operand).map a.eval ++ cs).toList := by
      simp only [Array.toList_append, Array.toList_map]
      exact (h2.append (VRL_map h.aeval)).append h3
    have hcs := call_sound hC hFS h.ws h.hs (fun _ hi => hi) h.cr (fun id hid => by
      obtain ⟨b, hb, _⟩ := hC.live id hid
      exact (List.getElem?_eq_some_iff.1 hb).1) (fun id b hb hl => by
      rcases hC.clean with ⟨hs, _⟩ | rfl
      · exact (List.getElem?_eq_some_iff.1 (hs id b hb hl)).1
      · simp at hb) (fun id h1 _ => h.nw id h1) hargs
    unfold Oper.wp
    have hrun : (execOp a.eval ⟨dst, .call ⟨.value f, ⟨args⟩, ts⟩, ty, pos, after, guard⟩).run P w = .ok (.enter g (fs ++ (⟨args⟩ : Array Operand).map a.eval ++ cs)) w := by
      have : execOp a.eval ⟨dst, .call ⟨.value f, ⟨args⟩, ts⟩, ty, pos, after, guard⟩ = callFunc g (fs ++ (⟨args⟩ : Array Operand).map a.eval ++ cs) := by
        simp [execOp, resolve, h1, Deferred.ofValue, invoke]
      rw [this]
      exact hC.sat.1 _ w
    rw [hrun]
    simp only [Oper.upon_enter]
    refine hcs.mono ?_
    rintro e w' ⟨cv, ι', rfl, hv, hE⟩
    exact hK _ _ ι' _ _ hKv (h.step hFS hE hC.live hv hd)
  | none =>
    rw [hg] at hop
    simp only at hop
    split at hop
    case h_2 => exact hop.elim
    rename_i x e hx
    obtain ⟨v, w', ι', hr, hxv, hE⟩ := aop_sound hx h.aeval (fun c hc => h.ws.agree c (hFS c hc).1 (hFS c hc).2) (fun id b e _ hb hl he => h.hs.br id b e (List.getElem?_eq_some_iff.1 hb).1 hb hl he) (fun _ => h.nw _ (Nat.le_refl _))
    have hW : ∀ id, id ∈ e.wr → ∃ b, H[id]? = some b ∧ b.live = true := aop_wr hx
    have hst := h.step hFS hE hW hxv hd
    unfold Oper.wp
    rcases hr with hr | ⟨hr, rfl⟩
    · rw [hr]
      simp only [Oper.upon_value]
      exact hK _ _ ι' _ _ hop hst
    · rw [hr]
      simp only [Oper.upon_skip]
      exact hK _ _ ι' _ _ hop hst
end
end Go.Proofs.Ytgddflnhibhacaa.AM
