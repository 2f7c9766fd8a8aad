/- The abstract machine, part 18: stretches without their marks, one law an operation. No conditions. -/
import Derived.Test.YtgddflnhibhacaaAm17
set_option linter.unusedVariables false
set_option linter.unusedSimpArgs false
namespace Go.Proofs.Ytgddflnhibhacaa.AM
open Go

abbrev SOp := Option Tmp × Op × Option (Tmp × Bool)
def stripG (ops : Array Oper) : Option (Nat × Bool) → Option (Option (Tmp × Bool))
  | none => some none
  | some (j, want) => match (ops[j]?).bind (·.dst) with
    | some t => some (some (t, want))
    | none => none
def stripL (ops : Array Oper) : List Oper → Option (List SOp)
  | [] => some []
  | o :: rest => match stripG ops o.guard, stripL ops rest with
    | some g, some l => some ((o.dst, o.op, g) :: l)
    | _, _ => none
def gTest (ρ : Env) : Option (Tmp × Bool) → Option Bool
  | none => some true
  | some (t, want) => match ρ t with
    | .bool b => some (b == want)
    | .tuple xs => match xs with
      | [] => some false
      | _ => none
    | _ => none
/-- There is one, and it is as told. -/
def oV {α : Type} (r : Option α) (K : α → Prop) : Prop := match r with
  | some v => K v
  | none => False
/-- One operation. -/
def opS (P : Program) (ρ : Env) (H : Heap) (d : Option Tmp) (op : Op) (C : Env → Heap → Prop) : Prop :=
  match goCall op with
  | some (f, args) => callK P (aeval ρ f) (args.map (aeval ρ)) H fun v H' => C (updO ρ d v) H'
  | none => match aop P (aeval ρ) H op with
    | some (x, e) => C (updO ρ d x) (e.app H)
    | none => False
/-- A stretch. -/
def awpS (P : Program) (K : Env → Heap → Prop) : List SOp → Env → Heap → Prop
  | [], ρ, H => K ρ H
  | (d, op, g) :: rest, ρ, H => match gTest ρ g with
    | some b => if b = true then opS P ρ H d op (awpS P K rest) else awpS P K rest (updO ρ d (.tuple [])) H
    | none => False

section
variable {P : Program} {k : Nat} {Q : Exit → Env → Heap → Prop} {ρ : Env} {H : Heap} {cs : List Code} {K : Env → Heap → Prop} {C : Env → Heap → Prop} {d : Option Tmp}

theorem gTest_of {ops : Array Oper} {o : Oper} {g : Option (Tmp × Bool)} (h : stripG ops o.guard = some g) : aguard ops ρ o = gTest ρ g := by
  unfold stripG at h
  unfold aguard gTest
  split at h
  · rename_i hg
    obtain rfl := Option.some.inj h
    rw [hg]
  · rename_i j want hg
    rw [hg]
    simp only
    split at h
    · rename_i t ht
      obtain rfl := Option.some.inj h
      rw [ht]
      rfl
    · cases h
theorem opS_mono {op : Op} {C' : Env → Heap → Prop} (hC : ∀ ρ H, C ρ H → C' ρ H) (h : opS P ρ H d op C) : opS P ρ H d op C' := by
  unfold opS at h ⊢
  split at h
  · exact callK_mono h fun v H hk => hC _ _ hk
  · split at h
    · exact hC _ _ h
    · exact h
theorem awpS_of {ops : Array Oper} : ∀ (os : List Oper) (l : List SOp) (ρ : Env) (H : Heap), stripL ops os = some l → awpS P K l ρ H → awpOps P ops K os ρ H
  | [], l, ρ, H, hl, h => by
    obtain rfl := Option.some.inj hl
    exact h
  | o :: os, l, ρ, H, hl, h => by
    simp only [stripL] at hl
    split at hl
    · rename_i g l' hg hl'
      obtain rfl := Option.some.inj hl
      simp only [awpS] at h
      simp only [awpOps]
      rw [gTest_of hg]
      split at h
      · rename_i b hb
        rw [hb]
        split at h
        · rename_i h1
          simp only [if_pos h1]
          exact opS_mono (fun ρ H hk => awpS_of os l' ρ H hl' hk) h
        · rename_i h1
          simp only [if_neg h1]
          exact awpS_of os l' _ _ hl' h
      · exact h.elim
    · cases hl
theorem awpS_mono {K' : Env → Heap → Prop} (hK : ∀ ρ H, K ρ H → K' ρ H) : ∀ (l : List SOp) (ρ : Env) (H : Heap), awpS P K l ρ H → awpS P K' l ρ H
  | [], ρ, H, h => hK ρ H h
  | (d, op, g) :: rest, ρ, H, h => by
    simp only [awpS] at h ⊢
    split at h
    · split at h
      · rename_i hb
        rw [if_pos hb]
        exact opS_mono (fun ρ H hk => awpS_mono hK rest ρ H hk) h
      · rename_i hb
        rw [if_neg hb]
        exact awpS_mono hK rest _ _ h
    · exact h
theorem awpS_append {l' : List SOp} : ∀ (l : List SOp) (ρ : Env) (H : Heap), awpS P (awpS P K l') l ρ H → awpS P K (l ++ l') ρ H
  | [], ρ, H, h => h
  | (d, op, g) :: rest, ρ, H, h => by
    simp only [awpS, List.cons_append] at h ⊢
    split at h
    · split at h
      · rename_i hb
        rw [if_pos hb]
        exact opS_mono (fun ρ H hk => awpS_append rest ρ H hk) h
      · rename_i hb
        rw [if_neg hb]
        exact awpS_append rest _ _ h
    · exact h

theorem awl_regS {id : Nat} {ops : Array Oper} (l : List SOp) (hl : stripL ops ops.toList = some l) (h : ∀ K : Env → Heap → Prop, (∀ ρ H, wkQ k (awpL P k cs Q) ρ H → K ρ H) → awpS P K l ρ H) : awpL P k (.region id ops false :: cs) Q ρ H :=
  awl_reg fun K hK => awpS_of _ l ρ H hl (h K hK)

theorem oV_some {α : Type} {v : α} {K : α → Prop} : oV (some v) K = K v := (rfl)
theorem oV_none {α : Type} {K : α → Prop} : oV none K = False := (rfl)
theorem oV_ite {α : Type} {c : Prop} [Decidable c] {r : Option α} {K : α → Prop} : oV (if c then r else none) K = (c ∧ oV r K) := by
  by_cases h : c <;> simp [h, oV]
theorem oV_map {α β : Type} {f : α → β} {r : Option α} {K : β → Prop} : oV (r.map f) K = oV r fun x => K (f x) := by cases r <;> rfl
theorem oV_bind {α β : Type} {f : α → Option β} {r : Option α} {K : β → Prop} : oV (r.bind f) K = oV r fun x => oV (f x) K := by cases r <;> rfl

theorem awpS_nil : awpS P K [] ρ H = K ρ H := (rfl)
theorem awpS_op {op : Op} {rest : List SOp} : awpS P K ((d, op, none) :: rest) ρ H = opS P ρ H d op (awpS P K rest) := by simp [awpS, gTest]
theorem awpS_on {op : Op} {rest : List SOp} {t : Tmp} {want b : Bool} (h : ρ t = .bool b) (hb : (b == want) = true) : awpS P K ((d, op, some (t, want)) :: rest) ρ H = opS P ρ H d op (awpS P K rest) := by simp [awpS, gTest, h, hb]

theorem opS_move {x : Operand} : opS P ρ H d (.move x) C = C (updO ρ d (aeval ρ x)) H := (rfl)
theorem opS_assign {x : Operand} : opS P ρ H d (.assign x) C = C (updO ρ d (aeval ρ x)) H := (rfl)
theorem opS_val {op : Op} {r : Option AV} (hc : goCall op = none) (h : aop P (aeval ρ) H op = r.map fun v => (v, .nil)) : opS P ρ H d op C = oV r fun v => C (updO ρ d v) H := by
  unfold opS oV
  rw [hc]
  simp only
  rw [h]
  cases r <;> rfl
theorem opS_pick {c a b : Operand} : opS P ρ H d (.pick c a b) C = match aeval ρ c with
    | .bool t => C (updO ρ d (if t = true then aeval ρ a else aeval ρ b)) H
    | _ => False := by
  unfold opS
  simp only [goCall, aop]
  cases aeval ρ c <;> rfl
theorem opS_load {t : TypeId} {a : Operand} : opS P ρ H d (.load t a) C = oV (aLoad P H t (aeval ρ a)) fun v => C (updO ρ d v) H := opS_val rfl rfl
theorem opS_store {t : TypeId} {a x : Operand} : opS P ρ H d (.store t a x) C = oV (aStore P H t (aeval ρ a) (aeval ρ x)) fun e => C (updO ρ d .any) (e.app H) := by
  unfold opS oV
  simp only [goCall, aop]
  cases aStore P H t (aeval ρ a) (aeval ρ x) <;> rfl
theorem opS_un {o : UnOp} {t : TypeId} {x : Operand} : opS P ρ H d (.unOp o t x) C = oV (aUn o (aeval ρ x)) fun v => C (updO ρ d v) H := opS_val rfl rfl
theorem opS_bin {o : BinOp} {t t' : TypeId} {x y : Operand} : opS P ρ H d (.binOp o t x y t') C = (gOk x y (aeval ρ x) (aeval ρ y) = true ∧ oV (aBin P o t (aeval ρ x) (aeval ρ y)) fun v => C (updO ρ d v) H) := by
  unfold opS oV
  simp only [goCall, aop]
  split
  · rename_i x y h
    split at h
    · rename_i hg
      obtain ⟨v, h1, h2⟩ := Option.map_eq_some_iff.1 h
      obtain ⟨rfl, rfl⟩ := Prod.mk.inj h2
      rw [h1]
      simp [hg, AEff.app]
    · cases h
  · rename_i h
    split at h
    · rename_i hg
      rw [Option.map_eq_none_iff.1 h]
      simp
    · rename_i hg
      simp [hg]
theorem opS_fieldAddr {s f : Nat} {x : Operand} : opS P ρ H d (.fieldAddr s x f) C = oV (aFieldAddr P s f (aeval ρ x)) fun v => C (updO ρ d v) H := opS_val rfl rfl
theorem opS_field {s f : Nat} {x : Operand} : opS P ρ H d (.field s x f) C = oV (aField P s f (aeval ρ x)) fun v => C (updO ρ d v) H := opS_val rfl rfl
theorem opS_indexAddr {t : TypeId} {x i : Operand} : opS P ρ H d (.indexAddr t x i) C = oV (aIndexAddr P t (aeval ρ x) (aeval ρ i)) fun v => C (updO ρ d v) H := opS_val rfl rfl
theorem opS_index {t : TypeId} {x i : Operand} : opS P ρ H d (.index t x i) C = oV (aIndex P t (aeval ρ x) (aeval ρ i)) fun v => C (updO ρ d v) H := opS_val rfl rfl
theorem opS_slice {t : TypeId} {x : Operand} {lo hi mx : Option Operand} : opS P ρ H d (.slice t x lo hi mx) C = oV (aSlice P t (aeval ρ x) (lo.map (aeval ρ)) (hi.map (aeval ρ)) (mx.map (aeval ρ))) fun v => C (updO ρ d v) H := opS_val rfl rfl
theorem opS_extract {x : Operand} {i : Nat} : opS P ρ H d (.extract x i) C = match aeval ρ x with
    | .tuple vs => oV vs[i]? fun v => C (updO ρ d v) H
    | _ => False := by
  unfold opS oV
  simp only [goCall, aop]
  cases aeval ρ x <;> try rfl
  rename_i vs
  simp only
  cases vs[i]? <;> rfl
theorem opS_nilCheck {x : Operand} : opS P ρ H d (.nilCheck x) C = match aeval ρ x with
    | .ptr id off => C (updO ρ d (.ptr id off)) H
    | .sptr cs => C (updO ρ d (.sptr cs)) H
    | _ => False := by
  unfold opS
  simp only [goCall, aop]
  cases aeval ρ x <;> rfl
theorem opS_alloc {t : TypeId} : opS P ρ H d (.alloc t) C = oV (tZero P t) fun z => oV (tSize P t) fun n => z.length = n ∧ C (updO ρ d (.ptr H.length 0)) (H ++ [⟨n, z, true, false⟩]) := by
  unfold opS oV
  simp only [goCall, aop]
  cases tZero P t with
  | none => rfl
  | some z =>
    cases tSize P t with
    | none => rfl
    | some n =>
      simp only
      by_cases hz : z.length = n
      · simp [hz, AEff.app]
      · simp [hz]
theorem opS_box {t : TypeId} {x : Operand} : opS P ρ H d (.box t x) C = oV (aeval ρ x).cells? fun cs => C (updO ρ d (.ptr H.length 0)) (H ++ [⟨cs.length, cs, true, false⟩]) := by
  unfold opS oV
  simp only [goCall, aop]
  cases (aeval ρ x).cells? <;> rfl
theorem opS_build {t : TypeId} {ps : Array (Nat × Operand)} : opS P ρ H d (.build t ps) C = (tSct P t = true ∧ oV (tZero P t) fun z => oV (aFill P t z (ps.toList.map fun p => (p.1, aeval ρ p.2))) fun cs => C (updO ρ d (.agg cs)) H) := by
  unfold opS oV
  simp only [goCall, aop]
  cases tSct P t with
  | false => simp
  | true =>
    cases tZero P t with
    | none => simp
    | some z =>
      simp only
      cases aFill P t z (ps.toList.map fun p => (p.1, aeval ρ p.2)) <;> simp [AEff.app]
theorem opS_eff {op : Op} (hc : goCall op = none) : opS P ρ H d op C = oV (aop P (aeval ρ) H op) fun x => C (updO ρ d x.1) (x.2.app H) := by
  unfold opS oV
  rw [hc]
  cases aop P (aeval ρ) H op <;> rfl
theorem opS_buildSlice {t : TypeId} {n : Nat} {ps : Array (Nat × Operand)} : opS P ρ H d (.buildSlice t n ps) C = oV ((tElem P t).bind (tSize P)) fun sz => oV ((tElem P t).bind (tZero P)) fun z =>
    if n = 0 ∧ ps = #[] then C (updO ρ d .esl) H else (ps.size = n ∧ n * sz ≤ 16777216 ∧ z.length = sz ∧ 0 < sz) ∧ oV (aRow sz 0 (ps.toList.map fun p => (p.1, aeval ρ p.2))) fun cs => C (updO ρ d (.slice H.length 0 n n)) (H ++ [⟨sz, cs, true, false⟩]) := by
  rw [opS_eff rfl]
  simp only [aop]
  cases (tElem P t).bind (tSize P) with
  | none => rfl
  | some sz =>
    cases (tElem P t).bind (tZero P) with
    | none => rfl
    | some z =>
      simp only [oV_some]
      by_cases h0 : n = 0 ∧ ps = #[]
      · rw [if_pos h0, if_pos h0]
        rfl
      · rw [if_neg h0, if_neg h0, oV_ite]
        by_cases h1 : ps.size = n ∧ n * sz ≤ 16777216 ∧ z.length = sz ∧ 0 < sz
        · simp only [h1]
          cases aRow sz 0 (ps.toList.map fun p => (p.1, aeval ρ p.2)) <;> simp [oV, AEff.app]
        · simp only [h1, false_and]
theorem opS_convert {s t : TypeId} {x : Operand} : opS P ρ H d (.convert s t x) C = oV (aop P (aeval ρ) H (.convert s t x)) fun x => C (updO ρ d x.1) (x.2.app H) := opS_eff rfl
theorem opS_makeSlice {t : TypeId} {l c : Operand} : opS P ρ H d (.makeSlice t l c) C = oV (aMake P H t (aeval ρ l) (aeval ρ c)) fun x => C (updO ρ d x.1) (x.2.app H) := opS_eff rfl
theorem opS_makeFunc {f : FuncId} {first captured : Array Operand} : opS P ρ H d (.makeFunc (.func f) first captured) C = C (updO ρ d (.func f (first.toList.map (aeval ρ)) (captured.toList.map (aeval ρ)))) H := (rfl)
theorem opS_builtin {b : Builtin} {xs : Array Operand} {ts : Array TypeId} : opS P ρ H d (.call ⟨.builtin b, xs, ts⟩) C = oV (aBuiltin P H b (xs.toList.map (aeval ρ)) ts.toList) fun x => C (updO ρ d x.1) (x.2.app H) := opS_eff rfl
/-- A call. m: the blocks handed over. -/
theorem opS_call {f : Operand} {xs : Array Operand} {ts : Array TypeId} {g : FuncId} {first cap args : List AV} (hf : aeval ρ f = .func g first cap) (ha : first ++ xs.toList.map (aeval ρ) ++ cap = args)
    (m : List Nat) {v : AV} {h' Hb : Heap} (hC : CallOk P g args H m v h' Hb) (hK : C (updO ρ d (sh (mmap m H.length) v)) (back H m h')) : opS P ρ H d (.call ⟨.value f, xs, ts⟩) C := by
  subst ha
  unfold opS
  simp only [goCall, callK, hf]
  exact ⟨m, v, h', Hb, hC, hK⟩

theorem opS_call_ro {f : Operand} {xs : Array Operand} {ts : Array TypeId} {g : FuncId} {first cap args' : List AV} {v : AV} {h' : Heap} (hf : aeval ρ f = .func g first cap) (hS : Sat P g args' [] v h')
    (ha : (first ++ xs.toList.map (aeval ρ) ++ cap).map (bor H (idx []) fuel) = args') (hv : noS v = true) (hh : (h'.all fun b => noSL b.cells) = true)
    (hK : C (updO ρ d (sh (mmap [] H.length) v)) (H ++ h'.map (shB (mmap [] H.length)))) : opS P ρ H d (.call ⟨.value f, xs, ts⟩) C := by
  subst ha
  refine opS_call hf rfl [] (h' := h') (Hb := H) ⟨List.nodup_nil, by simp, hS, Or.inl ⟨fun _ _ h _ => h, hv, ?_⟩⟩ ?_
  · simpa [List.all_eq_true] using hh
  · unfold back
    rw [show (setAll (mmap [] H.length) H [] h') = H by cases h' <;> rfl]
    simpa using hK

/-- A call that is handed no block to write: what it reads it sees as it is. -/
theorem callOk_ro {g : FuncId} {args args' : List AV} {v : AV} {h' : Heap} (ha : args.map (bor H (idx []) fuel) = args') (hS : Sat P g args' [] v h') (hv : noS v = true) (hh : ∀ b, b ∈ h' → noSL b.cells = true) : CallOk P g args H [] v h' H := by
  subst ha
  exact ⟨List.nodup_nil, by simp, hS, Or.inl ⟨fun _ _ h _ => h, hv, hh⟩⟩
/-- A call whose arguments have no part in own blocks. -/
theorem callOk_free {g : FuncId} {args args' : List AV} {v : AV} {h' : Heap} (ha : args.map (bor [] (idx []) fuel) = args') (hS : Sat P g args' [] v h') : CallOk P g args H [] v h' [] := by
  subst ha
  exact ⟨List.nodup_nil, by simp, hS, Or.inr rfl⟩
/-- A call that is handed blocks. -/
theorem callOk_in {g : FuncId} {args args' : List AV} {m : List Nat} {hs : Heap} {v : AV} {h' : Heap} (hm : m.Nodup) (hl : ∀ id, id ∈ m → ∃ b, H[id]? = some b ∧ b.live = true) (ha : args.map (bor H (idx m) fuel) = args')
    (hh : (m.map fun id => borB H (idx m) fuel (H.getD id deadBlk)) = hs) (hS : Sat P g args' hs v h') (hv : noS v = true) (hh' : ∀ b, b ∈ h' → noSL b.cells = true) : CallOk P g args H m v h' H := by
  subst ha hh
  exact ⟨hm, hl, hS, Or.inl ⟨fun _ _ h _ => h, hv, hh'⟩⟩

/-- The temporaries that are looked at further on. -/
def liveE : List Tmp → Env → Env → Prop
  | [], _, _ => True
  | t :: L, ρ', ρ => ρ' t = ρ t ∧ liveE L ρ' ρ
theorem liveE_nil {ρ' : Env} : liveE [] ρ' ρ = True := (rfl)
theorem liveE_one {ρ' : Env} {t : Tmp} : liveE [t] ρ' ρ = (ρ' t = ρ t) := by simp [liveE]
theorem liveE_cons {ρ' : Env} {t u : Tmp} {L : List Tmp} : liveE (t :: u :: L) ρ' ρ = (ρ' t = ρ t ∧ liveE (u :: L) ρ' ρ) := (rfl)
theorem liveE_refl : ∀ (L : List Tmp) (ρ : Env), liveE L ρ ρ
  | [], _ => trivial
  | _ :: L, ρ => ⟨rfl, liveE_refl L ρ⟩
theorem liveE_iff {ρ' : Env} : ∀ {L : List Tmp}, (∀ u, u ∈ L → ρ' u = ρ u) ↔ liveE L ρ' ρ
  | [] => by simp [liveE]
  | t :: L => by simp [liveE, liveE_iff (L := L)]
theorem awl_live' (L : List Tmp) (h : ∀ ρ' : Env, liveE L ρ' ρ → awpL P k cs Q ρ' H) : awpL P k cs Q ρ H := h ρ (liveE_refl L ρ)
theorem awpS_live (L : List Tmp) {l : List SOp} (h : ∀ ρ' : Env, liveE L ρ' ρ → awpS P K l ρ' H) : awpS P K l ρ H := h ρ (liveE_refl L ρ)

/-- '&&': what stands behind it is done where what stands ahead of it holds. -/
theorem grp_and {l rest : List SOp} {tc tv td : Tmp} {b v : Bool} (L : List Tmp) (hc : ρ tc = .bool b) (hd : L.contains td = false)
    (hrun : b = true → ∀ K1 : Env → Heap → Prop, (∀ ρ' : Env, ρ' tc = .bool true → ρ' tv = .bool v → liveE L ρ' ρ → K1 ρ' H) → awpS P K1 l ρ H)
    (hskip : b = false → awpS P (fun ρ' H' => H' = H ∧ ∀ u, u ∈ tc :: L → ρ' u = ρ u) l ρ H)
    (hK : ∀ ρ' : Env, ρ' td = .bool (b && v) → liveE L ρ' ρ → awpS P K rest ρ' H) :
    awpS P K (l ++ (some td, .pick (.tmp tc) (.tmp tv) (.const (.bool false)), none) :: rest) ρ H := by
  have hput : ∀ (ρ' : Env) (x : AV), liveE L ρ' ρ → liveE L (upd ρ' td x) ρ := by
    intro ρ' x h
    refine liveE_iff.1 fun u hu => ?_
    unfold upd
    rw [if_neg]
    · exact liveE_iff.2 h u hu
    · rintro rfl
      rw [List.contains_iff_mem.2 hu] at hd
      cases hd
  refine awpS_append l ρ H ?_
  cases b with
  | true =>
    refine hrun rfl _ fun ρ' h1 h2 h3 => ?_
    rw [awpS_op, opS_pick]
    simp only [aeval, h1, if_true, h2]
    exact hK _ (by simp [updO, upd]) (hput _ _ h3)
  | false =>
    refine awpS_mono ?_ l ρ H (hskip rfl)
    rintro ρ' H' ⟨rfl, h2⟩
    rw [awpS_op, opS_pick]
    simp only [aeval]
    rw [h2 tc (by simp), hc]
    exact hK _ (by simp [updO, upd, ofV]) (hput _ _ (liveE_iff.1 fun u hu => h2 u (by simp [hu])))
theorem grp_or {l rest : List SOp} {tc tv td : Tmp} {b v : Bool} (L : List Tmp) (hc : ρ tc = .bool b) (hd : L.contains td = false)
    (hrun : b = false → ∀ K1 : Env → Heap → Prop, (∀ ρ' : Env, ρ' tc = .bool false → ρ' tv = .bool v → liveE L ρ' ρ → K1 ρ' H) → awpS P K1 l ρ H)
    (hskip : b = true → awpS P (fun ρ' H' => H' = H ∧ ∀ u, u ∈ tc :: L → ρ' u = ρ u) l ρ H)
    (hK : ∀ ρ' : Env, ρ' td = .bool (b || v) → liveE L ρ' ρ → awpS P K rest ρ' H) :
    awpS P K (l ++ (some td, .pick (.tmp tc) (.const (.bool true)) (.tmp tv), none) :: rest) ρ H := by
  have hput : ∀ (ρ' : Env) (x : AV), liveE L ρ' ρ → liveE L (upd ρ' td x) ρ := by
    intro ρ' x h
    refine liveE_iff.1 fun u hu => ?_
    unfold upd
    rw [if_neg]
    · exact liveE_iff.2 h u hu
    · rintro rfl
      rw [List.contains_iff_mem.2 hu] at hd
      cases hd
  refine awpS_append l ρ H ?_
  cases b with
  | false =>
    refine hrun rfl _ fun ρ' h1 h2 h3 => ?_
    rw [awpS_op, opS_pick]
    simp only [aeval, h1, Bool.false_eq_true, if_false, h2]
    exact hK _ (by simp [updO, upd]) (hput _ _ h3)
  | true =>
    refine awpS_mono ?_ l ρ H (hskip rfl)
    rintro ρ' H' ⟨rfl, h2⟩
    rw [awpS_op, opS_pick]
    simp only [aeval]
    rw [h2 tc (by simp), hc]
    exact hK _ (by simp [updO, upd, ofV]) (hput _ _ (liveE_iff.1 fun u hu => h2 u (by simp [hu])))
theorem grp_andG {l rest : List SOp} {tc tv td : Tmp} {b v : Bool} (to : Tmp) (wo : Bool) (ho : ρ to = .bool wo) (L : List Tmp) (hto : L.contains to = true) (hc : ρ tc = .bool b) (hd : L.contains td = false)
    (hrun : b = true → ∀ K1 : Env → Heap → Prop, (∀ ρ' : Env, ρ' tc = .bool true → ρ' tv = .bool v → liveE L ρ' ρ → K1 ρ' H) → awpS P K1 l ρ H)
    (hskip : b = false → awpS P (fun ρ' H' => H' = H ∧ ∀ u, u ∈ tc :: L → ρ' u = ρ u) l ρ H)
    (hK : ∀ ρ' : Env, ρ' td = .bool (b && v) → liveE L ρ' ρ → awpS P K rest ρ' H) :
    awpS P K (l ++ (some td, .pick (.tmp tc) (.tmp tv) (.const (.bool false)), some (to, wo)) :: rest) ρ H := by
  have hput : ∀ (ρ' : Env) (x : AV), liveE L ρ' ρ → liveE L (upd ρ' td x) ρ := by
    intro ρ' x h
    refine liveE_iff.1 fun u hu => ?_
    unfold upd
    rw [if_neg]
    · exact liveE_iff.2 h u hu
    · rintro rfl
      rw [List.contains_iff_mem.2 hu] at hd
      cases hd
  have hto' := List.contains_iff_mem.1 hto
  refine awpS_append l ρ H ?_
  cases b with
  | true =>
    refine hrun rfl _ fun ρ' h1 h2 h3 => ?_
    rw [awpS_on ((liveE_iff.2 h3 to hto').trans ho) (beq_self_eq_true _), opS_pick]
    simp only [aeval, h1, if_true, h2]
    exact hK _ (by simp [updO, upd]) (hput _ _ h3)
  | false =>
    refine awpS_mono ?_ l ρ H (hskip rfl)
    rintro ρ' H' ⟨rfl, h2⟩
    rw [awpS_on ((h2 to (by simp [hto'])).trans ho) (beq_self_eq_true _), opS_pick]
    simp only [aeval]
    rw [h2 tc (by simp), hc]
    exact hK _ (by simp [updO, upd, ofV]) (hput _ _ (liveE_iff.1 fun u hu => h2 u (by simp [hu])))
theorem grp_orG {l rest : List SOp} {tc tv td : Tmp} {b v : Bool} (to : Tmp) (wo : Bool) (ho : ρ to = .bool wo) (L : List Tmp) (hto : L.contains to = true) (hc : ρ tc = .bool b) (hd : L.contains td = false)
    (hrun : b = false → ∀ K1 : Env → Heap → Prop, (∀ ρ' : Env, ρ' tc = .bool false → ρ' tv = .bool v → liveE L ρ' ρ → K1 ρ' H) → awpS P K1 l ρ H)
    (hskip : b = true → awpS P (fun ρ' H' => H' = H ∧ ∀ u, u ∈ tc :: L → ρ' u = ρ u) l ρ H)
    (hK : ∀ ρ' : Env, ρ' td = .bool (b || v) → liveE L ρ' ρ → awpS P K rest ρ' H) :
    awpS P K (l ++ (some td, .pick (.tmp tc) (.const (.bool true)) (.tmp tv), some (to, wo)) :: rest) ρ H := by
  have hput : ∀ (ρ' : Env) (x : AV), liveE L ρ' ρ → liveE L (upd ρ' td x) ρ := by
    intro ρ' x h
    refine liveE_iff.1 fun u hu => ?_
    unfold upd
    rw [if_neg]
    · exact liveE_iff.2 h u hu
    · rintro rfl
      rw [List.contains_iff_mem.2 hu] at hd
      cases hd
  have hto' := List.contains_iff_mem.1 hto
  refine awpS_append l ρ H ?_
  cases b with
  | false =>
    refine hrun rfl _ fun ρ' h1 h2 h3 => ?_
    rw [awpS_on ((liveE_iff.2 h3 to hto').trans ho) (beq_self_eq_true _), opS_pick]
    simp only [aeval, h1, Bool.false_eq_true, if_false, h2]
    exact hK _ (by simp [updO, upd]) (hput _ _ h3)
  | true =>
    refine awpS_mono ?_ l ρ H (hskip rfl)
    rintro ρ' H' ⟨rfl, h2⟩
    rw [awpS_on ((h2 to (by simp [hto'])).trans ho) (beq_self_eq_true _), opS_pick]
    simp only [aeval]
    rw [h2 tc (by simp), hc]
    exact hK _ (by simp [updO, upd, ofV]) (hput _ _ (liveE_iff.1 fun u hu => h2 u (by simp [hu])))
def skipOk (t : Tmp) (want : Bool) (L : List Tmp) : List Tmp → List SOp → Bool
  | _, [] => true
  | seen, (d, _, g) :: rest => (match g with
    | some (t', w) => (t' == t && w == want) || seen.contains t'
    | none => false) && (match d with
    | some d => !(t :: L).contains d && skipOk t want L (d :: seen) rest
    | none => skipOk t want L seen rest)
/-- None of a stretch is done. -/
theorem awpS_skip {t : Tmp} {want b : Bool} {L : List Tmp} {ρ0 : Env} (hb : (b == want) = false) : ∀ (l : List SOp) (seen : List Tmp) (ρ : Env), ρ t = .bool b → (∀ u, u ∈ L → ρ u = ρ0 u) → (∀ u, u ∈ seen → ρ u = .tuple []) →
    skipOk t want L seen l = true → awpS P (fun ρ' H' => H' = H ∧ ∀ u, u ∈ L → ρ' u = ρ0 u) l ρ H
  | [], seen, ρ, _, h2, _, _ => ⟨rfl, h2⟩
  | (d, op, g) :: rest, seen, ρ, h1, h2, h3, h4 => by
    simp only [skipOk, Bool.and_eq_true] at h4
    obtain ⟨h5, h6⟩ := h4
    have hg : gTest ρ g = some false := by
      unfold gTest
      cases g with
      | none => cases h5
      | some x =>
        obtain ⟨t', w⟩ := x
        simp only [Bool.or_eq_true, Bool.and_eq_true, beq_iff_eq] at h5
        rcases h5 with ⟨rfl, rfl⟩ | h5
        · simp only [h1, hb]
        · rw [List.contains_iff_mem] at h5
          simp only [h3 t' h5]
    simp only [awpS, hg]
    cases d with
    | none => exact awpS_skip hb rest seen ρ h1 h2 h3 h6
    | some d =>
      simp only [Bool.and_eq_true, Bool.not_eq_true', List.contains_eq_mem, decide_eq_false_iff_not, List.mem_cons, not_or] at h6
      obtain ⟨⟨h7, h8⟩, h9⟩ := h6
      refine awpS_skip hb rest (d :: seen) _ ?_ ?_ ?_ h9
      · simp only [updO, upd]
        rw [if_neg (fun e => h7 e.symm)]
        exact h1
      · intro u hu
        simp only [updO, upd]
        rw [if_neg (by rintro rfl; exact h8 hu)]
        exact h2 u hu
      · intro u hu
        simp only [updO, upd]
        split
        · rfl
        · rename_i hne
          rcases List.mem_cons.1 hu with h | h
          · exact absurd h hne
          · exact h3 u h
end
end Go.Proofs.Ytgddflnhibhacaa.AM
