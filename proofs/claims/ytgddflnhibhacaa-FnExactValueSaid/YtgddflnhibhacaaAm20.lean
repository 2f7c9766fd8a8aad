/- The abstract machine, part 20: a drawn stretch without its marks; what a walk does not look into. No conditions. -/
import Derived.Test.YtgddflnhibhacaaAm19
set_option linter.unusedVariables false
set_option linter.unusedSimpArgs false
namespace Go.Proofs.Ytgddflnhibhacaa.AM
open Go

/-- What an operation writes. -/
def opW (f : Operand → AV) : Op → List Nat
  | .store _ a _ => (f a).ids
  | .convert s d x => if s = d ∧ (f x).isSl = true then (f x).ids else []
  | .call c => match c.callee, c.args.toList with
    | .builtin .append, x :: _ => (f x).ids
    | .builtin .copy, x :: _ => (f x).ids
    | .builtin .clear, x :: _ => (f x).ids
    | _, _ => []
  | _ => []

section
variable {P : Program} {k : Nat} {Q : Exit → Env → Heap → Prop} {ρ : Env} {H : Heap} {cs : List Code} {K : Env → Heap → Prop} {C : Env → Heap → Prop} {d : Option Tmp}

theorem opW_of {f : Operand → AV} {op : Op} {x : AV} {e : AEff} (h : aop P f H op = some (x, e)) : e.wr = opW f op := by
  have map : ∀ {o : Option AV}, (o.map fun v => (v, AEff.nil)) = some (x, e) → e.wr = [] := by
    intro o h
    obtain ⟨_, _, h2⟩ := Option.map_eq_some_iff.1 h
    obtain ⟨_, rfl⟩ := Prod.mk.inj h2
    rfl
  cases op with
  | store t y z =>
    simp only [aop] at h
    obtain ⟨e', h1, h2⟩ := Option.map_eq_some_iff.1 h
    obtain ⟨_, rfl⟩ := Prod.mk.inj h2
    unfold aStore at h1
    split at h1
    case h_2 => cases h1
    rename_i id off hy
    split at h1
    case h_2 => cases h1
    split at h1
    case isFalse => cases h1
    obtain rfl := Option.some.inj h1
    simp only [opW, hy, AV.ids, AEff.wr]
  | makeSlice t l c => simpa [opW] using aMake_wr h
  | call c =>
    obtain ⟨callee, xs, ts⟩ := c
    simp only [aop] at h
    split at h
    · unfold aBuiltin at h
      split at h
      · split at h
        · simpa [opW] using map h
        · cases h
      · split at h
        · simpa [opW] using map h
        · cases h
      · split at h
        · rename_i s x' t t' hxs hts
          have hs : ∃ y rest, xs.toList = y :: rest ∧ f y = s := by
            cases hx : xs.toList with
            | nil => simp [hx] at hxs
            | cons y rest => simp [hx] at hxs; exact ⟨y, rest, rfl, hxs.1⟩
          obtain ⟨y, rest, h1, h2⟩ := hs
          simp only [opW, h1, h2]
          unfold aAppend at h
          split at h
          · cases h
          split at h
          case h_2 => cases h
          split at h
          · cases h
          split at h
          · cases h
          split at h
          · split at h
            · obtain ⟨_, rfl⟩ := Prod.mk.inj (Option.some.inj h)
              rfl
            · cases h
          · split at h
            · obtain ⟨_, rfl⟩ := Prod.mk.inj (Option.some.inj h)
              rfl
            · cases h
          · split at h
            · cases h
            split at h
            case isFalse => cases h
            split at h
            · obtain ⟨_, rfl⟩ := Prod.mk.inj (Option.some.inj h)
              rfl
            · obtain ⟨_, rfl⟩ := Prod.mk.inj (Option.some.inj h)
              rfl
          · cases h
        · cases h
      · split at h
        · rename_i s x' t t' hxs hts
          have hs : ∃ y rest, xs.toList = y :: rest ∧ f y = s := by
            cases hx : xs.toList with
            | nil => simp [hx] at hxs
            | cons y rest => simp [hx] at hxs; exact ⟨y, rest, rfl, hxs.1⟩
          obtain ⟨y, rest, h1, h2⟩ := hs
          simp only [opW, h1, h2]
          unfold aCopy at h
          split at h
          · cases h
          split at h
          case h_2 => cases h
          split at h
          · cases h
          split at h
          · cases h
          split at h
          case h_2 => cases h
          try simp only at h
          split at h
          · cases h
          split at h
          case isFalse => cases h
          obtain ⟨_, rfl⟩ := Prod.mk.inj (Option.some.inj h)
          rfl
        · cases h
      · split at h
        · rename_i s t hxs hts
          have hs : ∃ y rest, xs.toList = y :: rest ∧ f y = s := by
            cases hx : xs.toList with
            | nil => simp [hx] at hxs
            | cons y rest => simp [hx] at hxs; exact ⟨y, rest, rfl, hxs.1⟩
          obtain ⟨y, rest, h1, h2⟩ := hs
          simp only [opW, h1, h2]
          obtain ⟨e', h3, h4⟩ := Option.map_eq_some_iff.1 h
          obtain ⟨_, rfl⟩ := Prod.mk.inj h4
          unfold aClear at h3
          split at h3
          · cases h3
          split at h3
          case h_2 => cases h3
          split at h3
          · cases h3
          split at h3
          case h_2 => cases h3
          try simp only at h3
          split at h3
          · cases h3
          split at h3
          case isFalse => cases h3
          obtain rfl := Option.some.inj h3
          rfl
        · cases h
      · split at h
        · split at h
          · obtain ⟨_, rfl⟩ := Prod.mk.inj (Option.some.inj h)
            rfl
          · cases h
        · cases h
      · split at h
        · split at h
          · obtain ⟨_, rfl⟩ := Prod.mk.inj (Option.some.inj h)
            rfl
          · cases h
        · cases h
      · cases h
    · cases h
  | makeFunc g first cap =>
    cases g <;> simp only [aop, Option.some.injEq, Prod.mk.injEq, reduceCtorEq] at h
    obtain ⟨_, rfl⟩ := h
    rfl
  | load t y => exact map h
  | unOp o t y => exact map h
  | slice t y lo hi mx => exact map h
  | fieldAddr s y f => exact map h
  | field s y f => exact map h
  | indexAddr t y i => exact map h
  | index t y i => exact map h
  | binOp o t y z t' =>
    simp only [aop] at h
    split at h
    · exact map h
    · cases h
  | extract y i =>
    simp only [aop] at h
    split at h
    · exact map h
    · cases h
  | move y =>
    simp only [aop, Option.some.injEq, Prod.mk.injEq] at h
    obtain ⟨_, rfl⟩ := h
    rfl
  | assign y =>
    simp only [aop, Option.some.injEq, Prod.mk.injEq] at h
    obtain ⟨_, rfl⟩ := h
    rfl
  | pick c y z =>
    simp only [aop] at h
    split at h
    · obtain ⟨_, rfl⟩ := Prod.mk.inj (Option.some.inj h)
      rfl
    · cases h
  | nilCheck y =>
    simp only [aop] at h
    split at h
    · obtain ⟨_, rfl⟩ := Prod.mk.inj (Option.some.inj h)
      rfl
    · obtain ⟨_, rfl⟩ := Prod.mk.inj (Option.some.inj h)
      rfl
    · cases h
  | alloc t =>
    simp only [aop] at h
    split at h
    · split at h
      · obtain ⟨_, rfl⟩ := Prod.mk.inj (Option.some.inj h)
        rfl
      · cases h
    · cases h
  | box t y =>
    simp only [aop] at h
    split at h
    · obtain ⟨_, rfl⟩ := Prod.mk.inj (Option.some.inj h)
      rfl
    · cases h
  | build t ps =>
    simp only [aop] at h
    split at h
    · split at h
      · obtain ⟨_, rfl⟩ := Prod.mk.inj (Option.some.inj h)
        rfl
      · cases h
    · cases h
  | buildSlice t m ps =>
    simp only [aop] at h
    split at h
    · split at h
      · obtain ⟨_, rfl⟩ := Prod.mk.inj (Option.some.inj h)
        rfl
      · split at h
        · split at h
          · obtain ⟨_, rfl⟩ := Prod.mk.inj (Option.some.inj h)
            rfl
          · cases h
        · cases h
    · cases h
  | convert s d y =>
    simp only [aop] at h
    split at h
    · rename_i hsd
      simp only [opW]
      rw [if_pos hsd]
      unfold aSelf at h
      split at h
      case h_2 => cases h
      rename_i hy
      split at h
      case h_2 => cases h
      split at h
      case isFalse => cases h
      obtain ⟨_, rfl⟩ := Prod.mk.inj (Option.some.inj h)
      rw [hy]
      rfl
    rename_i hsd
    simp only [opW]
    rw [if_neg hsd]
    split at h
    · split at h
      · obtain ⟨_, rfl⟩ := Prod.mk.inj (Option.some.inj h)
        rfl
      · cases h
    · split at h
      · split at h
        · obtain ⟨_, rfl⟩ := Prod.mk.inj (Option.some.inj h)
          rfl
        · cases h
      · cases h
    · split at h
      · split at h
        · obtain ⟨_, rfl⟩ := Prod.mk.inj (Option.some.inj h)
          rfl
        · cases h
      · cases h
  | _ => simp [aop] at h

/-- A drawn stretch. -/
def awpDS (P : Program) (ops : Array Oper) (K : Env → Heap → Prop) : List SOp → List Foot → Env → Heap → Prop
  | [], acc, ρ, H => (∃ A, dOk ops acc.reverse A = true) ∧ K ρ H
  | (d, op, g) :: rest, acc, ρ, H => match gTest ρ g with
    | none => False
    | some false => awpDS P ops K rest (⟨H.length, H.length, [], []⟩ :: acc) (updO ρ d (.tuple [])) H
    | some true => match goCall op with
      | some (f, args) => match aeval ρ f with
        | .func g first cap => ∃ m v h' Hb, CallOk P g (first ++ args.map (aeval ρ) ++ cap) H m v h' Hb ∧ awpDS P ops K rest (⟨H.length, (back H m h').length, m, m ++ liveIds Hb⟩ :: acc) (updO ρ d (sh (mmap m H.length) v)) (back H m h')
        | _ => False
      | none => opS P ρ H d op fun ρ' H' => awpDS P ops K rest (⟨H.length, H'.length, opW (aeval ρ) op, (afoot (aeval ρ) op ++ opW (aeval ρ) op).filter (· < H.length)⟩ :: acc) ρ' H'
def dK (P : Program) (ops : Array Oper) (K : Env → Heap → Prop) (rest : List SOp) (n0 : Nat) (W R : List Nat) (acc : List Foot) (ρ : Env) (H : Heap) : Prop :=
  awpDS P ops K rest (⟨n0, H.length, W, R⟩ :: acc) ρ H

/-- A value, and what is so of it. -/
def withV {α : Type} (x : α) (K : α → Prop) : Prop := K x
theorem withV_eq {α : Type} {x : α} {K : α → Prop} : withV x K = K x := (rfl)
theorem withV_congr {α : Type} {x y : α} {K : α → Prop} (h : x = y) : withV x K = withV y K := by rw [h]

theorem awpDS_of {ops : Array Oper} : ∀ (os : List Oper) (l : List SOp) (acc : List Foot) (ρ : Env) (H : Heap), stripL ops os = some l → awpDS P ops K l acc ρ H → awpD P ops K os acc ρ H
  | [], l, acc, ρ, H, hl, h => by
    obtain rfl := Option.some.inj hl
    exact h
  | o :: os, l, acc, ρ, H, hl, h => by
    simp only [stripL] at hl
    split at hl
    · rename_i g l' hg hl'
      obtain rfl := Option.some.inj hl
      simp only [awpDS] at h
      simp only [awpD]
      rw [gTest_of hg]
      split at h
      · exact h.elim
      · rename_i hb
        rw [hb]
        exact awpDS_of os l' _ _ _ hl' h
      · rename_i hb
        rw [hb]
        simp only
        split at h
        · rename_i f args hc
          rw [hc]
          simp only
          split at h
          · rename_i hf
            rw [hf]
            obtain ⟨m, v, h', Hb, hC, hk⟩ := h
            exact ⟨m, v, h', Hb, hC, awpDS_of os l' _ _ _ hl' hk⟩
          · exact h.elim
        · rename_i hc
          unfold opS at h
          rw [hc] at h ⊢
          simp only at h ⊢
          split at h
          · rename_i x e hx
            rw [hx]
            simp only
            rw [opW_of hx]
            exact awpDS_of os l' _ _ _ hl' h
          · exact h.elim
    · cases hl

theorem awl_regD {id : Nat} {ops : Array Oper} (hm : P.follows .mixedOrders = true) (l : List SOp) (hl : stripL ops ops.toList = some l) (h : ∀ K : Env → Heap → Prop, (∀ ρ H, wkQ k (awpL P k cs Q) ρ H → K ρ H) → awpDS P ops K l [] ρ H) : awpL P k (.region id ops true :: cs) Q ρ H :=
  awl_regDraw hm fun K hK => awpDS_of _ l [] ρ H hl (h K hK)
theorem awpDS_op {ops : Array Oper} {op : Op} {rest : List SOp} {acc : List Foot} (hc : goCall op = none) : awpDS P ops K ((d, op, none) :: rest) acc ρ H = withV H.length fun n0 => withV (opW (aeval ρ) op) fun W => withV ((afoot (aeval ρ) op ++ opW (aeval ρ) op).filter (· < H.length)) fun R => opS P ρ H d op (dK P ops K rest n0 W R acc) := by
  simp only [awpDS, gT_none, hc]
  rfl
theorem dK_app {ops : Array Oper} {rest : List SOp} {n0 : Nat} {W R : List Nat} {acc : List Foot} : dK P ops K rest n0 W R acc ρ H = awpDS P ops K rest (⟨n0, H.length, W, R⟩ :: acc) ρ H := (rfl)
theorem dS_call_ro {ops : Array Oper} {rest : List SOp} {acc : List Foot} {f : Operand} {xs : Array Operand} {ts : Array TypeId} {g : FuncId} {first cap args' : List AV} {v : AV} {h' : Heap} (hf : aeval ρ f = .func g first cap) (hS : Sat P g args' [] v h')
    (ha : (first ++ xs.toList.map (aeval ρ) ++ cap).map (bor H (idx []) fuel) = args') (hv : noS v = true) (hh : (h'.all fun b => noSL b.cells) = true)
    (hK : awpDS P ops K rest (⟨H.length, H.length + h'.length, [], liveIds H⟩ :: acc) (updO ρ d (sh (mmap [] H.length) v)) (H ++ h'.map (shB (mmap [] H.length)))) : awpDS P ops K ((d, .call ⟨.value f, xs, ts⟩, none) :: rest) acc ρ H := by
  subst ha
  simp only [awpDS, gT_none, goCall, hf]
  have hb : back H [] h' = H ++ h'.map (shB (mmap [] H.length)) := by
    unfold back
    rw [show (setAll (mmap [] H.length) H [] h') = H by cases h' <;> rfl]
    simp
  refine ⟨[], v, h', H, ⟨List.nodup_nil, by simp, hS, Or.inl ⟨fun _ _ h _ => h, hv, ?_⟩⟩, ?_⟩
  · simpa [List.all_eq_true] using hh
  · rw [hb]
    simpa using hK
/-- A call that looks at no own block. -/
theorem dS_call_free {ops : Array Oper} {rest : List SOp} {acc : List Foot} {f : Operand} {xs : Array Operand} {ts : Array TypeId} {g : FuncId} {first cap args' : List AV} {v : AV} {h' : Heap} (hf : aeval ρ f = .func g first cap) (hS : Sat P g args' [] v h')
    (ha : (first ++ xs.toList.map (aeval ρ) ++ cap).map (bor [] (idx []) fuel) = args')
    (hK : awpDS P ops K rest (⟨H.length, H.length + h'.length, [], []⟩ :: acc) (updO ρ d (sh (mmap [] H.length) v)) (H ++ h'.map (shB (mmap [] H.length)))) : awpDS P ops K ((d, .call ⟨.value f, xs, ts⟩, none) :: rest) acc ρ H := by
  subst ha
  simp only [awpDS, gT_none, goCall, hf]
  have hb : back H [] h' = H ++ h'.map (shB (mmap [] H.length)) := by
    unfold back
    rw [show (setAll (mmap [] H.length) H [] h') = H by cases h' <;> rfl]
    simp
  refine ⟨[], v, h', [], ⟨List.nodup_nil, by simp, hS, Or.inr rfl⟩, ?_⟩
  rw [hb]
  simpa [liveIds] using hK
theorem goCall_move {x : Operand} : goCall (.move x) = none := (rfl)
theorem awpDS_move {ops : Array Oper} {rest : List SOp} {acc : List Foot} {x : Operand} : awpDS P ops K ((d, (.move x), none) :: rest) acc ρ H = withV H.length fun n0 => withV (opW (aeval ρ) (.move x)) fun W => withV ((afoot (aeval ρ) (.move x) ++ opW (aeval ρ) (.move x)).filter (· < H.length)) fun R => opS P ρ H d (.move x) (dK P ops K rest n0 W R acc) := awpDS_op rfl
theorem goCall_assign {x : Operand} : goCall (.assign x) = none := (rfl)
theorem awpDS_assign {ops : Array Oper} {rest : List SOp} {acc : List Foot} {x : Operand} : awpDS P ops K ((d, (.assign x), none) :: rest) acc ρ H = withV H.length fun n0 => withV (opW (aeval ρ) (.assign x)) fun W => withV ((afoot (aeval ρ) (.assign x) ++ opW (aeval ρ) (.assign x)).filter (· < H.length)) fun R => opS P ρ H d (.assign x) (dK P ops K rest n0 W R acc) := awpDS_op rfl
theorem goCall_pick {c x y : Operand} : goCall (.pick c x y) = none := (rfl)
theorem awpDS_pick {ops : Array Oper} {rest : List SOp} {acc : List Foot} {c x y : Operand} : awpDS P ops K ((d, (.pick c x y), none) :: rest) acc ρ H = withV H.length fun n0 => withV (opW (aeval ρ) (.pick c x y)) fun W => withV ((afoot (aeval ρ) (.pick c x y) ++ opW (aeval ρ) (.pick c x y)).filter (· < H.length)) fun R => opS P ρ H d (.pick c x y) (dK P ops K rest n0 W R acc) := awpDS_op rfl
theorem goCall_load {t : TypeId} {x : Operand} : goCall (.load t x) = none := (rfl)
theorem awpDS_load {ops : Array Oper} {rest : List SOp} {acc : List Foot} {t : TypeId} {x : Operand} : awpDS P ops K ((d, (.load t x), none) :: rest) acc ρ H = withV H.length fun n0 => withV (opW (aeval ρ) (.load t x)) fun W => withV ((afoot (aeval ρ) (.load t x) ++ opW (aeval ρ) (.load t x)).filter (· < H.length)) fun R => opS P ρ H d (.load t x) (dK P ops K rest n0 W R acc) := awpDS_op rfl
theorem goCall_store {t : TypeId} {x y : Operand} : goCall (.store t x y) = none := (rfl)
theorem awpDS_store {ops : Array Oper} {rest : List SOp} {acc : List Foot} {t : TypeId} {x y : Operand} : awpDS P ops K ((d, (.store t x y), none) :: rest) acc ρ H = withV H.length fun n0 => withV (opW (aeval ρ) (.store t x y)) fun W => withV ((afoot (aeval ρ) (.store t x y) ++ opW (aeval ρ) (.store t x y)).filter (· < H.length)) fun R => opS P ρ H d (.store t x y) (dK P ops K rest n0 W R acc) := awpDS_op rfl
theorem goCall_un {o : UnOp} {t : TypeId} {x : Operand} : goCall (.unOp o t x) = none := (rfl)
theorem awpDS_un {ops : Array Oper} {rest : List SOp} {acc : List Foot} {o : UnOp} {t : TypeId} {x : Operand} : awpDS P ops K ((d, (.unOp o t x), none) :: rest) acc ρ H = withV H.length fun n0 => withV (opW (aeval ρ) (.unOp o t x)) fun W => withV ((afoot (aeval ρ) (.unOp o t x) ++ opW (aeval ρ) (.unOp o t x)).filter (· < H.length)) fun R => opS P ρ H d (.unOp o t x) (dK P ops K rest n0 W R acc) := awpDS_op rfl
theorem goCall_bin {o : BinOp} {t t2 : TypeId} {x y : Operand} : goCall (.binOp o t x y t2) = none := (rfl)
theorem awpDS_bin {ops : Array Oper} {rest : List SOp} {acc : List Foot} {o : BinOp} {t t2 : TypeId} {x y : Operand} : awpDS P ops K ((d, (.binOp o t x y t2), none) :: rest) acc ρ H = withV H.length fun n0 => withV (opW (aeval ρ) (.binOp o t x y t2)) fun W => withV ((afoot (aeval ρ) (.binOp o t x y t2) ++ opW (aeval ρ) (.binOp o t x y t2)).filter (· < H.length)) fun R => opS P ρ H d (.binOp o t x y t2) (dK P ops K rest n0 W R acc) := awpDS_op rfl
theorem goCall_fieldAddr {s f : Nat} {x : Operand} : goCall (.fieldAddr s x f) = none := (rfl)
theorem awpDS_fieldAddr {ops : Array Oper} {rest : List SOp} {acc : List Foot} {s f : Nat} {x : Operand} : awpDS P ops K ((d, (.fieldAddr s x f), none) :: rest) acc ρ H = withV H.length fun n0 => withV (opW (aeval ρ) (.fieldAddr s x f)) fun W => withV ((afoot (aeval ρ) (.fieldAddr s x f) ++ opW (aeval ρ) (.fieldAddr s x f)).filter (· < H.length)) fun R => opS P ρ H d (.fieldAddr s x f) (dK P ops K rest n0 W R acc) := awpDS_op rfl
theorem goCall_field {s f : Nat} {x : Operand} : goCall (.field s x f) = none := (rfl)
theorem awpDS_field {ops : Array Oper} {rest : List SOp} {acc : List Foot} {s f : Nat} {x : Operand} : awpDS P ops K ((d, (.field s x f), none) :: rest) acc ρ H = withV H.length fun n0 => withV (opW (aeval ρ) (.field s x f)) fun W => withV ((afoot (aeval ρ) (.field s x f) ++ opW (aeval ρ) (.field s x f)).filter (· < H.length)) fun R => opS P ρ H d (.field s x f) (dK P ops K rest n0 W R acc) := awpDS_op rfl
theorem goCall_indexAddr {t : TypeId} {x y : Operand} : goCall (.indexAddr t x y) = none := (rfl)
theorem awpDS_indexAddr {ops : Array Oper} {rest : List SOp} {acc : List Foot} {t : TypeId} {x y : Operand} : awpDS P ops K ((d, (.indexAddr t x y), none) :: rest) acc ρ H = withV H.length fun n0 => withV (opW (aeval ρ) (.indexAddr t x y)) fun W => withV ((afoot (aeval ρ) (.indexAddr t x y) ++ opW (aeval ρ) (.indexAddr t x y)).filter (· < H.length)) fun R => opS P ρ H d (.indexAddr t x y) (dK P ops K rest n0 W R acc) := awpDS_op rfl
theorem goCall_index {t : TypeId} {x y : Operand} : goCall (.index t x y) = none := (rfl)
theorem awpDS_index {ops : Array Oper} {rest : List SOp} {acc : List Foot} {t : TypeId} {x y : Operand} : awpDS P ops K ((d, (.index t x y), none) :: rest) acc ρ H = withV H.length fun n0 => withV (opW (aeval ρ) (.index t x y)) fun W => withV ((afoot (aeval ρ) (.index t x y) ++ opW (aeval ρ) (.index t x y)).filter (· < H.length)) fun R => opS P ρ H d (.index t x y) (dK P ops K rest n0 W R acc) := awpDS_op rfl
theorem goCall_slice {t : TypeId} {x : Operand} {l h m : Option Operand} : goCall (.slice t x l h m) = none := (rfl)
theorem awpDS_slice {ops : Array Oper} {rest : List SOp} {acc : List Foot} {t : TypeId} {x : Operand} {l h m : Option Operand} : awpDS P ops K ((d, (.slice t x l h m), none) :: rest) acc ρ H = withV H.length fun n0 => withV (opW (aeval ρ) (.slice t x l h m)) fun W => withV ((afoot (aeval ρ) (.slice t x l h m) ++ opW (aeval ρ) (.slice t x l h m)).filter (· < H.length)) fun R => opS P ρ H d (.slice t x l h m) (dK P ops K rest n0 W R acc) := awpDS_op rfl
theorem goCall_extract {x : Operand} {i : Nat} : goCall (.extract x i) = none := (rfl)
theorem awpDS_extract {ops : Array Oper} {rest : List SOp} {acc : List Foot} {x : Operand} {i : Nat} : awpDS P ops K ((d, (.extract x i), none) :: rest) acc ρ H = withV H.length fun n0 => withV (opW (aeval ρ) (.extract x i)) fun W => withV ((afoot (aeval ρ) (.extract x i) ++ opW (aeval ρ) (.extract x i)).filter (· < H.length)) fun R => opS P ρ H d (.extract x i) (dK P ops K rest n0 W R acc) := awpDS_op rfl
theorem goCall_nilCheck {x : Operand} : goCall (.nilCheck x) = none := (rfl)
theorem awpDS_nilCheck {ops : Array Oper} {rest : List SOp} {acc : List Foot} {x : Operand} : awpDS P ops K ((d, (.nilCheck x), none) :: rest) acc ρ H = withV H.length fun n0 => withV (opW (aeval ρ) (.nilCheck x)) fun W => withV ((afoot (aeval ρ) (.nilCheck x) ++ opW (aeval ρ) (.nilCheck x)).filter (· < H.length)) fun R => opS P ρ H d (.nilCheck x) (dK P ops K rest n0 W R acc) := awpDS_op rfl
theorem goCall_alloc {t : TypeId} : goCall (.alloc t) = none := (rfl)
theorem awpDS_alloc {ops : Array Oper} {rest : List SOp} {acc : List Foot} {t : TypeId} : awpDS P ops K ((d, (.alloc t), none) :: rest) acc ρ H = withV H.length fun n0 => withV (opW (aeval ρ) (.alloc t)) fun W => withV ((afoot (aeval ρ) (.alloc t) ++ opW (aeval ρ) (.alloc t)).filter (· < H.length)) fun R => opS P ρ H d (.alloc t) (dK P ops K rest n0 W R acc) := awpDS_op rfl
theorem goCall_box {t : TypeId} {x : Operand} : goCall (.box t x) = none := (rfl)
theorem awpDS_box {ops : Array Oper} {rest : List SOp} {acc : List Foot} {t : TypeId} {x : Operand} : awpDS P ops K ((d, (.box t x), none) :: rest) acc ρ H = withV H.length fun n0 => withV (opW (aeval ρ) (.box t x)) fun W => withV ((afoot (aeval ρ) (.box t x) ++ opW (aeval ρ) (.box t x)).filter (· < H.length)) fun R => opS P ρ H d (.box t x) (dK P ops K rest n0 W R acc) := awpDS_op rfl
theorem goCall_build {t : TypeId} {ps : Array (Nat × Operand)} : goCall (.build t ps) = none := (rfl)
theorem awpDS_build {ops : Array Oper} {rest : List SOp} {acc : List Foot} {t : TypeId} {ps : Array (Nat × Operand)} : awpDS P ops K ((d, (.build t ps), none) :: rest) acc ρ H = withV H.length fun n0 => withV (opW (aeval ρ) (.build t ps)) fun W => withV ((afoot (aeval ρ) (.build t ps) ++ opW (aeval ρ) (.build t ps)).filter (· < H.length)) fun R => opS P ρ H d (.build t ps) (dK P ops K rest n0 W R acc) := awpDS_op rfl
theorem goCall_buildSlice {t : TypeId} {n : Nat} {ps : Array (Nat × Operand)} : goCall (.buildSlice t n ps) = none := (rfl)
theorem awpDS_buildSlice {ops : Array Oper} {rest : List SOp} {acc : List Foot} {t : TypeId} {n : Nat} {ps : Array (Nat × Operand)} : awpDS P ops K ((d, (.buildSlice t n ps), none) :: rest) acc ρ H = withV H.length fun n0 => withV (opW (aeval ρ) (.buildSlice t n ps)) fun W => withV ((afoot (aeval ρ) (.buildSlice t n ps) ++ opW (aeval ρ) (.buildSlice t n ps)).filter (· < H.length)) fun R => opS P ρ H d (.buildSlice t n ps) (dK P ops K rest n0 W R acc) := awpDS_op rfl
theorem goCall_convert {s t : TypeId} {x : Operand} : goCall (.convert s t x) = none := (rfl)
theorem awpDS_convert {ops : Array Oper} {rest : List SOp} {acc : List Foot} {s t : TypeId} {x : Operand} : awpDS P ops K ((d, (.convert s t x), none) :: rest) acc ρ H = withV H.length fun n0 => withV (opW (aeval ρ) (.convert s t x)) fun W => withV ((afoot (aeval ρ) (.convert s t x) ++ opW (aeval ρ) (.convert s t x)).filter (· < H.length)) fun R => opS P ρ H d (.convert s t x) (dK P ops K rest n0 W R acc) := awpDS_op rfl
theorem goCall_makeSlice {t : TypeId} {x y : Operand} : goCall (.makeSlice t x y) = none := (rfl)
theorem awpDS_makeSlice {ops : Array Oper} {rest : List SOp} {acc : List Foot} {t : TypeId} {x y : Operand} : awpDS P ops K ((d, (.makeSlice t x y), none) :: rest) acc ρ H = withV H.length fun n0 => withV (opW (aeval ρ) (.makeSlice t x y)) fun W => withV ((afoot (aeval ρ) (.makeSlice t x y) ++ opW (aeval ρ) (.makeSlice t x y)).filter (· < H.length)) fun R => opS P ρ H d (.makeSlice t x y) (dK P ops K rest n0 W R acc) := awpDS_op rfl
theorem goCall_builtin {b : Builtin} {xs : Array Operand} {ts : Array TypeId} : goCall (.call ⟨.builtin b, xs, ts⟩) = none := (rfl)
theorem awpDS_builtin {ops : Array Oper} {rest : List SOp} {acc : List Foot} {b : Builtin} {xs : Array Operand} {ts : Array TypeId} : awpDS P ops K ((d, (.call ⟨.builtin b, xs, ts⟩), none) :: rest) acc ρ H = withV H.length fun n0 => withV (opW (aeval ρ) (.call ⟨.builtin b, xs, ts⟩)) fun W => withV ((afoot (aeval ρ) (.call ⟨.builtin b, xs, ts⟩) ++ opW (aeval ρ) (.call ⟨.builtin b, xs, ts⟩)).filter (· < H.length)) fun R => opS P ρ H d (.call ⟨.builtin b, xs, ts⟩) (dK P ops K rest n0 W R acc) := awpDS_op rfl
theorem awpDS_nil {ops : Array Oper} {acc : List Foot} : awpDS P ops K [] acc ρ H = ((∃ A, dOk ops acc.reverse A = true) ∧ K ρ H) := (rfl)

theorem putAt_succ {x : AV} {l cs : List AV} {i : Nat} : putAt (x :: l) (i + 1) cs = x :: putAt l i cs := by
  unfold putAt
  rw [Nat.add_right_comm]
  rfl
theorem putAt_zero {x y : AV} {l cs : List AV} : putAt (x :: l) 0 (y :: cs) = y :: putAt l 0 cs := by
  simp [putAt]
theorem putAt_done {l : List AV} : putAt l 0 [] = l := by simp [putAt]
theorem setAll_cons {mm : Nat → Nat} {id : Nat} {m : List Nat} {b : Blk} {hs : Heap} : setAll mm H (id :: m) (b :: hs) = setAll mm (H.set id (shB mm b)) m hs := (rfl)
theorem setAll_nil {mm : Nat → Nat} {hs : Heap} : setAll mm H [] hs = H := by cases hs <;> rfl
theorem back_eq {m : List Nat} {h' : Heap} : back H m h' = setAll (mmap m H.length) H m h' ++ (h'.drop m.length).map (shB (mmap m H.length)) := (rfl)
/-- A call that is handed the blocks m. -/
theorem opS_call_in {f : Operand} {xs : Array Operand} {ts : Array TypeId} {g : FuncId} {first cap args' : List AV} {hs : Heap} {v : AV} {h' : Heap} (m : List Nat) (hf : aeval ρ f = .func g first cap) (hS : Sat P g args' hs v h')
    (ha : (first ++ xs.toList.map (aeval ρ) ++ cap).map (bor H (idx m) fuel) = args') (hb : (m.map fun id => borB H (idx m) fuel (H.getD id deadBlk)) = hs) (hv : noS v = true) (hh : (h'.all fun b => noSL b.cells) = true)
    (hm : m.Nodup) (hl : (m.all fun id => match H[id]? with | some b => b.live | none => false) = true)
    (hK : C (updO ρ d (sh (mmap m H.length) v)) (back H m h')) : opS P ρ H d (.call ⟨.value f, xs, ts⟩) C := by
  subst ha hb
  refine opS_call hf rfl m (h' := h') (Hb := H) ⟨hm, fun id hid => ?_, hS, Or.inl ⟨fun _ _ h _ => h, hv, ?_⟩⟩ hK
  · have := List.all_eq_true.1 hl id hid
    split at this
    · rename_i b hb
      exact ⟨b, hb, this⟩
    · cases this
  · simpa [List.all_eq_true] using hh

/-- A function's end, where blocks come back. -/
theorem retK {rs : List ResultVar} {vs : List AV} {v : AV} {h' : Heap} (keep m : List Nat) (hm : List.range k ++ keep = m) (h1 : aRes P H ρ rs = some vs) (h2 : m.Nodup) (h3 : Nat.ble k H.length = true) (h4 : (keep.all fun id => match H[id]? with | some b => b.live | none => false) = true)
    (hv : bor [] (idx m) fuel (aResult vs) = v) (hh : gcH m H = h') : retQ P rs k (fun v' h'' => v' = v ∧ h'' = h') .ret ρ H := by
  subst hm
  refine ret_mk keep vs h1 h2 (Nat.le_of_ble_eq_true h3) (fun id hid => ?_) ⟨hv, hh⟩
  have := List.all_eq_true.1 h4 id hid
  split at this
  · rename_i b hb
    exact ⟨b, hb, this⟩
  · cases this
theorem gcH_cons {x : Nat} {m all : List Nat} : ((x :: m).map fun id => borB [] (idx all) fuel (H.getD id deadBlk)) = borB [] (idx all) fuel (H.getD x deadBlk) :: m.map fun id => borB [] (idx all) fuel (H.getD id deadBlk) := (rfl)
theorem gcH_eq {m : List Nat} : gcH m H = m.map fun id => borB [] (idx m) fuel (H.getD id deadBlk) := (rfl)

/-! ### what a walk does not look into -/
theorem oV_congr {α : Type} {r r' : Option α} {K : α → Prop} (h : r = r') : oV r K = oV r' K := by rw [h]
theorem opS_congr {ρ' : Env} {H' : Heap} {op : Op} (h1 : ρ = ρ') (h2 : H = H') : opS P ρ H d op C = opS P ρ' H' d op C := by rw [h1, h2]
theorem awpS_congr {ρ' : Env} {H' : Heap} {l : List SOp} (h1 : ρ = ρ') (h2 : H = H') : awpS P K l ρ H = awpS P K l ρ' H' := by rw [h1, h2]
theorem awpDS_congr {ops : Array Oper} {ρ' : Env} {H' : Heap} {l : List SOp} {acc acc' : List Foot} (h0 : acc = acc') (h1 : ρ = ρ') (h2 : H = H') : awpDS P ops K l acc ρ H = awpDS P ops K l acc' ρ' H' := by rw [h0, h1, h2]
end
attribute [congr] withV_congr oV_congr opS_congr awpS_congr awpDS_congr
attribute [go_sem] withV_eq putAt_succ putAt_zero putAt_done setAll_cons setAll_nil back_eq gcH_eq borB dK_app awpDS_nil awpDS_move awpDS_assign awpDS_pick awpDS_load awpDS_store awpDS_un awpDS_bin awpDS_fieldAddr awpDS_field awpDS_indexAddr awpDS_index awpDS_slice awpDS_extract awpDS_nilCheck awpDS_alloc awpDS_box awpDS_build awpDS_buildSlice awpDS_convert awpDS_makeSlice awpDS_builtin opW afoot AV.ids

/-! ### '==' of structs -/
theorem eqV_int {P : Program} {d : Nat} {t : TypeId} {a b : Int} (h : (tInt P t).isSome = true) : eqV P (d + 1) t (.int .i64 a) (.int .i64 b) = some (decide (a = b)) := by simp [eqV, h]
theorem eqV_bool {P : Program} {d : Nat} {t : TypeId} {a b : Bool} (h : tBoo P t = true) : eqV P (d + 1) t (.bool a) (.bool b) = some (a == b) := by simp [eqV, h]
theorem eqFs_cons {P : Program} {eqv : TypeId → AV → AV → Option Bool} {xs ys : List AV} {f : Field} {fs : List Field} {a b : AV} {c : Bool} (hn : f.name ≠ "_") (ha : aload P f.type (xs.drop f.offset) = some a) (hb : aload P f.type (ys.drop f.offset) = some b) (hc : eqv f.type a b = some c) {r : Bool} (hr : eqFs P eqv xs ys fs = some r) : eqFs P eqv xs ys (f :: fs) = some (c && r) := by
  simp only [eqFs, hn, ne_eq, not_false_eq_true, if_true, ha, hb, hc, hr]
  cases c <;> rfl
theorem eqFs_nil {P : Program} {eqv : TypeId → AV → AV → Option Bool} {xs ys : List AV} : eqFs P eqv xs ys [] = some true := rfl
theorem eqV_struct {P : Program} {d : Nat} {t : TypeId} {xs ys : List AV} {fs : Array Field} {c : Bool} (h : P.underlying t = some (.struct fs)) (hs : P.stoodInHeld t = false) (hc : eqFs P (eqV P d) xs ys fs.toList = some c) : eqV P (d + 1) t (.agg xs) (.agg ys) = some c := by
  simp only [eqV, h, hs, if_true, hc]
theorem aEq_struct {P : Program} {t : TypeId} {xs ys : List AV} {c : Bool} (h : P.eqGuardType P.depth t = false) (hc : eqV P Op.maxDepth t (.agg xs) (.agg ys) = some c) : aEq P t (.agg xs) (.agg ys) = some c := by
  simp only [aEq, h, if_true, hc]
end Go.Proofs.Ytgddflnhibhacaa.AM
