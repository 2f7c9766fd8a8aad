/- The abstract machine, part 15: code and functions are sound. No conditions. -/
import Derived.Test.YtgddflnhibhacaaAmR
set_option linter.unusedVariables false
set_option linter.unusedSimpArgs false
namespace Go.Proofs.Ytgddflnhibhacaa.AM
open Go

def aRes (P : Program) (H : Heap) (ρ : Env) : List ResultVar → Option (List AV)
  | [] => some []
  | .tmp t :: rest => match aRes P H ρ rest with
    | some vs => some (ρ t :: vs)
    | none => none
  | .cell a t :: rest => match aLoad P H t (ρ a), aRes P H ρ rest with
    | some v, some vs => some (v :: vs)
    | _, _ => none
def aResult : List AV → AV
  | [v] => v
  | vs => .tuple vs
/-- The blocks that are kept at a function's end. -/
def endQ (k : Nat) (Q : AV → Heap → Prop) (v : AV) (H : Heap) : Prop := ∃ keep, GcOk k (List.range k ++ keep) H ∧ (∀ id, id ∈ keep → ∃ b, H[id]? = some b ∧ b.live = true) ∧ Q (bor [] (idx (List.range k ++ keep)) fuel v) (gcH (List.range k ++ keep) H)
/-- What is shown of a function's end. -/
def retQ (P : Program) (rs : List ResultVar) (k : Nat) (Q : AV → Heap → Prop) (e : Exit) (ρ : Env) (H : Heap) : Prop :=
  match e with
  | .normal | .ret => wkQ k (fun ρ H => ∃ vs, aRes P H ρ rs = some vs ∧ ∃ (szs : List Nat) (v : AV), Ref H.length (H.length + szs.length) (aResult vs) v ∧ endQ k Q v (H ++ szs.map fun s => ⟨s, [], true, false⟩)) ρ H
  | _ => False
def argEnv (args : List AV) : Env := fun t => args.getD t .any

section
variable {P : Program} {F : Nat → Prop} {ι ι' ι0 : Inj} {w0 w w' : World} {M D : Nat → Prop} {H H' : Heap} {k n : Nat} {ρ : Env} {a : Act}

/-! ### less is asked -/
theorem callK_mono {f : AV} {args : List AV} {K K' : AV → Heap → Prop} (h : callK P f args H K) (hK : ∀ v H, K v H → K' v H) : callK P f args H K' := by
  unfold callK at *
  split at h
  · obtain ⟨m, v, h', Hb, hC, hk⟩ := h
    exact ⟨m, v, h', Hb, hC, hK _ _ hk⟩
  · exact h
theorem opK_mono {o : Oper} {K K' : Env → Heap → Prop} (h : opK P ρ H o K) (hK : ∀ ρ H, K ρ H → K' ρ H) : opK P ρ H o K' := by
  unfold opK at *
  split at h
  · exact callK_mono h fun v H hk => hK _ _ hk
  · split at h
    · exact hK _ _ h
    · exact h
theorem awpOps_mono {ops : Array Oper} {K K' : Env → Heap → Prop} (hK : ∀ ρ H, K ρ H → K' ρ H) : ∀ (l : List Oper) (ρ : Env) (H : Heap), awpOps P ops K l ρ H → awpOps P ops K' l ρ H
  | [], ρ, H, h => hK ρ H h
  | o :: rest, ρ, H, h => by
    simp only [awpOps] at h ⊢
    split at h
    · split at h
      · rename_i hb
        rw [if_pos hb]
        exact opK_mono h fun ρ H hk => awpOps_mono hK rest ρ H hk
      · rename_i hb
        rw [if_neg hb]
        exact awpOps_mono hK rest _ _ h
    · exact h
theorem awpD_mono {ops : Array Oper} {K K' : Env → Heap → Prop} (hK : ∀ ρ H, K ρ H → K' ρ H) : ∀ (l : List Oper) (acc : List Foot) (ρ : Env) (H : Heap), awpD P ops K l acc ρ H → awpD P ops K' l acc ρ H
  | [], acc, ρ, H, h => ⟨h.1, hK ρ H h.2⟩
  | o :: rest, acc, ρ, H, h => by
    simp only [awpD] at h ⊢
    split at h
    · exact h
    · exact awpD_mono hK rest _ _ _ h
    · split at h
      · split at h
        · obtain ⟨m, v, h', Hb, hC, hk⟩ := h
          exact ⟨m, v, h', Hb, hC, awpD_mono hK rest _ _ _ hk⟩
        · exact h
      · split at h
        · exact awpD_mono hK rest _ _ _ h
        · exact h
theorem awpD_det {ops : Array Oper} {K : Env → Heap → Prop} : ∀ (l : List Oper) (acc : List Foot) (ρ : Env) (H : Heap), awpD P ops K l acc ρ H → ∃ ρ' H', K ρ' H' ∧ awpD P ops (fun ρ2 H2 => ρ2 = ρ' ∧ H2 = H') l acc ρ H
  | [], acc, ρ, H, h => ⟨ρ, H, h.2, h.1, rfl, rfl⟩
  | o :: rest, acc, ρ, H, h => by
    simp only [awpD] at h ⊢
    split at h
    · exact h.elim
    · exact awpD_det rest _ _ _ h
    · split at h
      · split at h
        · obtain ⟨m, v, h', Hb, hC, hk⟩ := h
          obtain ⟨ρ', H', h1, h2⟩ := awpD_det rest _ _ _ hk
          exact ⟨ρ', H', h1, m, v, h', Hb, hC, h2⟩
        · exact h.elim
      · split at h
        · exact awpD_det rest _ _ _ h
        · exact h.elim
theorem awp_mono (c : Code) : ∀ {Q Q' : Exit → Env → Heap → Prop} {ρ : Env} {H : Heap}, awp P k c Q ρ H → (∀ e ρ H, Q e ρ H → Q' e ρ H) → awp P k c Q' ρ H := by
  induction c with
  | skip => intro Q Q' ρ H h hQ; exact hQ _ _ _ h
  | region id ops draw =>
    intro Q Q' ρ H h hQ
    simp only [awp] at h ⊢
    split at h
    · rename_i hd; rw [if_pos hd]; exact ⟨h.1, awpD_mono (fun ρ H => hQ _ ρ H) _ _ _ _ h.2⟩
    · rename_i hd; rw [if_neg hd]; exact awpOps_mono (fun ρ H => hQ _ ρ H) _ _ _ h
  | seq x y ihx ihy =>
    intro Q Q' ρ H h hQ
    refine ihx h fun e ρ H he => ?_
    cases e <;> first | exact wkQ.mono he fun ρ H he => ihy he hQ | exact hQ _ _ _ he
  | cond c x y ihx ihy =>
    intro Q Q' ρ H h hQ
    simp only [awp] at h ⊢
    split at h
    · split at h
      · rename_i ht; rw [if_pos ht]; exact ihx h hQ
      · rename_i ht; rw [if_neg ht]; exact ihy h hQ
    · exact h
  | block id c ih =>
    intro Q Q' ρ H h hQ
    refine ih h fun e ρ H he => ?_
    cases e with
    | exit i =>
      simp only at he ⊢
      split at he
      · rename_i hi; rw [if_pos hi]; exact hQ _ _ _ he
      · rename_i hi; rw [if_neg hi]; exact hQ _ _ _ he
    | _ => exact hQ _ _ _ he
  | loop c ih =>
    intro Q Q' ρ H h hQ I hI
    refine h I fun ρ H hb => hI ρ H (ih hb fun e ρ H he => ?_)
    cases e <;> first | exact he | exact hQ _ _ _ he
  | exit i => intro Q Q' ρ H h hQ; exact hQ _ _ _ h
  | ret => intro Q Q' ρ H h hQ; exact hQ _ _ _ h
  | _ => intro Q Q' ρ H h hQ; exact h.elim

/-! ### the machine comes to one end -/
theorem awpOps_det {ops : Array Oper} {K : Env → Heap → Prop} : ∀ (l : List Oper) (ρ : Env) (H : Heap), awpOps P ops K l ρ H → ∃ ρ' H', K ρ' H' ∧ awpOps P ops (fun ρ2 H2 => ρ2 = ρ' ∧ H2 = H') l ρ H
  | [], ρ, H, h => ⟨ρ, H, h, rfl, rfl⟩
  | o :: rest, ρ, H, h => by
    simp only [awpOps] at h ⊢
    split at h
    · split at h
      · rename_i hb
        unfold opK callK at h ⊢
        split at h
        · split at h
          · obtain ⟨m, v, h', Hb, hC, hk⟩ := h
            obtain ⟨ρ', H', h1, h2⟩ := awpOps_det rest _ _ hk
            refine ⟨ρ', H', h1, ?_⟩
            rw [if_pos hb]
            exact ⟨m, v, h', Hb, hC, h2⟩
          · exact h.elim
        · split at h
          · obtain ⟨ρ', H', h1, h2⟩ := awpOps_det rest _ _ h
            refine ⟨ρ', H', h1, ?_⟩
            rw [if_pos hb]
            exact h2
          · exact h.elim
      · rename_i hb
        obtain ⟨ρ', H', h1, h2⟩ := awpOps_det rest _ _ h
        exact ⟨ρ', H', h1, by rw [if_neg hb]; exact h2⟩
    · exact h.elim

theorem awp_det (c : Code) : ∀ {Q : Exit → Env → Heap → Prop} {ρ : Env} {H : Heap}, awp P k c Q ρ H → ∃ e ρ' H', Q e ρ' H' ∧ awp P k c (fun e2 ρ2 H2 => e2 = e ∧ ρ2 = ρ' ∧ H2 = H') ρ H := by
  induction c with
  | skip => intro Q ρ H h; exact ⟨.normal, ρ, H, h, rfl, rfl, rfl⟩
  | region id ops draw =>
    intro Q ρ H h
    simp only [awp] at h ⊢
    split at h
    · rename_i hd
      obtain ⟨ρ', H', h1, h2⟩ := awpD_det _ _ _ _ h.2
      refine ⟨.normal, ρ', H', h1, ?_⟩
      rw [if_pos hd]
      exact ⟨h.1, awpD_mono (fun ρ H hk => ⟨rfl, hk.1, hk.2⟩) _ _ _ _ h2⟩
    · rename_i hd
      obtain ⟨ρ', H', h1, h2⟩ := awpOps_det _ _ _ h
      refine ⟨.normal, ρ', H', h1, ?_⟩
      rw [if_neg hd]
      exact awpOps_mono (fun ρ H hk => ⟨rfl, hk.1, hk.2⟩) _ _ _ h2
  | seq x y ihx ihy =>
    intro Q ρ H h
    obtain ⟨e, ρ1, H1, h1, h2⟩ := ihx h
    cases e with
    | normal =>
      obtain ⟨ρw, Hw, hw, h1⟩ := h1
      obtain ⟨e', ρ', H', h3, h4⟩ := ihy h1
      refine ⟨e', ρ', H', h3, awp_mono x h2 ?_⟩
      rintro e2 ρ2 H2 ⟨rfl, rfl, rfl⟩
      exact ⟨ρw, Hw, hw, h4⟩
    | _ =>
      refine ⟨_, ρ1, H1, h1, awp_mono x h2 ?_⟩
      rintro e2 ρ2 H2 ⟨rfl, rfl, rfl⟩
      exact ⟨rfl, rfl, rfl⟩
  | cond c x y ihx ihy =>
    intro Q ρ H h
    simp only [awp] at h ⊢
    split at h
    · split at h
      · rename_i ht
        obtain ⟨e, ρ', H', h1, h2⟩ := ihx h
        exact ⟨e, ρ', H', h1, by rw [if_pos ht]; exact h2⟩
      · rename_i ht
        obtain ⟨e, ρ', H', h1, h2⟩ := ihy h
        exact ⟨e, ρ', H', h1, by rw [if_neg ht]; exact h2⟩
    · exact h.elim
  | block id c ih =>
    intro Q ρ H h
    obtain ⟨e, ρ1, H1, h1, h2⟩ := ih h
    cases e with
    | exit i =>
      simp only at h1
      by_cases hi : i = id
      · rw [if_pos hi] at h1
        refine ⟨.normal, ρ1, H1, h1, awp_mono c h2 ?_⟩
        rintro e2 ρ2 H2 ⟨rfl, rfl, rfl⟩
        simp [hi]
      · rw [if_neg hi] at h1
        refine ⟨.exit i, ρ1, H1, h1, awp_mono c h2 ?_⟩
        rintro e2 ρ2 H2 ⟨rfl, rfl, rfl⟩
        simp [hi]
    | _ =>
      refine ⟨_, ρ1, H1, h1, awp_mono c h2 ?_⟩
      rintro e2 ρ2 H2 ⟨rfl, rfl, rfl⟩
      exact ⟨rfl, rfl, rfl⟩
  | loop c ih =>
    intro Q ρ H h
    refine h (fun ρ H => ∃ e ρ' H', Q e ρ' H' ∧ awp P k (.loop c) (fun e2 ρ2 H2 => e2 = e ∧ ρ2 = ρ' ∧ H2 = H') ρ H) fun ρ H hb => ?_
    obtain ⟨e, ρ1, H1, h1, h2⟩ := ih hb
    cases e with
    | normal =>
      obtain ⟨ρw, Hw, hw, e, ρ', H', h3, h4⟩ := h1
      refine ⟨e, ρ', H', h3, fun J hJ => hJ ρ H (awp_mono c h2 ?_)⟩
      rintro e2 ρ2 H2 ⟨rfl, rfl, rfl⟩
      exact ⟨ρw, Hw, hw, h4 J hJ⟩
    | _ =>
      refine ⟨_, ρ1, H1, h1, fun J hJ => hJ ρ H (awp_mono c h2 ?_)⟩
      rintro e2 ρ2 H2 ⟨rfl, rfl, rfl⟩
      exact ⟨rfl, rfl, rfl⟩
  | exit i => intro Q ρ H h; exact ⟨_, ρ, H, h, rfl, rfl, rfl⟩
  | ret => intro Q ρ H h; exact ⟨_, ρ, H, h, rfl, rfl, rfl⟩
  | _ => intro Q ρ H h; exact h.elim
end
end Go.Proofs.Ytgddflnhibhacaa.AM
