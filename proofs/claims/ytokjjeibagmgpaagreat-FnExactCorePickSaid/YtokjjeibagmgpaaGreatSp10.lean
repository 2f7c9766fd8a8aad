/- Steps, by what happens. No conditions. -/
import Derived.Test.YtokjjeibagmgpaaGreatSp9
set_option linter.unusedVariables false
set_option linter.unusedSimpArgs false
namespace Go.Proofs.YtokjjeibagmgpaaGreat.AM
open Go

section
variable {P : Program} {H : Heap} {ρ : Env} {k : Nat}
/-- A function's end, where empty rows come back as empty blocks. -/
theorem retN {rs : List ResultVar} {vs : List AV} {v w w' : AV} {h' H' : Heap} (szs keep m : List Nat) (hm : List.range k ++ keep = m) (h1 : aRes P H ρ rs = some vs) (ha : aResult vs = v) (hr : Ref H.length (H.length + szs.length) v w)
    (hH : H ++ szs.map (fun s => (⟨s, [], true, false⟩ : Blk)) = H') (h2 : m.Nodup) (h3 : Nat.ble k H'.length = true) (h4 : (keep.all fun id => match H'[id]? with | some b => b.live | none => false) = true)
    (hv : bor [] (idx m) fuel w = w') (hh : gcH m H' = h') : retQ P rs k (fun v' h'' => v' = w' ∧ h'' = h') .ret ρ H := by
  subst hm ha
  refine ret_norm szs keep vs w h1 hr hH h2 (Nat.le_of_ble_eq_true h3) (fun id hid => ?_) ⟨hv, hh⟩
  have := List.all_eq_true.1 h4 id hid
  split at this
  · rename_i b hb
    exact ⟨b, hb, this⟩
  · cases this
end
section
variable {l : List Ins} {s : Stt} {w : Word}
theorem fetch_ok (h : (fetch l w).2 = 0) : insOk (fetch l w).1 = true := by
  unfold fetch at *
  split at h
  · rename_i h1; exact absurd h h1
  · rename_i h1
    rw [if_neg h1]
    split at h
    · rename_i h2
      rw [if_pos h2]
      exact h2.2
    · cases h
theorem fetch_regs (h : (fetch l w).2 = 0) : 0 ≤ (fetch l w).1.a ∧ (fetch l w).1.a ≤ 7 ∧ 0 ≤ (fetch l w).1.b ∧ (fetch l w).1.b ≤ 7 := by
  have := ins_reg (x := (fetch l w).1) (by rw [fetch_ok h]; rfl)
  have h1 := inR_iff.1 this.2.1
  have h2 := inR_iff.1 this.2.2
  exact ⟨h1.1, h1.2, h2.1, h2.2⟩
theorem sets_yes {x : Ins} (h : hasI x.op 82 = true) : sets x = x.r := by rw [sets, if_pos (by rw [← (hasI_eq x.op).1]; exact h)]
theorem sets_no {x : Ins} (h : hasI x.op 82 = false) : sets x = -1 := by rw [sets, if_neg (by rw [← (hasI_eq x.op).1, h]; exact Bool.noConfusion)]
theorem made_op {op : Int} (h : hasI op 82 = true) (h1 : ¬ op = 12) : 1 ≤ op ∧ op ≤ 10 := by
  by_cases hi : inR op 1 15 = true
  · rcases op_cases hi with rfl | rfl | rfl | rfl | rfl | rfl | rfl | rfl | rfl | rfl | rfl | rfl | rfl | rfl | rfl <;> first | omega | (revert h; decide)
  · rw [(hasI_eq op).1, hasR, has, if_neg hi] at h
    exact absurd h (by decide)
theorem step_no (h : sttOk s = false) : step l s = noStt := by rw [step, if_pos h]
theorem step_trap (h : sttOk s = true) (ht : ¬ s.trap = 0) : step l s = s := by rw [step, if_neg (by rw [h]; exact Bool.noConfusion), if_pos ht]
theorem step_fx (h : sttOk s = true) (ht : s.trap = 0) : step l s = if (fxOf l s).trap ≠ 0 then withTrap s (fxOf l s).trap else applyFx s (fxOf l s) := by
  rw [step, if_neg (by rw [h]; exact Bool.noConfusion), if_neg (fun h => h ht)]
theorem step_stop (h : sttOk s = true) (ht : s.trap = 0) {t : Int} (he : (fxOf l s).trap = t) (h0 : ¬ t = 0) : step l s = withTrap s t := by rw [step_fx h ht, if_pos (by rw [he]; exact h0), he]
theorem step_go (h : sttOk s = true) (ht : s.trap = 0) (he : (fxOf l s).trap = 0) : step l s = applyFx s (fxOf l s) := by rw [step_fx h ht, if_neg (fun h => h he)]
theorem fx_fetch (h : ¬ (fetch l s.pc).2 = 0) : fxOf l s = fxTrap (fetch l s.pc).2 s.pc := by rw [fxOf, if_pos h]
theorem fx_mem (h : (fetch l s.pc).2 = 0) (hm : ¬ (memOf s.mem (fetch l s.pc).1 (reg s (fetch l s.pc).1.a) (reg s (fetch l s.pc).1.b)).2 = 0) :
    fxOf l s = fxTrap (memOf s.mem (fetch l s.pc).1 (reg s (fetch l s.pc).1.a) (reg s (fetch l s.pc).1.b)).2 s.pc := by rw [fxOf, if_neg (fun g => g h), if_pos hm]
theorem fx_work (h : (fetch l s.pc).2 = 0) (hm : (memOf s.mem (fetch l s.pc).1 (reg s (fetch l s.pc).1.a) (reg s (fetch l s.pc).1.b)).2 = 0) :
    fxOf l s = work (fetch l s.pc).1 s.pc (reg s (fetch l s.pc).1.a) (reg s (fetch l s.pc).1.b) (memOf s.mem (fetch l s.pc).1 (reg s (fetch l s.pc).1.a) (reg s (fetch l s.pc).1.b)).1 := by rw [fxOf, if_neg (fun g => g h), if_neg (fun g => g hm)]
theorem mem_load {m : Mem} {x : Ins} {a b : Word} (h : x.op = 10) : memOf m x a b = read m a (wadd a.n x.n) := by rw [memOf, if_pos h]
theorem mem_store {m : Mem} {x : Ins} {a b : Word} (h : ¬ x.op = 10) (h1 : x.op = 11) : memOf m x a b = (noWord, writeT m a (wadd a.n x.n) b) := by rw [memOf, if_neg h, if_pos h1]
theorem mem_none {m : Mem} {x : Ins} {a b : Word} (h : ¬ x.op = 10) (h1 : ¬ x.op = 11) : memOf m x a b = (noWord, 0) := by rw [memOf, if_neg h, if_neg h1]
theorem fxTrap_trap {t : Int} {pc : Word} : (fxTrap t pc).trap = t := rfl
theorem noStt_fields : noStt.regs = [] ∧ noStt.pc = noWord ∧ noStt.mem = noMem ∧ noStt.trap = 0 ∧ noMem.words = [] ∧ noMem.gone = [] := ⟨rfl, rfl, rfl, rfl, rfl, rfl⟩
end
end Go.Proofs.YtokjjeibagmgpaaGreat.AM
