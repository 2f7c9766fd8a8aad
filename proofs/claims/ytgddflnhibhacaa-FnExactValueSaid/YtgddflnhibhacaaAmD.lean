/- The abstract machine: a stretch whose order is drawn, one operation. No conditions. -/
import Derived.Test.YtgddflnhibhacaaAm15
set_option linter.unusedVariables false
set_option linter.unusedSimpArgs false
namespace Go.Proofs.Ytgddflnhibhacaa.AM
open Go

section
variable {P : Program} {F : Nat → Prop} {ι ι' ι0 : Inj} {w0 w w' : World} {M D : Nat → Prop} {H H' : Heap} {k n : Nat} {ρ : Env} {a : Act}

theorem VR_aeval (h : ∀ t, VR F ι w0 (ρ t) (a.tmps.getD t undef)) (y : Operand) : VR F ι w0 (aeval ρ y) (a.eval y) := by
  cases y with
  | tmp t => exact h t
  | const v => exact VR_ofV v
  | global g => simp [AM.aeval, VR]
  | func f => simp [AM.aeval, VR, Act.eval, VRL]

theorem aop_congr {op : Op} {f g : Operand → AV} (h : ∀ y, y ∈ op.operands.toList → f y = g y) : aop P f H op = aop P g H op ∧ afoot f op = afoot g op := by
  have pairs : ∀ ps : Array (Nat × Operand), (∀ y, y ∈ ps.toList.map (·.2) → f y = g y) → (ps.toList.map fun p => (p.1, f p.2)) = (ps.toList.map fun p => (p.1, g p.2)) := fun ps hp =>
    List.map_congr_left fun p hm => by rw [hp p.2 (List.mem_map.2 ⟨p, hm, rfl⟩)]
  have maps : ∀ xs : List Operand, (∀ y, y ∈ xs → f y = g y) → xs.map f = xs.map g := fun xs hx => List.map_congr_left hx
  have flat : ∀ xs : List Operand, (∀ y, y ∈ xs → f y = g y) → (xs.flatMap fun x => (f x).ids) = (xs.flatMap fun x => (g x).ids) := by
    intro xs hx
    rw [List.flatMap_def, List.flatMap_def]
    congr 1
    exact List.map_congr_left fun y hy => by rw [hx y hy]
  have opts : ∀ o : Option Operand, (∀ y, o = some y → f y = g y) → o.map f = o.map g := by
    intro o ho
    cases o with
    | none => rfl
    | some y => simp [ho y rfl]
  cases op with
  | build t ps => simp only [aop, afoot, pairs ps (fun y hy => h y (by simpa [Op.operands] using hy)), and_self]
  | buildSlice t n ps => simp only [aop, afoot, pairs ps (fun y hy => h y (by simpa [Op.operands] using hy)), and_self]
  | makeFunc fn first cap =>
    have h1 := maps first.toList (fun y hy => h y (by simp [Op.operands]; left; simpa using hy))
    have h2 := maps cap.toList (fun y hy => h y (by simp [Op.operands]; right; simpa using hy))
    cases fn <;> simp only [aop, afoot, h1, h2, and_self]
  | call c =>
    obtain ⟨callee, xs, ts⟩ := c
    have h1 := maps xs.toList (fun y hy => h y (by simp [Op.operands, Call.operands]; right; simpa using hy))
    have h2 := flat xs.toList (fun y hy => h y (by simp [Op.operands, Call.operands]; right; simpa using hy))
    cases callee <;> simp only [aop, afoot, h1, h2, and_self]
  | slice t x lo hi mx =>
    have h0 := h x (by simp [Op.operands])
    have h1 := opts lo (fun y hy => h y (by subst hy; simp [Op.operands]))
    have h2 := opts hi (fun y hy => h y (by subst hy; simp [Op.operands]))
    have h3 := opts mx (fun y hy => h y (by subst hy; simp [Op.operands]))
    simp only [aop, afoot, h0, h1, h2, h3, and_self]
  | pick c x y =>
    have h0 := h c (by simp [Op.operands]); have h1 := h x (by simp [Op.operands]); have h2 := h y (by simp [Op.operands])
    simp only [aop, afoot, h0, h1, h2, and_self]
  | store t x y => have h0 := h x (by simp [Op.operands]); have h1 := h y (by simp [Op.operands]); simp only [aop, afoot, h0, h1, and_self]
  | binOp o t x y t' => have h0 := h x (by simp [Op.operands]); have h1 := h y (by simp [Op.operands]); simp only [aop, afoot, h0, h1, and_self]
  | makeSlice t x y => have h0 := h x (by simp [Op.operands]); have h1 := h y (by simp [Op.operands]); simp only [aop, afoot, h0, h1, and_self]
  | indexAddr t x y => have h0 := h x (by simp [Op.operands]); have h1 := h y (by simp [Op.operands]); simp only [aop, afoot, h0, h1, and_self]
  | index t x y => have h0 := h x (by simp [Op.operands]); have h1 := h y (by simp [Op.operands]); simp only [aop, afoot, h0, h1, and_self]
  | move x => have h0 := h x (by simp [Op.operands]); simp only [aop, afoot, h0, and_self]
  | assign x => have h0 := h x (by simp [Op.operands]); simp only [aop, afoot, h0, and_self]
  | box t x => have h0 := h x (by simp [Op.operands]); simp only [aop, afoot, h0, and_self]
  | load t x => have h0 := h x (by simp [Op.operands]); simp only [aop, afoot, h0, and_self]
  | nilCheck x => have h0 := h x (by simp [Op.operands]); simp only [aop, afoot, h0, and_self]
  | unOp o t x => have h0 := h x (by simp [Op.operands]); simp only [aop, afoot, h0, and_self]
  | convert s d x => have h0 := h x (by simp [Op.operands]); simp only [aop, afoot, h0, and_self]
  | fieldAddr s x i => have h0 := h x (by simp [Op.operands]); simp only [aop, afoot, h0, and_self]
  | field s x i => have h0 := h x (by simp [Op.operands]); simp only [aop, afoot, h0, and_self]
  | extract x i => have h0 := h x (by simp [Op.operands]); simp only [aop, afoot, h0, and_self]
  | _ => exact ⟨rfl, rfl⟩

/-- One operation of the machine. -/
inductive SStep (P : Program) (ops : Array Oper) (o : Oper) (ρ : Env) (H : Heap) : AV → Heap → List Nat → List Nat → Prop
  | skip (hg : aguard ops ρ o = some false) : SStep P ops o ρ H (.tuple []) H [] []
  | call {f : Operand} {args : List Operand} {g : FuncId} {first cap : List AV} {m : List Nat} {v : AV} {h' Hb : Heap} (hg : aguard ops ρ o = some true) (hc : goCall o.op = some (f, args)) (hf : aeval ρ f = .func g first cap)
      (hC : CallOk P g (first ++ args.map (aeval ρ) ++ cap) H m v h' Hb) : SStep P ops o ρ H (sh (mmap m H.length) v) (back H m h') m (m ++ liveIds Hb)
  | op {x : AV} {e : AEff} (hg : aguard ops ρ o = some true) (hc : goCall o.op = none) (hx : aop P (aeval ρ) H o.op = some (x, e)) : SStep P ops o ρ H x (e.app H) e.wr ((afoot (aeval ρ) o.op ++ e.wr).filter (· < H.length))

/-- The temporaries that an operation looks at, alone. -/
def onlyE (L : List Tmp) (ρ : Env) : Env := fun t => if L.contains t then ρ t else .any
theorem SStep.only {ops : Array Oper} {o : Oper} {x : AV} {W R : List Nat} (h : SStep P ops o ρ H x H' W R) : SStep P ops o (onlyE (o.looksAt ops) ρ) H x H' W R := by
  have hev : ∀ y, y ∈ o.op.operands.toList → aeval (AM.onlyE (o.looksAt ops) ρ) y = aeval ρ y := by
    intro y hy
    cases y with
    | tmp t =>
      show AM.onlyE (o.looksAt ops) ρ t = ρ t
      unfold AM.onlyE
      rw [if_pos]
      rw [List.contains_iff_mem]
      exact List.mem_append_left _ (List.mem_filterMap.2 ⟨.tmp t, hy, rfl⟩)
    | _ => rfl
  have hgd : aguard ops (AM.onlyE (o.looksAt ops) ρ) o = aguard ops ρ o := by
    unfold aguard
    cases hg : o.guard with
    | none => rfl
    | some jw =>
      obtain ⟨j, want⟩ := jw
      simp only
      cases ht : (ops[j]?).bind (·.dst) with
      | none => rfl
      | some t =>
        simp only
        have : AM.onlyE (o.looksAt ops) ρ t = ρ t := by
          unfold AM.onlyE
          rw [if_pos]
          rw [List.contains_iff_mem]
          simp [Oper.looksAt, hg, ht]
        rw [this]
  cases h with
  | skip hg => exact .skip (by rw [hgd]; exact hg)
  | @call f args g first cap m v h' Hb hg hc hf hC =>
    have hcall : o.op.operands.toList = f :: args := by
      obtain ⟨dst, op, ty, pos, after, guard⟩ := o
      simp only at hc
      cases op with
      | call c =>
        obtain ⟨callee, as, ts⟩ := c
        cases callee with
        | value f' =>
          simp only [goCall, Option.some.injEq, Prod.mk.injEq] at hc
          obtain ⟨rfl, rfl⟩ := hc
          simp [Op.operands, Call.operands]
        | _ => simp [goCall] at hc
      | _ => simp [goCall] at hc
    refine .call (by rw [hgd]; exact hg) hc (by rw [hev f (by rw [hcall]; simp)]; exact hf) ?_
    rw [show args.map (aeval (AM.onlyE (o.looksAt ops) ρ)) = args.map (aeval ρ) from List.map_congr_left fun y hy => hev y (by rw [hcall]; simp [hy])]
    exact hC
  | op hg hc hx =>
    obtain ⟨h1, h2⟩ := aop_congr (P := P) (H := H) hev
    rw [← h2]
    exact .op (by rw [hgd]; exact hg) hc (by rw [h1]; exact hx)

theorem SStep.facts {ops : Array Oper} {o : Oper} {x : AV} {W R : List Nat} (h : SStep P ops o ρ H x H' W R) :
    H.length ≤ H'.length ∧ (∀ id, id < H.length → id ∉ W → H'[id]? = H[id]?) ∧ (∀ id, id ∈ W → id ∈ R ∧ ∃ b, H[id]? = some b ∧ b.live = true) ∧ (∀ id, id ∈ R → id < H.length) := by
  cases h with
  | skip hg => exact ⟨Nat.le_refl _, fun _ _ _ => rfl, fun _ h => by simp at h, fun _ h => by simp at h⟩
  | @call f args g first cap m v h' Hb hg hc hf hC =>
    refine ⟨?_, ?_, fun id h => ⟨List.mem_append_left _ h, hC.live id h⟩, ?_⟩
    · unfold back
      rw [List.length_append, setAll_length]
      omega
    · intro id h1 h2
      unfold back
      rw [List.getElem?_append_left (by rw [setAll_length]; exact h1), setAll_other _ _ h' H id h2]
    · intro id hid
      rcases List.mem_append.1 hid with h | h
      · obtain ⟨b, hb, _⟩ := hC.live id h
        exact (List.getElem?_eq_some_iff.1 hb).1
      · unfold liveIds at h
        obtain ⟨_, h2⟩ := List.mem_filter.1 h
        split at h2
        · rename_i b hb
          rcases hC.clean with ⟨hs, _⟩ | rfl
          · exact (List.getElem?_eq_some_iff.1 (hs id b hb h2)).1
          · simp at hb
        · cases h2
  | @op x e hg hc hx =>
    have hwr := aop_wr hx
    have hlt : ∀ id, id ∈ e.wr → id < H.length := fun id hid => by
      obtain ⟨b, hb, _⟩ := hwr id hid
      exact (List.getElem?_eq_some_iff.1 hb).1
    refine ⟨?_, ?_, fun id h => ⟨?_, hwr id h⟩, fun id h => ?_⟩
    · cases e <;> simp [AEff.app]
    · intro id h1 h2
      cases e with
      | nil => rfl
      | new b => simp [AEff.app, List.getElem?_append_left h1]
      | set i b =>
        simp [AEff.wr] at h2
        simp [AEff.app, List.getElem?_set_ne (Ne.symm h2)]
      | move i b =>
        simp [AEff.wr] at h2
        simp only [AEff.app]
        rw [List.getElem?_append_left (by simpa using h1), List.getElem?_set_ne (Ne.symm h2)]
    · exact List.mem_filter.2 ⟨List.mem_append_right _ h, by simpa using hlt id h⟩
    · simpa using (List.mem_filter.1 h).2

theorem HS.congr {H2 : Heap} (h : HS F w0 ι M D H w) (he : ∀ id, D id → H2[id]? = H[id]?) : HS F w0 ι M D H2 w :=
  ⟨fun id b e hd hb => h.br id b e hd (by rw [← he id hd]; exact hb), fun id id' b b' c c' hd hd' hb hb' => h.inj id id' b b' c c' hd hd' (by rw [← he id hd]; exact hb) (by rw [← he id' hd']; exact hb'),
    fun id b c hd hb => h.own id b c hd (by rw [← he id hd]; exact hb)⟩

/-- One operation, out of order: only what it looks at counts. -/
theorem SStep.sound {ops : Array Oper} {o : Oper} {x : AV} {W R : List Nat} {KC : Act → World → Prop} {Q : Exit → Act → World → Prop} (h : SStep P ops o ρ H x H' W R) (hFS : FS F w0 M) (hWS : WS w0 M w)
    (hρ : ∀ t, t ∈ o.looksAt ops → VR F ι w0 (ρ t) (a.tmps.getD t undef)) (hS : HS F w0 ι M (· ∈ R) H w) (hcr : ∀ id, id ∈ R → ι id ≠ none) (hnew : ∀ id, H.length ≤ id → id < H'.length → ι id = none)
    (hK : ∀ v w' ι', VR F ι' w0 x v → Eff F w0 ι ι' H H' W w w' → KC (a.put o.dst v) w') :
    if Region.wanted o (yielded ops a.tmps) then o.wp P a w KC Q else KC (a.put o.dst undef) w := by
  have hf := h.facts
  have h := h.only
  have hρ' : ∀ t, VR F ι w0 (onlyE (o.looksAt ops) ρ t) (a.tmps.getD t undef) := by
    intro t
    unfold onlyE
    split
    · rename_i ht
      exact hρ t (List.contains_iff_mem.1 ht)
    · simp [VR]
  generalize onlyE (o.looksAt ops) ρ = σ at h hρ'
  cases h with
  | skip hg =>
    rw [wanted_of hg hρ']
    exact hK undef w ι (by simp [VR, VRL, undef]) (Eff.refl F w0 ι H w)
  | @call f args g first cap m v h' Hb hg hc hfn hC =>
    rw [wanted_of hg hρ', if_pos rfl]
    obtain ⟨dst, op, ty, pos, after, guard⟩ := o
    simp only at hc
    have hcall : ∃ ts : Array TypeId, op = .call ⟨.value f, ⟨args⟩, ts⟩ := by
      cases op with
      | call c =>
        obtain ⟨callee, as, ts⟩ := c
        cases callee with
        | value f' =>
          simp only [goCall, Option.some.injEq, Prod.mk.injEq] at hc
          obtain ⟨rfl, rfl⟩ := hc
          exact ⟨ts, rfl⟩
        | _ => simp [goCall] at hc
      | _ => simp [goCall] at hc
    obtain ⟨ts, rfl⟩ := hcall
    have hfv := VR_aeval hρ' f
    rw [hfn] at hfv
    simp only [VR] at hfv
    obtain ⟨fs, cs, h1, h2, h3⟩ := hfv
    have hargs : VRL F ι w0 (first ++ args.map (AM.aeval σ) ++ cap) (fs ++ (⟨args⟩ : Array Operand).map a.eval ++ cs).toList := by
      simp only [Array.toList_append, Array.toList_map]
      exact (h2.append (VRL_map (VR_aeval hρ'))).append h3
    have hcs := call_sound hC hFS hWS hS hf.2.2.2 hcr (fun id hid => List.mem_append_left _ hid) (fun id b hb hl => by
      refine List.mem_append_right _ (List.mem_filter.2 ⟨List.mem_range.2 (List.getElem?_eq_some_iff.1 hb).1, ?_⟩)
      simp [hb, hl]) hnew hargs
    unfold Oper.wp
    have hrun : (execOp a.eval ⟨dst, .call ⟨.value f, ⟨args⟩, ts⟩, ty, pos, after, guard⟩).run P w = .ok (.enter g (fs ++ (⟨args⟩ : Array Operand).map a.eval ++ cs)) w := by
      have : execOp a.eval ⟨dst, .call ⟨.value f, ⟨args⟩, ts⟩, ty, pos, after, guard⟩ = callFunc g (fs ++ (⟨args⟩ : Array Operand).map a.eval ++ cs) := by
        simp [execOp, resolve, h1, Deferred.ofValue, invoke]
      rw [this]
      exact hC.sat.1 _ w
    rw [hrun]
    simp only [Oper.upon_enter]
    refine hcs.mono ?_
    rintro e w' ⟨cv, ι', rfl, hv, hE⟩
    exact hK cv w' ι' hv hE
  | @op x e hg hc hx =>
    rw [wanted_of hg hρ', if_pos rfl]
    obtain ⟨v, w', ι', hr, hxv, hE⟩ := aop_sound hx (VR_aeval hρ') (fun c hc => hWS.agree c (hFS c hc).1 (hFS c hc).2) (fun id b e' hid hb hl he => hS.br id b e' (List.mem_filter.2 ⟨List.mem_append_left _ hid, by simpa using (List.getElem?_eq_some_iff.1 hb).1⟩) hb hl he)
      (fun hne => hnew _ (Nat.le_refl _) (by have := hf.1; omega))
    unfold Oper.wp
    rcases hr with hr | ⟨hr, rfl⟩
    · rw [hr]
      simp only [Oper.upon_value]
      exact hK v w' ι' hxv hE
    · rw [hr]
      simp only [Oper.upon_skip]
      exact hK undef w' ι' hxv hE
end
end Go.Proofs.Ytgddflnhibhacaa.AM
