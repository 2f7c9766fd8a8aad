/- The abstract machine, part 16: code and functions are sound. No conditions. -/
import Derived.Test.YtgddflnhibhacaaAmF
set_option linter.unusedVariables false
set_option linter.unusedSimpArgs false
namespace Go.Proofs.Ytgddflnhibhacaa.AM
open Go

section
variable {P : Program} {F : Nat → Prop} {ι ι' ι0 : Inj} {w0 w w' : World} {M D : Nat → Prop} {H H' : Heap} {k n : Nat} {ρ : Env} {a : Act}

/-- Blocks are dropped, the others get other numbers. -/
def gcI (m : List Nat) (ι : Inj) : Inj := fun j => match m[j]? with
  | some id => ι id
  | none => none
theorem gc_bor {m : List Nat} (hn : m.Nodup) (hag : ∀ c, F c → w.heap[c]? = w0.heap[c]?) (x : AV) (v : Value) (h : VR F ι w0 x v) : VR F (gcI m ι) w0 (bor [] (idx m) fuel x) v := by
  refine bor_sound (fun _ h => h) (fun _ _ => rfl) (fun id j e hi he => ?_) (fun id b e _ hb => ?_) fuel x v h
  · have := idx_some hn hi
    show (match m[j]? with | some id => ι id | none => none) = _
    rw [this]
    exact he
  · simp at hb

theorem St.gc {m : List Nat} (hFS : FS F w0 M) (h : St F w0 M k ι0 n ι ρ H a w) (hm : GcOk k m H) : St F w0 M k ι0 n (gcI m ι) (gcE m ρ) (gcH m H) a w := by
  obtain ⟨hn, hk, hlt⟩ := hm
  have hag : ∀ c, F c → w.heap[c]? = w0.heap[c]? := fun c hc => h.ws.agree c (hFS c hc).1 (hFS c hc).2
  have hI : ∀ j id, m[j]? = some id → gcI m ι j = ι id := by
    intro j id hj
    show (match m[j]? with | some id => ι id | none => none) = _
    rw [hj]
  have hget : ∀ (j : Nat) b, (gcH m H)[j]? = some b → ∃ id b0, m[j]? = some id ∧ H[id]? = some b0 ∧ b = borB [] (idx m) fuel b0 := by
    intro j b hj
    unfold gcH at hj
    rw [List.getElem?_map] at hj
    obtain ⟨id, h1, h2⟩ := Option.map_eq_some_iff.1 hj
    have h3 := hlt id (List.mem_of_getElem? h1)
    refine ⟨id, H[id], h1, List.getElem?_eq_getElem h3, ?_⟩
    rw [← h2, List.getD_eq_getElem?_getD, List.getElem?_eq_getElem h3]
    rfl
  have hlen : (gcH m H).length = m.length := by simp [gcH]
  refine ⟨h.defers, h.size, fun t => gc_bor hn hag _ _ (h.env t), ⟨?_, ?_, ?_⟩, ?_, ?_, h.ws, ?_, ?_⟩
  · intro j b e _ hb hl he
    obtain ⟨id, b0, h1, h2, rfl⟩ := hget j b hb
    rw [hI j id h1] at he
    exact BRo_bor (gc_bor hn hag) (h.hs.br id b0 e (hlt id (List.mem_of_getElem? h1)) h2 hl he)
  · intro j j' b b' c c' _ _ hb hb' hl hl' hc hc' heq
    obtain ⟨id, b0, h1, h2, rfl⟩ := hget j b hb
    obtain ⟨id', b0', h1', h2', rfl⟩ := hget j' b' hb'
    rw [hI j id h1] at hc
    rw [hI j' id' h1'] at hc'
    have := h.hs.inj id id' b0 b0' c c' (hlt id (List.mem_of_getElem? h1)) (hlt id' (List.mem_of_getElem? h1')) h2 h2' hl hl' hc hc' heq
    subst this
    have h4 := idx_of hn h1
    rw [idx_of hn h1'] at h4
    exact (Option.some.inj h4).symm
  · intro j b c _ hb hl hc
    obtain ⟨id, b0, h1, h2, rfl⟩ := hget j b hb
    rw [hI j id h1] at hc
    exact h.hs.own id b0 c (hlt id (List.mem_of_getElem? h1)) h2 hl hc
  · intro j hj
    rw [hlen] at hj
    rw [hI j _ (List.getElem?_eq_getElem hj)]
    exact h.cr _ (hlt _ (List.getElem_mem hj))
  · intro j hj
    rw [hlen] at hj
    show (match m[j]? with | some id => ι id | none => none) = _
    rw [List.getElem?_eq_none hj]
  · intro j hj
    rw [hI j j (hk j hj)]
    exact h.par j hj
  · rw [hlen]
    by_cases h0 : k = 0
    · omega
    · have := (List.getElem?_eq_some_iff.1 (hk (k - 1) (by omega))).1
      omega

/-- A stretch in the order of its text. -/
theorem awpOps_sound {ops : Array Oper} {K : Env → Heap → Prop} {Q : Exit → Act → World → Prop} (hFS : FS F w0 M) (hQ : ∀ ρ' H' ι' a' w', K ρ' H' → St F w0 M k ι0 n ι' ρ' H' a' w' → Q .normal a' w') :
    ∀ (l : List Oper) (j : Nat) (ρ : Env) (H : Heap) (ι : Inj) (a : Act) (w : World), (∀ i, l[i]? = ops[j + i]?) → (∀ o, o ∈ l → ∀ d, o.dst = some d → d < n) → St F w0 M k ι0 n ι ρ H a w → awpOps P ops K l ρ H → wpOps P ops Q (List.range' j l.length) a w := by
  intro l
  induction l with
  | nil =>
    intro j ρ H ι a w _ _ hS hK
    simpa [wpOps] using hQ ρ H ι a w hK hS
  | cons o rest ih =>
    intro j ρ H ι a w hl hd hS hK
    have h0 : ops[j]? = some o := by simpa using (hl 0).symm
    have hrest : ∀ i, rest[i]? = ops[j + 1 + i]? := fun i => by
      have := hl (i + 1)
      simpa [Nat.add_assoc, Nat.add_comm 1 i] using this
    have hd' : ∀ o, o ∈ rest → ∀ d, o.dst = some d → d < n := fun o ho => hd o (List.mem_cons_of_mem _ ho)
    simp only [List.length_cons, List.range'_succ]
    rw [wpOps_cons]
    unfold wpOp
    rw [h0]
    simp only [awpOps] at hK ⊢
    split at hK
    case h_2 => exact hK.elim
    rename_i b hg
    rw [wanted_of hg hS.env]
    split at hK
    · rename_i hb
      rw [if_pos hb]
      refine Or.inl (opK_sound hFS hS (hd o (by simp)) hK ?_)
      intro ρ' H' ι' a' w' hk' hs'
      exact ih (j + 1) ρ' H' ι' a' w' hrest hd' hs' hk'
    · rename_i hb
      rw [if_neg hb]
      exact ih (j + 1) _ H ι _ w hrest hd' (hS.putUndef (hd o (by simp))) hK

def Lift (F : Nat → Prop) (w0 : World) (M : Nat → Prop) (k : Nat) (ι0 : Inj) (n : Nat) (Q : Exit → Env → Heap → Prop) (e : Exit) (a : Act) (w : World) : Prop :=
  ∃ ρ H ι, Q e ρ H ∧ St F w0 M k ι0 n ι ρ H a w

/-- THE LAW OF CODE. -/
theorem awp_sound (hFS : FS F w0 M) (c : Code) : ∀ {Q : Exit → Env → Heap → Prop} {ρ : Env} {H : Heap} {ι : Inj} {a : Act} {w : World}, dstsOk n c = true → awp P k c Q ρ H → St F w0 M k ι0 n ι ρ H a w → c.wp P (Lift F w0 M k ι0 n Q) a w := by
  induction c with
  | skip => intro Q ρ H ι a w _ h hS; exact wp_skip ⟨ρ, H, ι, h, hS⟩
  | region id ops draw =>
    intro Q ρ H ι a w hd h hS
    simp only [awp] at h
    split at h
    · rename_i hdr
      subst hdr
      refine wp_region_any h.1 (awpD_sound (Q := Lift F w0 M k ι0 n Q) hFS (fun ρ' H' ι' a' w' hk hs => ⟨ρ', H', ι', hk, hs⟩) ?_ (hS.drawn rfl rfl rfl rfl) h.2)
      intro o ho d hod
      simp only [dstsOk, List.all_eq_true] at hd
      have := hd o (by simpa using ho)
      rw [hod] at this
      simpa using this
    rename_i hdr
    obtain rfl : draw = false := by simpa using hdr
    refine wp_region ?_
    have := awpOps_sound (Q := Lift F w0 M k ι0 n Q) hFS (fun ρ' H' ι' a' w' hk hs => ⟨ρ', H', ι', hk, hs⟩) ops.toList 0 ρ H ι a w (by simp) ?_ hS h
    · simpa [List.range_eq_range'] using this
    · intro o ho d hod
      simp only [dstsOk, List.all_eq_true] at hd
      have := hd o ho
      rw [hod] at this
      simpa using this
  | seq x y ihx ihy =>
    intro Q ρ H ι a w hd h hS
    simp only [dstsOk, Bool.and_eq_true] at hd
    refine wp_seq (wp_mono (ihx hd.1 h hS) ?_)
    rintro e a' w' ⟨ρ', H', ι', hk, hs⟩
    cases e with
    | normal =>
      obtain ⟨ρw, Hw, hw, hk⟩ := hk
      obtain ⟨ιw, hs⟩ := hw F w0 M ι0 n ι' a' w' hFS hs
      exact ihy hd.2 hk hs
    | _ => exact ⟨ρ', H', ι', hk, hs⟩
  | cond c x y ihx ihy =>
    intro Q ρ H ι a w hd h hS
    simp only [dstsOk, Bool.and_eq_true] at hd
    simp only [awp] at h
    split at h
    case h_2 => exact h.elim
    rename_i t ht
    have hv := hS.aeval c
    rw [ht] at hv
    have hv := VR_bool hv
    split at h
    · rename_i h1
      subst h1
      exact wp_cond_true hv (ihx hd.1 h hS)
    · rename_i h1
      obtain rfl : t = false := by simpa using h1
      exact wp_cond_false hv (ihy hd.2 h hS)
  | block id c ih =>
    intro Q ρ H ι a w hd h hS
    refine wp_block (wp_mono (ih hd h hS) ?_)
    rintro e a' w' ⟨ρ', H', ι', hk, hs⟩
    cases e with
    | exit i =>
      simp only [Exit.inBlock]
      simp only at hk
      split
      · rename_i hi; rw [if_pos hi] at hk; exact ⟨ρ', H', ι', hk, hs⟩
      · rename_i hi; rw [if_neg hi] at hk; exact ⟨ρ', H', ι', hk, hs⟩
    | _ => exact ⟨ρ', H', ι', hk, hs⟩
  | loop c ih =>
    intro Q ρ H ι a w hd h hS
    intro b K cs
    have key := h (fun ρ H => ∀ ι a w, St F w0 M k ι0 n ι ρ H a w → ∃ e a' w', Lift F w0 M k ι0 n Q e a' w' ∧ Arrives P (lone (b.at a (.code c :: .inLoop c :: K)) cs w) b K cs e a' w') ?_
    · obtain ⟨e, a', w', hq, harr⟩ := key ι a w hS
      exact ⟨e, a', w', hq, .of_steps (.one step_loop) harr⟩
    · intro ρ H hb ι a w hS
      obtain ⟨e, a1, w1, ⟨ρ1, H1, ι1, hk, hs⟩, harr⟩ := ih hd hb hS b (.inLoop c :: K) cs
      cases e with
      | normal =>
        obtain ⟨ρw, Hw, hw, hk⟩ := hk
        obtain ⟨ιw, hs⟩ := hw F w0 M ι0 n ι1 a1 w1 hFS hs
        obtain ⟨e2, a2, w2, hq2, harr2⟩ := hk ιw a1 w1 hs
        exact ⟨e2, a2, w2, hq2, .of_steps (Steps.trans harr (.one step_inLoop)) harr2⟩
      | _ => exact ⟨_, a1, w1, ⟨ρ1, H1, ι1, hk, hs⟩, .pass (x := .inLoop c) rfl (fun _ _ => .inl (by simp)) harr⟩
  | exit i => intro Q ρ H ι a w _ h hS; exact wp_exit ⟨ρ, H, ι, h, hS⟩
  | ret => intro Q ρ H ι a w _ h hS; exact wp_ret ⟨ρ, H, ι, h, hS⟩
  | _ => intro Q ρ H ι a w _ h; exact h.elim

/-! ### results -/
theorem aLoad_sound {t : TypeId} {x y : AV} {v : Value} (hx : aLoad P H t x = some y) (hS : St F w0 M k ι0 n ι ρ H a w) (hFS : FS F w0 M) (hv : VR F ι w0 x v) :
    ∃ u, (do loadVar t (← asAddr v) : Sem Value).run P w = .ok u w ∧ VR F ι w0 y u := by
  unfold aLoad at hx
  split at hx
  · rename_i id off
    split at hx
    · rename_i b hb
      split at hx
      · rename_i hl
        simp only [VR] at hv
        obtain ⟨c, h1, h2⟩ := hv
        obtain ⟨vs, h3, h4⟩ := BR.cellsAt (hS.hs.br id b (some c) (List.getElem?_eq_some_iff.1 hb).1 hb hl h1)
        obtain ⟨u, h5, h6⟩ := load_sound (P := P) hx (h3.drop off) (h4.drop off)
        refine ⟨u, ?_, h6⟩
        rw [h2]
        simpa [asAddr] using h5
      · cases hx
    · cases hx
  · rename_i cs
    simp only [VR] at hv
    obtain ⟨c, off, vs, h1, h2, h3, h4⟩ := hv
    obtain ⟨u, h5, h6⟩ := load_sound (P := P) hx h4 (h3.world (hS.ws.agree c (hFS c h2).1 (hFS c h2).2))
    refine ⟨u, ?_, h6⟩
    rw [h1]
    simpa [asAddr] using h5
  · cases hx

theorem aRes_run (f : ResultVar → Sem Value) (hf : ∀ u, f (.tmp u) = pure (a.tmps.getD u undef)) (hc : ∀ x t, f (.cell x t) = (do loadVar t (← asAddr (a.tmps.getD x undef)))) (hS : St F w0 M k ι0 n ι ρ H a w) (hFS : FS F w0 M) :
    ∀ (rs : List ResultVar) (vs : List AV), aRes P H ρ rs = some vs → ∃ us, (rs.mapM f).run P w = .ok us w ∧ VRL F ι w0 vs us
  | [], vs, h => by
    simp only [aRes, Option.some.injEq] at h
    subst h
    exact ⟨[], by simp, by simp [VRL]⟩
  | .tmp t :: rs, vs, h => by
    simp only [aRes] at h
    split at h
    · rename_i vs' h'
      obtain rfl := Option.some.inj h
      obtain ⟨us, h1, h2⟩ := aRes_run f hf hc hS hFS rs vs' h'
      exact ⟨a.tmps.getD t undef :: us, by rw [List.mapM_cons, hf]; simp [h1], VRL_cons.2 ⟨_, us, rfl, hS.env t, h2⟩⟩
    · cases h
  | .cell x t :: rs, vs, h => by
    simp only [aRes] at h
    split at h
    · rename_i y vs' hy h'
      obtain rfl := Option.some.inj h
      obtain ⟨us, h1, h2⟩ := aRes_run f hf hc hS hFS rs vs' h'
      obtain ⟨u, h3, h4⟩ := aLoad_sound hy hS hFS (hS.env x)
      refine ⟨u :: us, ?_, VRL_cons.2 ⟨u, us, rfl, h4, h2⟩⟩
      rw [List.mapM_cons, hc]
      rw [Sem.run_bind, h3]
      simp [h1]
    · cases h

theorem results_sound {fn : Func} {vs : List AV} (hr : aRes P H ρ fn.results.toList = some vs) (hS : St F w0 M k ι0 n ι ρ H a w) (hFS : FS F w0 M) : ∃ v, (results fn a.tmps).run P w = .ok v w ∧ VR F ι w0 (aResult vs) v := by
  have gen : ∀ f : ResultVar → Sem Value, (∀ u, f (.tmp u) = pure (a.tmps.getD u undef)) → (∀ x t, f (.cell x t) = (do loadVar t (← asAddr (a.tmps.getD x undef)))) →
      ∃ v, (((Sem.run P (fn.results.toList.mapM f) w).andThen fun a w' => Result.ok a.toArray w').andThen fun a w' => Sem.run P (pure (if h : a.size = 1 then a[0] else Value.tuple a)) w') = .ok v w ∧ VR F ι w0 (aResult vs) v := by
    intro f hf hc
    obtain ⟨us, h1, h2⟩ := aRes_run f hf hc hS hFS fn.results.toList vs hr
    rw [h1]
    have hl := h2.length
    match vs, us, h2, hl with
    | [], [], h2, _ => exact ⟨.tuple #[], by simp, by simp [aResult, VR, VRL]⟩
    | [x], [u], h2, _ =>
      obtain ⟨v, rest, h3, h4, _⟩ := VRL_cons.1 h2
      obtain ⟨rfl, rfl⟩ := List.cons.inj h3
      exact ⟨u, by simp, h4⟩
    | x :: x' :: xs, u :: u' :: us, h2, _ => exact ⟨.tuple (u :: u' :: us).toArray, by simp, by simpa [aResult, VR] using h2⟩
  unfold results
  rw [show fn.results = fn.results.toList.toArray by simp, List.mapM_toArray]
  simp only [Sem.run_bind, Sem.run_map]
  exact gen _ (fun _ => rfl) (fun _ _ => rfl)

/-! ### functions -/
theorem sat_of {f : FuncId} {fn : Func} {c : Code} {args : List AV} {h : Heap} {Q : AV → Heap → Prop} (hent : ∀ (as : Array Value) (w : World), (callFunc f as).run P w = .ok (.enter f as) w)
    (hf : P.funcs[f]? = some fn) (hb : fn.body = some c) (hd : dstsOk fn.ntmps c = true) (hlen : args.length ≤ fn.ntmps)
    (hw : awp P h.length c (retQ P fn.results.toList h.length Q) (argEnv args) h) : ∃ v h', Q v h' ∧ Sat P f args h v h' := by
  obtain ⟨e, ρ1, H1, hQ, hw1⟩ := awp_det c hw
  have hfin : e = .normal ∨ e = .ret := by
    cases e <;> first | exact Or.inl rfl | exact Or.inr rfl | exact hQ.elim
  have hQ' : wkQ h.length (fun ρ H => ∃ vs, aRes P H ρ fn.results.toList = some vs ∧ ∃ (szs : List Nat) (v : AV), Ref H.length (H.length + szs.length) (aResult vs) v ∧ endQ h.length Q v (H ++ szs.map fun s => ⟨s, [], true, false⟩)) ρ1 H1 := by
    rcases hfin with rfl | rfl <;> exact hQ
  obtain ⟨ρr, Hq, hwk, vs, hres, szs, vr, href, keep, hgc, hkl, hq⟩ := hQ'
  obtain ⟨Hr, hHr⟩ : ∃ Hr, Hr = Hq ++ szs.map fun s => (⟨s, [], true, false⟩ : Blk) := ⟨_, rfl⟩
  rw [← hHr] at hgc hkl hq
  refine ⟨_, _, hq, hent, ?_⟩
  intro F ι w cargs hF hcr hnw hS hargs
  let M : Nat → Prop := fun c => ∃ id b e, h[id]? = some b ∧ b.live = true ∧ ι id = some (some e) ∧ e.blk = c
  have hFS : FS F w M := by
    intro c hc
    refine ⟨hF c hc, ?_⟩
    rintro ⟨id, b, e, h1, h2, h3, h4⟩
    subst h4
    exact (hS.own id b e (List.getElem?_eq_some_iff.1 h1).1 h1 h2 h3).1 hc
  have hal : cargs.size = args.length := by
    have := hargs.length
    simpa using this.symm
  have hst : St F w M h.length ι fn.ntmps ι (argEnv args) h { tmps := cargs ++ Array.replicate (fn.ntmps - cargs.size) undef, defers := [] } w := by
    refine ⟨rfl, by simp; omega, ?_, hS, hcr, hnw, ⟨fun _ _ _ => rfl, rfl, rfl, rfl, Nat.le_refl _⟩, fun _ _ => rfl, Nat.le_refl _⟩
    intro t
    unfold argEnv
    by_cases ht : t < args.length
    · obtain ⟨v, h1, h2⟩ := hargs.get t args[t] (List.getElem?_eq_getElem ht)
      have h3 : cargs[t]? = some v := by simpa using h1
      have h4 : (cargs ++ Array.replicate (fn.ntmps - cargs.size) undef).getD t undef = v := by
        rw [Array.getD_eq_getD_getElem?, Array.getElem?_append_left (by omega), h3]
        rfl
      simp only [h4]
      rw [List.getD_eq_getElem?_getD, List.getElem?_eq_getElem ht]
      exact h2
    · rw [List.getD_eq_getElem?_getD, List.getElem?_eq_none (by omega)]
      simp [VR]
  refine calls_of_wp hf hb (wp_mono (awp_sound hFS c hd hw1 hst) ?_)
  rintro e' a' w' ⟨ρ0, H0, ι2, ⟨rfl, rfl, rfl⟩, hs⟩
  obtain ⟨ι3, hs⟩ := hwk F w M ι fn.ntmps ι2 a' w' hFS hs
  obtain ⟨v, hrv, hvv0⟩ := results_sound hres hs hFS
  obtain ⟨ι1, hle1, hnew1, hs⟩ := hs.norm szs RefE.refl
  have hvv : VR F ι1 w vr v := Ref.sound hnew1 href (VR.mono (fun _ h => h) hle1 (fun _ _ => rfl) _ hvv0)
  rw [← hHr] at hs
  have hs2 := hs.gc hFS hgc
  have hag : ∀ c, F c → w'.heap[c]? = w.heap[c]? := fun c hc => hs.ws.agree c (hFS c hc).1 (hFS c hc).2
  have hlive : ∀ j, h.length ≤ j → j < (gcH (List.range h.length ++ keep) Hr).length → ∃ b, (gcH (List.range h.length ++ keep) Hr)[j]? = some b ∧ b.live = true := by
    intro j h1 h2
    have h3 : j - h.length < keep.length := by
      simp [gcH] at h2
      omega
    obtain ⟨b, h4, h5⟩ := hkl keep[j - h.length] (List.getElem_mem h3)
    refine ⟨borB [] (idx (List.range h.length ++ keep)) fuel b, ?_, h5⟩
    unfold gcH
    rw [List.getElem?_map, List.getElem?_append_right (by simpa using h1)]
    simp [h3, h4]
  have hR : bodyPost P fn (fun e w' => ∃ cv ι', e = .returned cv ∧ VR F ι' w (bor [] (idx (List.range h.length ++ keep)) fuel vr) cv ∧
      Eff F w ι ι' h (gcH (List.range h.length ++ keep) Hr) (List.range h.length) w w') .ret a' w' := by
    refine ⟨hs.defers, v, hrv, v, gcI (List.range h.length ++ keep) ι1, rfl, gc_bor hgc.1 hag _ _ hvv, ?_⟩
    refine ⟨hs2.kle, ?_, ?_, ?_, ?_, ?_, ?_, ?_, ?_, hs2.ws.os, hs2.ws.tape, hs2.ws.out, hs2.ws.size⟩
    · intro id e he
      by_cases hid : id < h.length
      · rw [hs2.par id hid]; exact he
      · rw [hnw id (by omega)] at he; cases he
    · intro id hid
      rcases hid with hid | hid
      · exact hs2.par id hid
      · rw [hs2.nw id hid, hnw id (Nat.le_trans hs2.kle hid)]
    · intro id h1 h2
      obtain ⟨e, he⟩ := Option.ne_none_iff_exists'.1 (hs2.cr id h2)
      exact ⟨e, he, fun b hb hl => hs2.hs.br id b e h2 hb hl he⟩
    · intro id c h1 h2 h3
      obtain ⟨b, hb, hl⟩ := hlive id h1 h2
      rcases (hs2.hs.own id b c h2 hb hl h3).2 with h4 | h4
      · obtain ⟨id0, b0, e0, g1, g2, g3, g4⟩ := h4
        have g5 : id0 < h.length := (List.getElem?_eq_some_iff.1 g1).1
        refine Or.inr ⟨id0, e0, List.mem_range.2 g5, g3, g4, fun b' hb' => ?_⟩
        cases hb'l : b'.live with
        | false => rfl
        | true =>
          have := hs2.hs.inj id0 id b' b e0 c (Nat.lt_of_lt_of_le g5 hs2.kle) h2 hb' hb hb'l hl (by rw [hs2.par id0 g5]; exact g3) h3 g4
          omega
      · exact Or.inl h4
    · intro id id' c c' h1 h2 h3 h4 h5 h6 h7
      obtain ⟨b, hb, hl⟩ := hlive id h1 h2
      obtain ⟨b', hb', hl'⟩ := hlive id' h3 h4
      exact hs2.hs.inj id id' b b' c c' h2 h4 hb hb' hl hl' h5 h6 h7
    · intro id b e hid hb hl he
      rw [List.mem_range] at hid
      exact hs2.hs.br id b e (Nat.lt_of_lt_of_le hid hs2.kle) hb hl (by rw [hs2.par id hid]; exact he)
    · intro id h1 h2
      exact absurd (List.mem_range.2 h1) h2
    · intro c hc hno
      refine hs2.ws.agree c hc ?_
      rintro ⟨id, b, e, g1, g2, g3, g4⟩
      exact hno id e (List.mem_range.2 (List.getElem?_eq_some_iff.1 g1).1) g3 g4
  rcases hfin with rfl | rfl <;> exact hR
end
end Go.Proofs.Ytgddflnhibhacaa.AM
