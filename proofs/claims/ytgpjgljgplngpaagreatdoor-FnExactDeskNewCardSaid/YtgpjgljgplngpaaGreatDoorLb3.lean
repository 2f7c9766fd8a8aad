/- Numbers read, texts searched: what the library does, said of the abstract machine. No conditions. -/
import Derived.Test.YtgpjgljgplngpaaGreatDoorSi
import Derived.Test.YtgpjgljgplngpaaGreatDoorLb2
set_option linter.unusedVariables false
set_option linter.unusedSimpArgs false
namespace Go.Proofs.YtgpjgljgplngpaaGreatDoor.AM
open Go

theorem sat_libE {P : Program} {f : FuncId} {v : AV} {args : List AV} (hent : ∀ (xs : Array Value) (w : World), (callFunc f xs).run P w = .ok (.enter f xs) w)
    (h : ∀ (F : Nat → Prop) (ι : Inj) (w : World) (cargs : Array Value), GR F w → VRL F ι w args cargs.toList → Calls P f cargs w (fun e w' => ∃ cv, VR F ι w v cv ∧ e = .returned cv ∧ Go.RowKit.Below w.heap.size w w')) : Sat P f args [] v [] := by
  refine ⟨hent, fun F ι w cargs hF hG _ _ _ ha => ?_⟩
  refine (h F ι w cargs hG ha).mono ?_
  rintro e w' ⟨cv, hv, rfl, hb⟩
  exact ⟨cv, ι, rfl, hv, Nat.le_refl _, Inj.le_refl _, fun _ _ => rfl, fun id _ h2 => absurd h2 (by simp), fun id _ _ h2 => absurd h2 (by simp), fun id _ _ _ _ h2 => absurd h2 (by simp), fun id _ _ h1 => absurd h1 (by simp), fun _ _ _ => rfl, fun c hc _ => hb.block c hc, hb.os, hb.tape, hb.output, hb.size⟩
theorem gr_err {F : Nat → Prop} {w : World} (g : Nat) (hg : (g, fun cs : Array Value => ∃ t x, cs[0]? = some (.iface t x)) ∈ gtab) (hG : GR F w) : ∃ ev, w.cell? ⟨g, 0, none⟩ = some ev ∧ (ev = .nilIface ∨ ∃ te pe, ev = .iface te pe) := by
  obtain ⟨_, cs, e, fz, h2, t, x, h3⟩ := hG _ hg
  exact ⟨.iface t x, by simp only [World.cell?, h2]; exact h3, Or.inr ⟨t, x, rfl⟩⟩
theorem sat_strconv_Atoi (l : Bs) (hl : l.length ≤ 1099511627776) : Sat Tryz.prog 133 [.str (bt l)] [] (.tuple [.int .i64 (atoV l).1, errV (atoV l).2]) [] :=
  sat_libE Tryz.call133 fun F ι w cargs hG ha => by
    obtain rfl := vrl_str ha
    have hsz : (bt l).size = l.length := bt_size
    have hd : (bt l).data.toList = l := bt_data
    cases hr : Lib.atoiAll l
    · rename_i v
      refine (Any.strconv_Atoi_ok Tryz.laysC172 (bt l) (by omega) v (by rw [hd]; exact hr) w).mono ?_
      rintro e w' ⟨rfl, h⟩
      refine ⟨_, ?_, rfl, ?_⟩
      · simp [VR, VRL, atoV, hr, errV]
      · rcases h with rfl | ⟨t, rfl⟩
        · exact Go.RowKit.Below.refl _ _
        · exact Lib.bytesWorld_below w _ t
    · obtain ⟨ev, h1, h2⟩ := gr_err (w := w) 1 (by unfold gtab; simp) hG
      refine (Any.strconv_Atoi_syntax Tryz.laysC172 (bt l) (by omega) (by rw [hd]; exact hr) ev w h1 h2).mono ?_
      rintro e w' ⟨N, rfl, _, _, h⟩
      refine ⟨_, ?_, rfl, h⟩
      simp [VR, VRL, atoV, hr, errV]
      exact ⟨_, _, ⟨rfl, rfl⟩, rfl, _, rfl, _, _, rfl⟩
    · obtain ⟨ev, h1, h2⟩ := gr_err (w := w) 2 (by unfold gtab; simp) hG
      refine (Any.strconv_Atoi_range Tryz.laysC172 (bt l) (by omega) (by rw [hd]; exact hr) ev w h1 h2).mono ?_
      rintro e w' ⟨N, rfl, _, _, h⟩
      refine ⟨_, ?_, rfl, h⟩
      rw [hd]
      simp [VR, VRL, atoV, hr, errV]
      exact ⟨_, _, ⟨rfl, rfl⟩, rfl, _, rfl, _, _, rfl⟩
theorem sat_slite_Index (l : Bs) (c : UInt8) : Sat Tryz.prog 182 [.str (bt l), .str (bt [c])] [] (.int .i64 (Lib.indexByte l c)) [] :=
  sat_lib Tryz.call182 fun F ι w cargs hG ha => by
    obtain rfl := vrl_str2 ha
    refine ⟨.int .i64 (Lib.indexByte l c), by simp [VR], ((Any.stringslite_Index_one Tryz.lays219 (bt l) c w)).mono ?_⟩
    rintro e w' ⟨rfl, rfl⟩
    rw [bt_data]
    exact ⟨rfl, Go.RowKit.Below.refl _ _⟩
theorem sat_strings_TrimPrefix (l p : Bs) : Sat Tryz.prog 134 [.str (bt l), .str (bt p)] [] (.str (bt (Lib.trimPrefix l p))) [] :=
  sat_lib Tryz.call134 fun F ι w cargs hG ha => by
    obtain rfl := vrl_str2 ha
    refine ⟨.string (bt (Lib.trimPrefix l p)), by simp [VR], ((Any.strings_TrimPrefix Tryz.lays101 (bt l) (bt p) w)).mono ?_⟩
    rintro e w' ⟨rfl, rfl⟩
    rw [bt_data, bt_data]
    exact ⟨rfl, Go.RowKit.Below.refl _ _⟩
end Go.Proofs.YtgpjgljgplngpaaGreatDoor.AM
