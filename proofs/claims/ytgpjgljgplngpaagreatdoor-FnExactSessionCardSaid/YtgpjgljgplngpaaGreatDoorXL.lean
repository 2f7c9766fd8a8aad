/- A number's text: what the library does, said of the abstract machine; Numbers read, texts searched: what the library does, said of the abstract machine; Texts searched: what the library does, said of the abstract machine. No conditions but those each theorem bears. -/
import Derived.Test.YtgpjgljgplngpaaGreatDoorSh
import Derived.Test.YtgpjgljgplngpaaGreatDoorX1
import Derived.Test.YtgpjgljgplngpaaGreatDoorSi
set_option linter.unusedVariables false
set_option linter.unusedSimpArgs false
namespace Go.Proofs.YtgpjgljgplngpaaGreatDoor.AM
open Go
theorem gr_tab {F : Nat → Prop} {w : World} (hG : GR F w) : Lib.TabIs Tryz.prog w "internal/strconv.uint64pow10" .u64 Lib.pow10Tab := by
 obtain ⟨_, cs, e, fz, h2, h3⟩ := hG _ (by unfold gtab; exact List.mem_cons_self)
 have hn : Tryz.prog.globalNamed "internal/strconv.uint64pow10" = some 5 := by kernel_rfl
 simp only at h2 h3
 simp only [Lib.TabIs, World.var?, hn, Option.bind_some, h2]
 rw [h3]
 rfl
theorem sat_strconv_Itoa (n : Int) (h : -9223372036854775808 ≤ n ∧ n ≤ 9223372036854775807) : Sat Tryz.prog 98 [.int .i64 n] [] (.str (bt (itoa n))) [] :=
 sat_lib Tryz.call98 fun F ι w cargs hG ha => by
  obtain rfl := vrl_int ha
  refine ⟨.string (bt (itoa n)), by simp [VR], (Any.strconv_Itoa Tryz.laysM171 n h.1 h.2 w (gr_tab hG)).mono ?_⟩
  rintro e w' ⟨rfl, k, os, rfl⟩
  exact ⟨rfl, Lib.below_grow w.heap.size w (Nat.le_refl _) k os⟩
end Go.Proofs.YtgpjgljgplngpaaGreatDoor.AM
namespace Go.Proofs.YtgpjgljgplngpaaGreatDoor.AM
open Go
theorem sat_libE {P : Program} {f : FuncId} {v : AV} {args : List AV} (hent : ∀ (xs : Array Value) (w : World), (callFunc f xs).run P w = .ok (.enter f xs) w)
 (h : ∀ (F : Nat → Prop) (ι : Inj) (w : World) (cargs : Array Value), GR F w → VRL F ι w args cargs.toList → Calls P f cargs w (fun e w' => ∃ cv, VR F ι w v cv ∧ e = .returned cv ∧ Go.RowKit.Below w.heap.size w w')) : Sat P f args [] v [] := by
 refine ⟨hent, fun F ι w cargs hF hG _ _ _ ha => ?_⟩
 refine (h F ι w cargs hG ha).mono ?_
 rintro e w' ⟨cv, hv, rfl, hb⟩
 exact ⟨cv, ι, rfl, hv, Nat.le_refl _, Inj.le_refl _, fun _ _ => rfl, fun id _ h2 => absurd h2 (by simp), fun id _ _ h2 => absurd h2 (by simp), fun id _ _ _ _ h2 => absurd h2 (by simp), fun id _ _ h1 => absurd h1 (by simp), fun _ _ _ => rfl, fun c hc _ => hb.block c hc, hb.os, hb.tape, hb.output, hb.size⟩
theorem gr_err {F : Nat → Prop} {w : World} (g : Nat) (hg : (g, fun cs : Array Value => ∃ t x, cs[0]? = some (.iface t x)) ∈ gtab) (hG : GR F w) : ∃ ev, w.cell? ⟨g, 0, none⟩ = some ev ∧ (ev = .nilIface ∨ ∃ te pe, ev = .iface te pe) := by
 obtain ⟨_, cs, e, fz, h2, t, x, h3⟩ := hG _ hg
 exact ⟨.iface t x, by simp only [World.cell?, h2]; exact h3, Or.inr ⟨t, x, rfl⟩⟩
theorem sat_strconv_Atoi (l : Bs) (hl : l.length ≤ 1099511627776) : Sat Tryz.prog 133 [.str (bt l)] [] (.tuple [.int .i64 (atoV l).1, errV (atoV l).2]) [] :=
 sat_libE Tryz.call133 fun F ι w cargs hG ha => by
  obtain rfl := vrl_str ha
  have hsz : (bt l).size = l.length := bt_size
  have hd : (bt l).data.toList = l := bt_data
  cases hr : Lib.atoiAll l
  ·rename_i v
   refine (Any.strconv_Atoi_ok Tryz.laysC172 (bt l) (by omega) v (by rw [hd]; exact hr) w).mono ?_
   rintro e w' ⟨rfl, h⟩
   refine ⟨_, ?_, rfl, ?_⟩
   ·simp [VR, VRL, atoV, hr, errV]
   ·rcases h with rfl | ⟨t, rfl⟩
    ·exact Go.RowKit.Below.refl _ _
    ·exact Lib.bytesWorld_below w _ t
  ·obtain ⟨ev, h1, h2⟩ := gr_err (w := w) 1 (by unfold gtab; simp) hG
   refine (Any.strconv_Atoi_syntax Tryz.laysC172 (bt l) (by omega) (by rw [hd]; exact hr) ev w h1 h2).mono ?_
   rintro e w' ⟨N, rfl, _, _, h⟩
   refine ⟨_, ?_, rfl, h⟩
   simp [VR, VRL, atoV, hr, errV]
   exact ⟨_, _, ⟨rfl, rfl⟩, rfl, _, rfl, _, _, rfl⟩
  ·obtain ⟨ev, h1, h2⟩ := gr_err (w := w) 2 (by unfold gtab; simp) hG
   refine (Any.strconv_Atoi_range Tryz.laysC172 (bt l) (by omega) (by rw [hd]; exact hr) ev w h1 h2).mono ?_
   rintro e w' ⟨N, rfl, _, _, h⟩
   refine ⟨_, ?_, rfl, h⟩
   rw [hd]
   simp [VR, VRL, atoV, hr, errV]
   exact ⟨_, _, ⟨rfl, rfl⟩, rfl, _, rfl, _, _, rfl⟩
theorem sat_slite_Index (l : Bs) (c : UInt8) : Sat Tryz.prog 182 [.str (bt l), .str (bt [c])] [] (.int .i64 (Lib.indexByte l c)) [] :=
 sat_lib Tryz.call182 fun F ι w cargs hG ha => by
  obtain rfl := vrl_str2 ha
  refine ⟨.int .i64 (Lib.indexByte l c), by simp [VR], ((Any.stringslite_Index_one Tryz.lays219 (bt l) c w)).mono ?_⟩
  rintro e w' ⟨rfl, rfl⟩
  rw [bt_data]
  exact ⟨rfl, Go.RowKit.Below.refl _ _⟩
theorem sat_strings_TrimPrefix (l p : Bs) : Sat Tryz.prog 134 [.str (bt l), .str (bt p)] [] (.str (bt (Lib.trimPrefix l p))) [] :=
 sat_lib Tryz.call134 fun F ι w cargs hG ha => by
  obtain rfl := vrl_str2 ha
  refine ⟨.string (bt (Lib.trimPrefix l p)), by simp [VR], ((Any.strings_TrimPrefix Tryz.lays101 (bt l) (bt p) w)).mono ?_⟩
  rintro e w' ⟨rfl, rfl⟩
  rw [bt_data, bt_data]
  exact ⟨rfl, Go.RowKit.Below.refl _ _⟩
end Go.Proofs.YtgpjgljgplngpaaGreatDoor.AM
namespace Go.Proofs.YtgpjgljgplngpaaGreatDoor.AM
open Go
theorem sat_strings_Index (l : Bs) (c : UInt8) : Sat Tryz.prog 154 [.str (bt l), .str (bt [c])] [] (.int .i64 (Lib.indexByte l c)) [] :=
 sat_lib Tryz.call154 fun F ι w cargs hG ha => by
  obtain rfl := vrl_str2 ha
  refine ⟨.int .i64 (Lib.indexByte l c), by simp [VR], ((Any.strings_Index_one Tryz.lays143 (bt l) c w)).mono ?_⟩
  rintro e w' ⟨rfl, rfl⟩
  rw [bt_data]
  exact ⟨rfl, Go.RowKit.Below.refl _ _⟩
theorem sat_strings_Count (l : Bs) (c : UInt8) : Sat Tryz.prog 153 [.str (bt l), .str (bt [c])] [] (.int .i64 (Lib.countByte l c)) [] :=
 sat_lib Tryz.call153 fun F ι w cargs hG ha => by
  obtain rfl := vrl_str2 ha
  refine ⟨.int .i64 (Lib.countByte l c), by simp [VR], ((Any.strings_Count_one Tryz.lays138 (bt l) c w)).mono ?_⟩
  rintro e w' ⟨rfl, rfl⟩
  rw [bt_data]
  exact ⟨rfl, Go.RowKit.Below.refl _ _⟩
end Go.Proofs.YtgpjgljgplngpaaGreatDoor.AM
