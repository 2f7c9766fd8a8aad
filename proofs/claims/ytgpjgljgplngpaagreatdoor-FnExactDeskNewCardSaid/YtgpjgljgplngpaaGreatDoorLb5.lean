/- Texts searched: what the library does, said of the abstract machine. No conditions. -/
import Derived.Test.YtgpjgljgplngpaaGreatDoorLb3
set_option linter.unusedVariables false
set_option linter.unusedSimpArgs false
namespace Go.Proofs.YtgpjgljgplngpaaGreatDoor.AM
open Go

theorem sat_strings_Index (l : Bs) (c : UInt8) : Sat Tryz.prog 154 [.str (bt l), .str (bt [c])] [] (.int .i64 (Lib.indexByte l c)) [] :=
  sat_lib Tryz.call154 fun F ι w cargs hG ha => by
    obtain rfl := vrl_str2 ha
    refine ⟨.int .i64 (Lib.indexByte l c), by simp [VR], ((Any.strings_Index_one Tryz.lays143 (bt l) c w)).mono ?_⟩
    rintro e w' ⟨rfl, rfl⟩
    rw [bt_data]
    exact ⟨rfl, Go.RowKit.Below.refl _ _⟩
theorem sat_strings_Count (l : Bs) (c : UInt8) : Sat Tryz.prog 153 [.str (bt l), .str (bt [c])] [] (.int .i64 (Lib.countByte l c)) [] :=
  sat_lib Tryz.call153 fun F ι w cargs hG ha => by
    obtain rfl := vrl_str2 ha
    refine ⟨.int .i64 (Lib.countByte l c), by simp [VR], ((Any.strings_Count_one Tryz.lays138 (bt l) c w)).mono ?_⟩
    rintro e w' ⟨rfl, rfl⟩
    rw [bt_data]
    exact ⟨rfl, Go.RowKit.Below.refl _ _⟩
end Go.Proofs.YtgpjgljgplngpaaGreatDoor.AM
