import Derived.Test.YtlkiacbmbfmlpaaTm
/- The meanings that were written out are the functions of the program: part 2. -/
namespace Ev
open Go Go.Proofs
set_option linter.unusedSectionVars false
set_option linter.unusedVariables false
set_option maxRecDepth 100000
variable [Told] [TokV] [ToldOK]
theorem e4 : EO 4 s4 := ene (L := (rg [10,1,12,7,20,3,24,33,58,13,72,24])) Try.func4 (by kernel_rfl) (by kernel_rfl)
theorem e7 : EO 7 s7 := ene (L := (rg [12,5,18,18,37,4,42,13,56,9,66,9,76,6])) Try.func7 (by kernel_rfl) (by kernel_rfl)
theorem e10 : EO 10 s10 := ene (L := (rg [6,4,11,3,15,40])) Try.func10 (by kernel_rfl) (by kernel_rfl)
theorem e13 : EO 13 s13 := ene (L := (rg [3,3])) Try.func13 (by kernel_rfl) (by kernel_rfl)
theorem e16 : EO 16 s16 := ene (L := (rg [3,1,5,3])) Try.func16 (by kernel_rfl) (by kernel_rfl)
theorem e19 : EO 19 s19 := ene (L := (rg [3,3])) Try.func19 (by kernel_rfl) (by kernel_rfl)
theorem e22 : EO 22 s22 := ene (L := (rg [10,7,18,15])) Try.func22 (by kernel_rfl) (by kernel_rfl)
theorem e25 : EO 25 s25 := ene (L := (rg [4,5])) Try.func25 (by kernel_rfl) (by kernel_rfl)
theorem e28 : EO 28 s28 := ene (L := (rg [4,3])) Try.func28 (by kernel_rfl) (by kernel_rfl)
theorem e31 : EO 31 s31 := ene (L := (rg [8,4,16,9])) Try.func31 (by kernel_rfl) (by kernel_rfl)
theorem e34 : EO 34 s34 := ene (L := (rg [5,4])) Try.func34 (by kernel_rfl) (by kernel_rfl)
theorem e37 : EO 37 s37 := ene (L := (rg [4,4,9,4])) Try.func37 (by kernel_rfl) (by kernel_rfl)
theorem e40 : EO 40 s40 := ene (L := (rg [6,15,22,8])) Try.func40 (by kernel_rfl) (by kernel_rfl)
theorem e43 : EO 43 s43 := ene (L := (rg [7,4,12,3,16,16])) Try.func43 (by kernel_rfl) (by kernel_rfl)
end Ev
