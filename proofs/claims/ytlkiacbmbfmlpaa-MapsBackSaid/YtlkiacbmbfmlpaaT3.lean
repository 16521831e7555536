import Derived.Test.YtlkiacbmbfmlpaaTm
/- The meanings that were written out are the functions of the program: part 3. -/
namespace Ev
open Go Go.Proofs
set_option linter.unusedSectionVars false
set_option linter.unusedVariables false
set_option maxRecDepth 100000
variable [Told] [TokV] [ToldOK]
theorem e5 : EO 5 s5 := ene (L := (rg [4,37])) Try.func5 (by kernel_rfl) (by kernel_rfl)
theorem e8 : EO 8 s8 := ene (L := (rg [11,2,17,27,48,3,52,21])) Try.func8 (by kernel_rfl) (by kernel_rfl)
theorem e11 : EO 11 s11 := ene (L := (rg [3,5])) Try.func11 (by kernel_rfl) (by kernel_rfl)
theorem e14 : EO 14 s14 := ene (L := (rg [3,3])) Try.func14 (by kernel_rfl) (by kernel_rfl)
theorem e17 : EO 17 s17 := ene (L := (rg [3,10])) Try.func17 (by kernel_rfl) (by kernel_rfl)
theorem e20 : EO 20 s20 := ene (L := (rg [6,5])) Try.func20 (by kernel_rfl) (by kernel_rfl)
theorem e23 : EO 23 s23 := ene (L := (rg [10,7,18,12])) Try.func23 (by kernel_rfl) (by kernel_rfl)
theorem e26 : EO 26 s26 := ene (L := (rg [4,5,10,11])) Try.func26 (by kernel_rfl) (by kernel_rfl)
theorem e29 : EO 29 s29 := ene (L := (rg [6,4,11,3,15,10])) Try.func29 (by kernel_rfl) (by kernel_rfl)
theorem e32 : EO 32 s32 := ene (L := (rg [5,6])) Try.func32 (by kernel_rfl) (by kernel_rfl)
theorem e35 : EO 35 s35 := ene (L := (rg [8,6,15,11])) Try.func35 (by kernel_rfl) (by kernel_rfl)
theorem e38 : EO 38 s38 := ene (L := (rg [4,4,9,9])) Try.func38 (by kernel_rfl) (by kernel_rfl)
theorem e41 : EO 41 s41 := ene (L := (rg [6,5,12,4,17,37])) Try.func41 (by kernel_rfl) (by kernel_rfl)
end Ev
