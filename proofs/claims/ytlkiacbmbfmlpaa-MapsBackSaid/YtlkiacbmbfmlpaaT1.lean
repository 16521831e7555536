import Derived.Test.YtlkiacbmbfmlpaaTm
/- The meanings that were written out are the functions of the program: part 1. -/
namespace Ev
open Go Go.Proofs
set_option linter.unusedSectionVars false
set_option linter.unusedVariables false
set_option maxRecDepth 100000
variable [Told] [TokV] [ToldOK]
theorem e3 : EO 3 s3 := ene (L := (rg [10,1,12,7,20,3,24,17,42,29])) Try.func3 (by kernel_rfl) (by kernel_rfl)
theorem e6 : EO 6 s6 := ene (L := (rg [11,6,18,19,38,16])) Try.func6 (by kernel_rfl) (by kernel_rfl)
theorem e9 : EO 9 s9 := ene (L := (rg [10,5,16,31,48,3,52,17,70,9,80,4])) Try.func9 (by kernel_rfl) (by kernel_rfl)
theorem e12 : EO 12 s12 := ene (L := (rg [3,12])) Try.func12 (by kernel_rfl) (by kernel_rfl)
theorem e15 : EO 15 s15 := ene (L := (rg [9,9,19,8,30,18,49,3])) Try.func15 (by kernel_rfl) (by kernel_rfl)
theorem e18 : EO 18 s18 := ene (L := (rg [3,3])) Try.func18 (by kernel_rfl) (by kernel_rfl)
theorem e21 : EO 21 s21 := ene (L := (rg [1,2])) Try.func21 (by kernel_rfl) (by kernel_rfl)
theorem e24 : EO 24 s24 := ene (L := (rg [13,7,21,4,29,7])) Try.func24 (by kernel_rfl) (by kernel_rfl)
theorem e27 : EO 27 s27 := ene (L := (rg [4,3])) Try.func27 (by kernel_rfl) (by kernel_rfl)
theorem e30 : EO 30 s30 := ene (L := (rg [3,1,5,3])) Try.func30 (by kernel_rfl) (by kernel_rfl)
theorem e33 : EO 33 s33 := ene (L := (rg [3,5])) Try.func33 (by kernel_rfl) (by kernel_rfl)
theorem e36 : EO 36 s36 := ene (L := (rg [5,8,14,21,36,7,44,24])) Try.func36 (by kernel_rfl) (by kernel_rfl)
theorem e39 : EO 39 s39 := ene (L := (rg [5,1,7,9,17,10])) Try.func39 (by kernel_rfl) (by kernel_rfl)
theorem e42 : EO 42 s42 := ene (L := (rg [6,1,10,6,17,2])) Try.func42 (by kernel_rfl) (by kernel_rfl)
end Ev
