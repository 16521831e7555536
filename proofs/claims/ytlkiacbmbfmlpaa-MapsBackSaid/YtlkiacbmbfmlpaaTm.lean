import Derived.Test.YtlkiacbmbfmlpaaS0
import Derived.Test.YtlkiacbmbfmlpaaProg
import Derived.KernelRfl
/- The meanings that were written out are the functions of the program: part 0. -/
namespace Ev
open Go Go.Proofs
set_option linter.unusedSectionVars false
set_option linter.unusedVariables false
set_option maxRecDepth 100000
/-- rows of numbers: the first one, how many -/
def rg : List Nat → List Nat
  | a :: c :: r => List.range' a c ++ rg r
  | _ => []
/-- a function as it is read from the program -/
noncomputable def gf (L : List Nat) (fn : Func) : IFn := (cFn Try.prog L fn).getD ⟨0, .bad 0, []⟩
theorem mixed : Try.prog.follows .mixedOrders = true := by kernel_rfl
variable [Told] [TokV] [ToldOK]
abbrev EO (k : Nat) (d : FnD) : Prop := ∀ {tk : Tok}, EntOK Try.prog tk k d
theorem ene {f : Nat} {L : List Nat} {fn : Func} {d : FnD} (h1 : Try.prog.funcs[f]? = some fn) (h2 : (fn.name != "runtime.NumGoroutine") = true) (h3 : (cFn Try.prog L fn).map denF = some d) : EO f d := fun {_} => ent_eq mixed h1 h2 h3
theorem ent {f : Nat} {L : List Nat} {fn : Func} {d : FnD} (h1 : Try.prog.funcs[f]? = some fn) (h2 : (fn.name != "runtime.NumGoroutine") = true) (h3 : (cFnT Try.prog L fn).map (fun p => denFT (nparams fn) p.1 p.2) = some d) : EO f d := fun {_} => ent_top mixed h1 h2 h3
theorem eng {f : Nat} {L : List Nat} {fn : Func} (h1 : Try.prog.funcs[f]? = some fn) (h2 : (fn.name != "runtime.NumGoroutine") = true) (h3 : (cFn Try.prog L fn).isSome = true) : EO f (denF (gf L fn)) := fun {_} => ent_fn mixed h1 h2 (by
  unfold gf
  cases h : cFn Try.prog L fn with
  | none => rw [h] at h3; cases h3
  | some i => rfl)
end Ev
