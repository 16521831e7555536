import Derived.Test.YtlkiacbmbfmlpaaYA
import Derived.Test.YtlkiacbmbfmlpaaS0
/- The slots. -/
namespace Ev
open Go
set_option linter.unusedSectionVars false
variable [Told] [TokV] [ToldOK]
theorem s_P0 (v : AV) (r : N16 (Option AV)) (k : N16 (Option AV) → Out) : P0 v r k = k (st .d0 v r) := rfl
theorem s_O0 (v : AV) (g : N16 (Option AV) → (N16 (Option AV) → Out) → Out) (r : N16 (Option AV)) (k : N16 (Option AV) → Out) : O0 v g r k = g (st .d0 v r) k := rfl
theorem s_P1 (v : AV) (r : N16 (Option AV)) (k : N16 (Option AV) → Out) : P1 v r k = k (st .d1 v r) := rfl
theorem s_O1 (v : AV) (g : N16 (Option AV) → (N16 (Option AV) → Out) → Out) (r : N16 (Option AV)) (k : N16 (Option AV) → Out) : O1 v g r k = g (st .d1 v r) k := rfl
theorem s_P2 (v : AV) (r : N16 (Option AV)) (k : N16 (Option AV) → Out) : P2 v r k = k (st .d2 v r) := rfl
theorem s_O2 (v : AV) (g : N16 (Option AV) → (N16 (Option AV) → Out) → Out) (r : N16 (Option AV)) (k : N16 (Option AV) → Out) : O2 v g r k = g (st .d2 v r) k := rfl
theorem s_P3 (v : AV) (r : N16 (Option AV)) (k : N16 (Option AV) → Out) : P3 v r k = k (st .d3 v r) := rfl
theorem s_O3 (v : AV) (g : N16 (Option AV) → (N16 (Option AV) → Out) → Out) (r : N16 (Option AV)) (k : N16 (Option AV) → Out) : O3 v g r k = g (st .d3 v r) k := rfl
theorem s_P4 (v : AV) (r : N16 (Option AV)) (k : N16 (Option AV) → Out) : P4 v r k = k (st .d4 v r) := rfl
theorem s_O4 (v : AV) (g : N16 (Option AV) → (N16 (Option AV) → Out) → Out) (r : N16 (Option AV)) (k : N16 (Option AV) → Out) : O4 v g r k = g (st .d4 v r) k := rfl
theorem s_P5 (v : AV) (r : N16 (Option AV)) (k : N16 (Option AV) → Out) : P5 v r k = k (st .d5 v r) := rfl
theorem s_O5 (v : AV) (g : N16 (Option AV) → (N16 (Option AV) → Out) → Out) (r : N16 (Option AV)) (k : N16 (Option AV) → Out) : O5 v g r k = g (st .d5 v r) k := rfl
theorem s_P6 (v : AV) (r : N16 (Option AV)) (k : N16 (Option AV) → Out) : P6 v r k = k (st .d6 v r) := rfl
theorem s_O6 (v : AV) (g : N16 (Option AV) → (N16 (Option AV) → Out) → Out) (r : N16 (Option AV)) (k : N16 (Option AV) → Out) : O6 v g r k = g (st .d6 v r) k := rfl
theorem s_P7 (v : AV) (r : N16 (Option AV)) (k : N16 (Option AV) → Out) : P7 v r k = k (st .d7 v r) := rfl
theorem s_O7 (v : AV) (g : N16 (Option AV) → (N16 (Option AV) → Out) → Out) (r : N16 (Option AV)) (k : N16 (Option AV) → Out) : O7 v g r k = g (st .d7 v r) k := rfl
theorem s_P8 (v : AV) (r : N16 (Option AV)) (k : N16 (Option AV) → Out) : P8 v r k = k (st .d8 v r) := rfl
theorem s_O8 (v : AV) (g : N16 (Option AV) → (N16 (Option AV) → Out) → Out) (r : N16 (Option AV)) (k : N16 (Option AV) → Out) : O8 v g r k = g (st .d8 v r) k := rfl
theorem s_P9 (v : AV) (r : N16 (Option AV)) (k : N16 (Option AV) → Out) : P9 v r k = k (st .d9 v r) := rfl
theorem s_O9 (v : AV) (g : N16 (Option AV) → (N16 (Option AV) → Out) → Out) (r : N16 (Option AV)) (k : N16 (Option AV) → Out) : O9 v g r k = g (st .d9 v r) k := rfl
theorem s_P10 (v : AV) (r : N16 (Option AV)) (k : N16 (Option AV) → Out) : P10 v r k = k (st .d10 v r) := rfl
theorem s_O10 (v : AV) (g : N16 (Option AV) → (N16 (Option AV) → Out) → Out) (r : N16 (Option AV)) (k : N16 (Option AV) → Out) : O10 v g r k = g (st .d10 v r) k := rfl
theorem s_P11 (v : AV) (r : N16 (Option AV)) (k : N16 (Option AV) → Out) : P11 v r k = k (st .d11 v r) := rfl
theorem s_O11 (v : AV) (g : N16 (Option AV) → (N16 (Option AV) → Out) → Out) (r : N16 (Option AV)) (k : N16 (Option AV) → Out) : O11 v g r k = g (st .d11 v r) k := rfl
theorem s_P12 (v : AV) (r : N16 (Option AV)) (k : N16 (Option AV) → Out) : P12 v r k = k (st .d12 v r) := rfl
theorem s_O12 (v : AV) (g : N16 (Option AV) → (N16 (Option AV) → Out) → Out) (r : N16 (Option AV)) (k : N16 (Option AV) → Out) : O12 v g r k = g (st .d12 v r) k := rfl
theorem s_P13 (v : AV) (r : N16 (Option AV)) (k : N16 (Option AV) → Out) : P13 v r k = k (st .d13 v r) := rfl
theorem s_O13 (v : AV) (g : N16 (Option AV) → (N16 (Option AV) → Out) → Out) (r : N16 (Option AV)) (k : N16 (Option AV) → Out) : O13 v g r k = g (st .d13 v r) k := rfl
theorem s_P14 (v : AV) (r : N16 (Option AV)) (k : N16 (Option AV) → Out) : P14 v r k = k (st .d14 v r) := rfl
theorem s_O14 (v : AV) (g : N16 (Option AV) → (N16 (Option AV) → Out) → Out) (r : N16 (Option AV)) (k : N16 (Option AV) → Out) : O14 v g r k = g (st .d14 v r) k := rfl
theorem s_P15 (v : AV) (r : N16 (Option AV)) (k : N16 (Option AV) → Out) : P15 v r k = k (st .d15 v r) := rfl
theorem s_O15 (v : AV) (g : N16 (Option AV) → (N16 (Option AV) → Out) → Out) (r : N16 (Option AV)) (k : N16 (Option AV) → Out) : O15 v g r k = g (st .d15 v r) k := rfl
theorem kk_eq (t : H) (n : Nat) (v : AV) : kk t n v = .ok v t n := rfl
theorem kk_eq' (t : H) (n : Nat) : kk t n = fun v => .ok v t n := rfl
end Ev
