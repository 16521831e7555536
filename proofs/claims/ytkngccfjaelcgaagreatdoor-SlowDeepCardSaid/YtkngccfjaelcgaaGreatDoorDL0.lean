import Derived.Test.YtkngccfjaelcgaaGreatDoorDA0
import Derived.Test.YtkngccfjaelcgaaGreatDoorDA1
import Derived.Test.YtkngccfjaelcgaaGreatDoorDA2
import Derived.Test.YtkngccfjaelcgaaGreatDoorDA3
import Derived.Test.YtkngccfjaelcgaaGreatDoorDA4
import Derived.Test.YtkngccfjaelcgaaGreatDoorDA5
import Derived.Test.YtkngccfjaelcgaaGreatDoorDA6
import Derived.Test.YtkngccfjaelcgaaGreatDoorDA7
import Derived.Test.YtkngccfjaelcgaaGreatDoorDA8
import Derived.Test.YtkngccfjaelcgaaGreatDoorDA9
import Derived.Test.YtkngccfjaelcgaaGreatDoorDA10
import Derived.Test.YtkngccfjaelcgaaGreatDoorDA11
import Derived.Test.YtkngccfjaelcgaaGreatDoorDA12
import Derived.Test.YtkngccfjaelcgaaGreatDoorDA13
import Derived.Test.YtkngccfjaelcgaaGreatDoorDA14
import Derived.Test.YtkngccfjaelcgaaGreatDoorDA15
import Derived.Test.YtkngccfjaelcgaaGreatDoorDA16
import Derived.Test.YtkngccfjaelcgaaGreatDoorDA17
import Derived.Test.YtkngccfjaelcgaaGreatDoorDA18
import Derived.Test.YtkngccfjaelcgaaGreatDoorDA19
import Derived.Test.YtkngccfjaelcgaaGreatDoorDA20
import Derived.Test.YtkngccfjaelcgaaGreatDoorDA21
import Derived.Test.YtkngccfjaelcgaaGreatDoorDA22
import Derived.Test.YtkngccfjaelcgaaGreatDoorDA23
import Derived.Test.YtkngccfjaelcgaaGreatDoorDA24
import Derived.Test.YtkngccfjaelcgaaGreatDoorDA25
import Derived.Test.YtkngccfjaelcgaaGreatDoorDA26
import Derived.Test.YtkngccfjaelcgaaGreatDoorDA27
import Derived.Test.YtkngccfjaelcgaaGreatDoorDA28
import Derived.Test.YtkngccfjaelcgaaGreatDoorDA29
import Derived.Test.YtkngccfjaelcgaaGreatDoorDA30
import Derived.Test.YtkngccfjaelcgaaGreatDoorDA31
import Derived.Test.YtkngccfjaelcgaaGreatDoorDA32
import Derived.Test.YtkngccfjaelcgaaGreatDoorDA33
import Derived.Test.YtkngccfjaelcgaaGreatDoorDA34
import Derived.Test.YtkngccfjaelcgaaGreatDoorDH0
import Derived.Test.YtkngccfjaelcgaaGreatDoorDF0
import Derived.Test.YtkngccfjaelcgaaGreatDoorDF1
import Derived.Test.YtkngccfjaelcgaaGreatDoorCards
import Derived.Test.YtkngccfjaelcgaaGreatDoorTie
/- SlowDeep answers true at every argument, and leaves memory as it was. Conditions: the row's own: three library tables read as the text of the program lays them; the card ties these to the text. -/
namespace Go.Proofs.YtkngccfjaelcgaaGreatDoor.slowDeep
open Go Ev Go.ChangeShapes Go.WideShapes Go.ChangeAt Go.RowKit
set_option maxRecDepth 100000
set_option linter.unusedVariables false
set_option linter.unusedSimpArgs false
/-- the ints that come in -/
def ins (a0 a1 : Int) : Ev.Tok := fun b => match b with
  | 0 => some (.i64, a0)
  | 1 => some (.i64, a1)
  | _ => none
theorem r60 (a : Int) : 0 ≤ a % 60 ∧ a % 60 < 60 := ⟨Int.emod_nonneg _ (by omega), Int.emod_lt_of_pos _ (by omega)⟩
theorem r100 (a : Int) : 0 ≤ a % 100 ∧ a % 100 < 100 := ⟨Int.emod_nonneg _ (by omega), Int.emod_lt_of_pos _ (by omega)⟩
theorem num_ii3 [TokV] (ι : Rn) (n : Nat) : toV ι (ii3 n) = some (.int .i64 (n : Int)) := by simp [ii3, toV, numV, kind]
theorem args_ok {a0 a1 : Int} {b : Bool} [Ev.Told] [TokV] [ToldOK] : toT (rn0 (ins a0 a1)) (args b) = some [.int .i64 a0, .int .i64 a1, .bool b] := by
  cases b <;> simp [args, toT, toV, refV, rn0, ins, numV]
theorem one1 {n fr : Nat} {a0 a1 : Int} {b : Bool} (hn : a0 % 100 = (n : Int)) (hf : (fr : Int) ≤ a1 % 60 + 1) (h : isT (run (@tabR (TA fr) (res1 n)) 1000 noY 4 (args b) .leaf 0) = true) (w : World) : Calls Tryz.prog 4 #[.int .i64 a0, .int .i64 a1, .bool b] w fun e w' => e = .returned (.bool true) ∧ Frm (rn0 (ins a0 a1)) w w' := by
  letI : Ev.Told := TA fr
  letI : TokV := tkv (va (a1 % 60))
  haveI : ToldOK := told1 (r60 a1).1 (r60 a1).2 hf
  refine law_ok (tabR_ok (res := res1 n) ?_) ?_ h w
  · intro b' m v hh
    unfold res1 at hh
    split at hh
    · split at hh
      · rename_i hm
        injection hh with hh; subst hh; subst hm
        exact ⟨a0, n, rfl, fun ι => num_ii3 ι n, fun y ih t k => by rw [← hn]; exact within_num y ih t k a0 100 (by omega) (by omega)⟩
      · cases hh
    · split at hh
      · rename_i hm
        injection hh with hh; subst hh; subst hm
        exact ⟨a1, a1 % 60, rfl, fun ι => tv_ok rfl, fun y ih t k => within_num y ih t k a1 60 (by omega) (by omega)⟩
      · cases hh
    · cases hh
  · exact args_ok
theorem one2 {d c q : Nat} {a0 a1 : Int} {b : Bool} (hc : c < 10) (hd : a1 % 60 + 1 = (d : Int)) (hq : (q : Int) ≤ a0 % 100) (hq2 : q < 99) (hlt : (d : Int) < a0 % 100 + c) (h : isT (run (@tabR (TB d c q) (res2 d)) 1000 noY 4 (args b) .leaf 0) = true) (w : World) : Calls Tryz.prog 4 #[.int .i64 a0, .int .i64 a1, .bool b] w fun e w' => e = .returned (.bool true) ∧ Frm (rn0 (ins a0 a1)) w w' := by
  letI : Ev.Told := TB d c q
  letI : TokV := tkv (vb (a0 % 100) c)
  haveI : ToldOK := told2 (r100 a0).1 (r100 a0).2 hc hq hq2 hlt
  have ek : ∀ k : Nat, k < 100 → tv (tok k) = some (.int .i64 (a0 % 100 - k)) := fun k hk => by
    show (vb (a0 % 100) c k).map _ = _
    simp [vb, show ¬ k = 100 by omega, show ¬ k = 101 by omega]
  have e0 : tv (tok 0) = some (.int .i64 (a0 % 100)) := by rw [ek 0 (by omega)]; simp
  refine law_ok (tabR_ok (res := res2 d) ?_) ?_ h w
  · intro b' m v hh
    unfold res2 at hh
    split at hh
    · split at hh
      · rename_i hm
        injection hh with hh; subst hh; subst hm
        exact ⟨a0, a0 % 100, rfl, fun ι => tv_ok e0, fun y ih t k => within_num y ih t k a0 100 (by omega) (by omega)⟩
      · cases hh
    · split at hh
      · rename_i hm
        injection hh with hh; subst hh; subst hm
        exact ⟨a1, (Nat.pred d : Nat), rfl, fun ι => num_ii3 ι _, fun y ih t k => by
          rw [show ((Nat.pred d : Nat) : Int) = a1 % 60 by have := (r60 a1).1; show ((d - 1 : Nat) : Int) = _; omega]
          exact within_num y ih t k a1 60 (by omega) (by omega)⟩
      · cases hh
    · cases hh
  · exact args_ok
theorem walk (a0 a1 : Int) (a2 : Bool) (w : World) : Calls Tryz.prog 4 #[.int .i64 a0, .int .i64 a1, .bool a2] w fun e w' => e = .returned (.bool true) ∧ Frm (rn0 (ins a0 a1)) w w' := by
  have h0 := r100 a0
  have h1 := r60 a1
  cases a2
  · by_cases hf : a0 % 100 + 1 ≤ a1 % 60 + 1
    · rcases (by omega : a0 % 100 = 0 ∨ a0 % 100 = 1 ∨ a0 % 100 = 2 ∨ a0 % 100 = 3 ∨ a0 % 100 = 4 ∨ a0 % 100 = 5 ∨ a0 % 100 = 6 ∨ a0 % 100 = 7 ∨ a0 % 100 = 8 ∨ a0 % 100 = 9 ∨ a0 % 100 = 10 ∨ a0 % 100 = 11 ∨ a0 % 100 = 12 ∨ a0 % 100 = 13 ∨ a0 % 100 = 14 ∨ a0 % 100 = 15 ∨ a0 % 100 = 16 ∨ a0 % 100 = 17 ∨ a0 % 100 = 18 ∨ a0 % 100 = 19 ∨ a0 % 100 = 20 ∨ a0 % 100 = 21 ∨ a0 % 100 = 22 ∨ a0 % 100 = 23 ∨ a0 % 100 = 24 ∨ a0 % 100 = 25 ∨ a0 % 100 = 26 ∨ a0 % 100 = 27 ∨ a0 % 100 = 28 ∨ a0 % 100 = 29 ∨ a0 % 100 = 30 ∨ a0 % 100 = 31 ∨ a0 % 100 = 32 ∨ a0 % 100 = 33 ∨ a0 % 100 = 34 ∨ a0 % 100 = 35 ∨ a0 % 100 = 36 ∨ a0 % 100 = 37 ∨ a0 % 100 = 38 ∨ a0 % 100 = 39 ∨ a0 % 100 = 40 ∨ a0 % 100 = 41 ∨ a0 % 100 = 42 ∨ a0 % 100 = 43 ∨ a0 % 100 = 44 ∨ a0 % 100 = 45 ∨ a0 % 100 = 46 ∨ a0 % 100 = 47 ∨ a0 % 100 = 48 ∨ a0 % 100 = 49 ∨ a0 % 100 = 50 ∨ a0 % 100 = 51 ∨ a0 % 100 = 52 ∨ a0 % 100 = 53 ∨ a0 % 100 = 54 ∨ a0 % 100 = 55 ∨ a0 % 100 = 56 ∨ a0 % 100 = 57 ∨ a0 % 100 = 58 ∨ a0 % 100 = 59) with h | h | h | h | h | h | h | h | h | h | h | h | h | h | h | h | h | h | h | h | h | h | h | h | h | h | h | h | h | h | h | h | h | h | h | h | h | h | h | h | h | h | h | h | h | h | h | h | h | h | h | h | h | h | h | h | h | h | h | h
      · exact one1 (n := 0) (fr := 1) h (by omega) ans1f_0 w
      · exact one1 (n := 1) (fr := 2) h (by omega) ans1f_1 w
      · exact one1 (n := 2) (fr := 3) h (by omega) ans1f_2 w
      · exact one1 (n := 3) (fr := 4) h (by omega) ans1f_3 w
      · exact one1 (n := 4) (fr := 5) h (by omega) ans1f_4 w
      · exact one1 (n := 5) (fr := 6) h (by omega) ans1f_5 w
      · exact one1 (n := 6) (fr := 7) h (by omega) ans1f_6 w
      · exact one1 (n := 7) (fr := 8) h (by omega) ans1f_7 w
      · exact one1 (n := 8) (fr := 9) h (by omega) ans1f_8 w
      · exact one1 (n := 9) (fr := 10) h (by omega) ans1f_9 w
      · exact one1 (n := 10) (fr := 11) h (by omega) ans1f_10 w
      · exact one1 (n := 11) (fr := 12) h (by omega) ans1f_11 w
      · exact one1 (n := 12) (fr := 13) h (by omega) ans1f_12 w
      · exact one1 (n := 13) (fr := 14) h (by omega) ans1f_13 w
      · exact one1 (n := 14) (fr := 15) h (by omega) ans1f_14 w
      · exact one1 (n := 15) (fr := 16) h (by omega) ans1f_15 w
      · exact one1 (n := 16) (fr := 17) h (by omega) ans1f_16 w
      · exact one1 (n := 17) (fr := 18) h (by omega) ans1f_17 w
      · exact one1 (n := 18) (fr := 19) h (by omega) ans1f_18 w
      · exact one1 (n := 19) (fr := 20) h (by omega) ans1f_19 w
      · exact one1 (n := 20) (fr := 21) h (by omega) ans1f_20 w
      · exact one1 (n := 21) (fr := 22) h (by omega) ans1f_21 w
      · exact one1 (n := 22) (fr := 23) h (by omega) ans1f_22 w
      · exact one1 (n := 23) (fr := 24) h (by omega) ans1f_23 w
      · exact one1 (n := 24) (fr := 25) h (by omega) ans1f_24 w
      · exact one1 (n := 25) (fr := 26) h (by omega) ans1f_25 w
      · exact one1 (n := 26) (fr := 27) h (by omega) ans1f_26 w
      · exact one1 (n := 27) (fr := 28) h (by omega) ans1f_27 w
      · exact one1 (n := 28) (fr := 29) h (by omega) ans1f_28 w
      · exact one1 (n := 29) (fr := 30) h (by omega) ans1f_29 w
      · exact one1 (n := 30) (fr := 31) h (by omega) ans1f_30 w
      · exact one1 (n := 31) (fr := 32) h (by omega) ans1f_31 w
      · exact one1 (n := 32) (fr := 33) h (by omega) ans1f_32 w
      · exact one1 (n := 33) (fr := 34) h (by omega) ans1f_33 w
      · exact one1 (n := 34) (fr := 35) h (by omega) ans1f_34 w
      · exact one1 (n := 35) (fr := 36) h (by omega) ans1f_35 w
      · exact one1 (n := 36) (fr := 37) h (by omega) ans1f_36 w
      · exact one1 (n := 37) (fr := 38) h (by omega) ans1f_37 w
      · exact one1 (n := 38) (fr := 39) h (by omega) ans1f_38 w
      · exact one1 (n := 39) (fr := 40) h (by omega) ans1f_39 w
      · exact one1 (n := 40) (fr := 41) h (by omega) ans1f_40 w
      · exact one1 (n := 41) (fr := 42) h (by omega) ans1f_41 w
      · exact one1 (n := 42) (fr := 43) h (by omega) ans1f_42 w
      · exact one1 (n := 43) (fr := 44) h (by omega) ans1f_43 w
      · exact one1 (n := 44) (fr := 45) h (by omega) ans1f_44 w
      · exact one1 (n := 45) (fr := 46) h (by omega) ans1f_45 w
      · exact one1 (n := 46) (fr := 47) h (by omega) ans1f_46 w
      · exact one1 (n := 47) (fr := 48) h (by omega) ans1f_47 w
      · exact one1 (n := 48) (fr := 49) h (by omega) ans1f_48 w
      · exact one1 (n := 49) (fr := 50) h (by omega) ans1f_49 w
      · exact one1 (n := 50) (fr := 51) h (by omega) ans1f_50 w
      · exact one1 (n := 51) (fr := 52) h (by omega) ans1f_51 w
      · exact one1 (n := 52) (fr := 53) h (by omega) ans1f_52 w
      · exact one1 (n := 53) (fr := 54) h (by omega) ans1f_53 w
      · exact one1 (n := 54) (fr := 55) h (by omega) ans1f_54 w
      · exact one1 (n := 55) (fr := 56) h (by omega) ans1f_55 w
      · exact one1 (n := 56) (fr := 57) h (by omega) ans1f_56 w
      · exact one1 (n := 57) (fr := 58) h (by omega) ans1f_57 w
      · exact one1 (n := 58) (fr := 59) h (by omega) ans1f_58 w
      · exact one1 (n := 59) (fr := 60) h (by omega) ans1f_59 w
    · rcases (by omega : a1 % 60 = 0 ∨ a1 % 60 = 1 ∨ a1 % 60 = 2 ∨ a1 % 60 = 3 ∨ a1 % 60 = 4 ∨ a1 % 60 = 5 ∨ a1 % 60 = 6 ∨ a1 % 60 = 7 ∨ a1 % 60 = 8 ∨ a1 % 60 = 9 ∨ a1 % 60 = 10 ∨ a1 % 60 = 11 ∨ a1 % 60 = 12 ∨ a1 % 60 = 13 ∨ a1 % 60 = 14 ∨ a1 % 60 = 15 ∨ a1 % 60 = 16 ∨ a1 % 60 = 17 ∨ a1 % 60 = 18 ∨ a1 % 60 = 19 ∨ a1 % 60 = 20 ∨ a1 % 60 = 21 ∨ a1 % 60 = 22 ∨ a1 % 60 = 23 ∨ a1 % 60 = 24 ∨ a1 % 60 = 25 ∨ a1 % 60 = 26 ∨ a1 % 60 = 27 ∨ a1 % 60 = 28 ∨ a1 % 60 = 29 ∨ a1 % 60 = 30 ∨ a1 % 60 = 31 ∨ a1 % 60 = 32 ∨ a1 % 60 = 33 ∨ a1 % 60 = 34 ∨ a1 % 60 = 35 ∨ a1 % 60 = 36 ∨ a1 % 60 = 37 ∨ a1 % 60 = 38 ∨ a1 % 60 = 39 ∨ a1 % 60 = 40 ∨ a1 % 60 = 41 ∨ a1 % 60 = 42 ∨ a1 % 60 = 43 ∨ a1 % 60 = 44 ∨ a1 % 60 = 45 ∨ a1 % 60 = 46 ∨ a1 % 60 = 47 ∨ a1 % 60 = 48 ∨ a1 % 60 = 49 ∨ a1 % 60 = 50 ∨ a1 % 60 = 51 ∨ a1 % 60 = 52 ∨ a1 % 60 = 53 ∨ a1 % 60 = 54 ∨ a1 % 60 = 55 ∨ a1 % 60 = 56 ∨ a1 % 60 = 57 ∨ a1 % 60 = 58 ∨ a1 % 60 = 59) with h | h | h | h | h | h | h | h | h | h | h | h | h | h | h | h | h | h | h | h | h | h | h | h | h | h | h | h | h | h | h | h | h | h | h | h | h | h | h | h | h | h | h | h | h | h | h | h | h | h | h | h | h | h | h | h | h | h | h | h
      · exact one2 (d := 1) (c := 1) (q := 1) (by omega) (by omega) (by omega) (by omega) (by omega) ans2f_1 w
      · exact one2 (d := 2) (c := 1) (q := 2) (by omega) (by omega) (by omega) (by omega) (by omega) ans2f_2 w
      · exact one2 (d := 3) (c := 1) (q := 3) (by omega) (by omega) (by omega) (by omega) (by omega) ans2f_3 w
      · exact one2 (d := 4) (c := 1) (q := 4) (by omega) (by omega) (by omega) (by omega) (by omega) ans2f_4 w
      · exact one2 (d := 5) (c := 1) (q := 5) (by omega) (by omega) (by omega) (by omega) (by omega) ans2f_5 w
      · exact one2 (d := 6) (c := 1) (q := 6) (by omega) (by omega) (by omega) (by omega) (by omega) ans2f_6 w
      · exact one2 (d := 7) (c := 1) (q := 7) (by omega) (by omega) (by omega) (by omega) (by omega) ans2f_7 w
      · exact one2 (d := 8) (c := 1) (q := 8) (by omega) (by omega) (by omega) (by omega) (by omega) ans2f_8 w
      · exact one2 (d := 9) (c := 1) (q := 9) (by omega) (by omega) (by omega) (by omega) (by omega) ans2f_9 w
      · exact one2 (d := 10) (c := 1) (q := 10) (by omega) (by omega) (by omega) (by omega) (by omega) ans2f_10 w
      · exact one2 (d := 11) (c := 1) (q := 11) (by omega) (by omega) (by omega) (by omega) (by omega) ans2f_11 w
      · exact one2 (d := 12) (c := 1) (q := 12) (by omega) (by omega) (by omega) (by omega) (by omega) ans2f_12 w
      · exact one2 (d := 13) (c := 1) (q := 13) (by omega) (by omega) (by omega) (by omega) (by omega) ans2f_13 w
      · exact one2 (d := 14) (c := 1) (q := 14) (by omega) (by omega) (by omega) (by omega) (by omega) ans2f_14 w
      · exact one2 (d := 15) (c := 1) (q := 15) (by omega) (by omega) (by omega) (by omega) (by omega) ans2f_15 w
      · exact one2 (d := 16) (c := 1) (q := 16) (by omega) (by omega) (by omega) (by omega) (by omega) ans2f_16 w
      · exact one2 (d := 17) (c := 1) (q := 17) (by omega) (by omega) (by omega) (by omega) (by omega) ans2f_17 w
      · exact one2 (d := 18) (c := 1) (q := 18) (by omega) (by omega) (by omega) (by omega) (by omega) ans2f_18 w
      · exact one2 (d := 19) (c := 1) (q := 19) (by omega) (by omega) (by omega) (by omega) (by omega) ans2f_19 w
      · exact one2 (d := 20) (c := 1) (q := 20) (by omega) (by omega) (by omega) (by omega) (by omega) ans2f_20 w
      · exact one2 (d := 21) (c := 1) (q := 21) (by omega) (by omega) (by omega) (by omega) (by omega) ans2f_21 w
      · exact one2 (d := 22) (c := 1) (q := 22) (by omega) (by omega) (by omega) (by omega) (by omega) ans2f_22 w
      · exact one2 (d := 23) (c := 1) (q := 23) (by omega) (by omega) (by omega) (by omega) (by omega) ans2f_23 w
      · exact one2 (d := 24) (c := 1) (q := 24) (by omega) (by omega) (by omega) (by omega) (by omega) ans2f_24 w
      · exact one2 (d := 25) (c := 1) (q := 25) (by omega) (by omega) (by omega) (by omega) (by omega) ans2f_25 w
      · exact one2 (d := 26) (c := 1) (q := 26) (by omega) (by omega) (by omega) (by omega) (by omega) ans2f_26 w
      · exact one2 (d := 27) (c := 1) (q := 27) (by omega) (by omega) (by omega) (by omega) (by omega) ans2f_27 w
      · exact one2 (d := 28) (c := 1) (q := 28) (by omega) (by omega) (by omega) (by omega) (by omega) ans2f_28 w
      · exact one2 (d := 29) (c := 1) (q := 29) (by omega) (by omega) (by omega) (by omega) (by omega) ans2f_29 w
      · exact one2 (d := 30) (c := 1) (q := 30) (by omega) (by omega) (by omega) (by omega) (by omega) ans2f_30 w
      · exact one2 (d := 31) (c := 1) (q := 31) (by omega) (by omega) (by omega) (by omega) (by omega) ans2f_31 w
      · exact one2 (d := 32) (c := 1) (q := 32) (by omega) (by omega) (by omega) (by omega) (by omega) ans2f_32 w
      · exact one2 (d := 33) (c := 1) (q := 33) (by omega) (by omega) (by omega) (by omega) (by omega) ans2f_33 w
      · exact one2 (d := 34) (c := 1) (q := 34) (by omega) (by omega) (by omega) (by omega) (by omega) ans2f_34 w
      · exact one2 (d := 35) (c := 1) (q := 35) (by omega) (by omega) (by omega) (by omega) (by omega) ans2f_35 w
      · exact one2 (d := 36) (c := 1) (q := 36) (by omega) (by omega) (by omega) (by omega) (by omega) ans2f_36 w
      · exact one2 (d := 37) (c := 1) (q := 37) (by omega) (by omega) (by omega) (by omega) (by omega) ans2f_37 w
      · exact one2 (d := 38) (c := 1) (q := 38) (by omega) (by omega) (by omega) (by omega) (by omega) ans2f_38 w
      · exact one2 (d := 39) (c := 1) (q := 39) (by omega) (by omega) (by omega) (by omega) (by omega) ans2f_39 w
      · exact one2 (d := 40) (c := 1) (q := 40) (by omega) (by omega) (by omega) (by omega) (by omega) ans2f_40 w
      · exact one2 (d := 41) (c := 1) (q := 41) (by omega) (by omega) (by omega) (by omega) (by omega) ans2f_41 w
      · exact one2 (d := 42) (c := 1) (q := 42) (by omega) (by omega) (by omega) (by omega) (by omega) ans2f_42 w
      · exact one2 (d := 43) (c := 1) (q := 43) (by omega) (by omega) (by omega) (by omega) (by omega) ans2f_43 w
      · exact one2 (d := 44) (c := 1) (q := 44) (by omega) (by omega) (by omega) (by omega) (by omega) ans2f_44 w
      · exact one2 (d := 45) (c := 1) (q := 45) (by omega) (by omega) (by omega) (by omega) (by omega) ans2f_45 w
      · exact one2 (d := 46) (c := 1) (q := 46) (by omega) (by omega) (by omega) (by omega) (by omega) ans2f_46 w
      · exact one2 (d := 47) (c := 1) (q := 47) (by omega) (by omega) (by omega) (by omega) (by omega) ans2f_47 w
      · exact one2 (d := 48) (c := 1) (q := 48) (by omega) (by omega) (by omega) (by omega) (by omega) ans2f_48 w
      · exact one2 (d := 49) (c := 1) (q := 49) (by omega) (by omega) (by omega) (by omega) (by omega) ans2f_49 w
      · exact one2 (d := 50) (c := 1) (q := 50) (by omega) (by omega) (by omega) (by omega) (by omega) ans2f_50 w
      · exact one2 (d := 51) (c := 1) (q := 51) (by omega) (by omega) (by omega) (by omega) (by omega) ans2f_51 w
      · exact one2 (d := 52) (c := 1) (q := 52) (by omega) (by omega) (by omega) (by omega) (by omega) ans2f_52 w
      · exact one2 (d := 53) (c := 1) (q := 53) (by omega) (by omega) (by omega) (by omega) (by omega) ans2f_53 w
      · exact one2 (d := 54) (c := 1) (q := 54) (by omega) (by omega) (by omega) (by omega) (by omega) ans2f_54 w
      · exact one2 (d := 55) (c := 1) (q := 55) (by omega) (by omega) (by omega) (by omega) (by omega) ans2f_55 w
      · exact one2 (d := 56) (c := 1) (q := 56) (by omega) (by omega) (by omega) (by omega) (by omega) ans2f_56 w
      · exact one2 (d := 57) (c := 1) (q := 57) (by omega) (by omega) (by omega) (by omega) (by omega) ans2f_57 w
      · exact one2 (d := 58) (c := 1) (q := 58) (by omega) (by omega) (by omega) (by omega) (by omega) ans2f_58 w
      · exact one2 (d := 59) (c := 1) (q := 59) (by omega) (by omega) (by omega) (by omega) (by omega) ans2f_59 w
      · exact one2 (d := 60) (c := 1) (q := 60) (by omega) (by omega) (by omega) (by omega) (by omega) ans2f_60 w
  · by_cases hf : a0 % 100 + 2 ≤ a1 % 60 + 1
    · rcases (by omega : a0 % 100 = 0 ∨ a0 % 100 = 1 ∨ a0 % 100 = 2 ∨ a0 % 100 = 3 ∨ a0 % 100 = 4 ∨ a0 % 100 = 5 ∨ a0 % 100 = 6 ∨ a0 % 100 = 7 ∨ a0 % 100 = 8 ∨ a0 % 100 = 9 ∨ a0 % 100 = 10 ∨ a0 % 100 = 11 ∨ a0 % 100 = 12 ∨ a0 % 100 = 13 ∨ a0 % 100 = 14 ∨ a0 % 100 = 15 ∨ a0 % 100 = 16 ∨ a0 % 100 = 17 ∨ a0 % 100 = 18 ∨ a0 % 100 = 19 ∨ a0 % 100 = 20 ∨ a0 % 100 = 21 ∨ a0 % 100 = 22 ∨ a0 % 100 = 23 ∨ a0 % 100 = 24 ∨ a0 % 100 = 25 ∨ a0 % 100 = 26 ∨ a0 % 100 = 27 ∨ a0 % 100 = 28 ∨ a0 % 100 = 29 ∨ a0 % 100 = 30 ∨ a0 % 100 = 31 ∨ a0 % 100 = 32 ∨ a0 % 100 = 33 ∨ a0 % 100 = 34 ∨ a0 % 100 = 35 ∨ a0 % 100 = 36 ∨ a0 % 100 = 37 ∨ a0 % 100 = 38 ∨ a0 % 100 = 39 ∨ a0 % 100 = 40 ∨ a0 % 100 = 41 ∨ a0 % 100 = 42 ∨ a0 % 100 = 43 ∨ a0 % 100 = 44 ∨ a0 % 100 = 45 ∨ a0 % 100 = 46 ∨ a0 % 100 = 47 ∨ a0 % 100 = 48 ∨ a0 % 100 = 49 ∨ a0 % 100 = 50 ∨ a0 % 100 = 51 ∨ a0 % 100 = 52 ∨ a0 % 100 = 53 ∨ a0 % 100 = 54 ∨ a0 % 100 = 55 ∨ a0 % 100 = 56 ∨ a0 % 100 = 57 ∨ a0 % 100 = 58) with h | h | h | h | h | h | h | h | h | h | h | h | h | h | h | h | h | h | h | h | h | h | h | h | h | h | h | h | h | h | h | h | h | h | h | h | h | h | h | h | h | h | h | h | h | h | h | h | h | h | h | h | h | h | h | h | h | h | h
      · exact one1 (n := 0) (fr := 2) h (by omega) ans1t_0 w
      · exact one1 (n := 1) (fr := 3) h (by omega) ans1t_1 w
      · exact one1 (n := 2) (fr := 4) h (by omega) ans1t_2 w
      · exact one1 (n := 3) (fr := 5) h (by omega) ans1t_3 w
      · exact one1 (n := 4) (fr := 6) h (by omega) ans1t_4 w
      · exact one1 (n := 5) (fr := 7) h (by omega) ans1t_5 w
      · exact one1 (n := 6) (fr := 8) h (by omega) ans1t_6 w
      · exact one1 (n := 7) (fr := 9) h (by omega) ans1t_7 w
      · exact one1 (n := 8) (fr := 10) h (by omega) ans1t_8 w
      · exact one1 (n := 9) (fr := 11) h (by omega) ans1t_9 w
      · exact one1 (n := 10) (fr := 12) h (by omega) ans1t_10 w
      · exact one1 (n := 11) (fr := 13) h (by omega) ans1t_11 w
      · exact one1 (n := 12) (fr := 14) h (by omega) ans1t_12 w
      · exact one1 (n := 13) (fr := 15) h (by omega) ans1t_13 w
      · exact one1 (n := 14) (fr := 16) h (by omega) ans1t_14 w
      · exact one1 (n := 15) (fr := 17) h (by omega) ans1t_15 w
      · exact one1 (n := 16) (fr := 18) h (by omega) ans1t_16 w
      · exact one1 (n := 17) (fr := 19) h (by omega) ans1t_17 w
      · exact one1 (n := 18) (fr := 20) h (by omega) ans1t_18 w
      · exact one1 (n := 19) (fr := 21) h (by omega) ans1t_19 w
      · exact one1 (n := 20) (fr := 22) h (by omega) ans1t_20 w
      · exact one1 (n := 21) (fr := 23) h (by omega) ans1t_21 w
      · exact one1 (n := 22) (fr := 24) h (by omega) ans1t_22 w
      · exact one1 (n := 23) (fr := 25) h (by omega) ans1t_23 w
      · exact one1 (n := 24) (fr := 26) h (by omega) ans1t_24 w
      · exact one1 (n := 25) (fr := 27) h (by omega) ans1t_25 w
      · exact one1 (n := 26) (fr := 28) h (by omega) ans1t_26 w
      · exact one1 (n := 27) (fr := 29) h (by omega) ans1t_27 w
      · exact one1 (n := 28) (fr := 30) h (by omega) ans1t_28 w
      · exact one1 (n := 29) (fr := 31) h (by omega) ans1t_29 w
      · exact one1 (n := 30) (fr := 32) h (by omega) ans1t_30 w
      · exact one1 (n := 31) (fr := 33) h (by omega) ans1t_31 w
      · exact one1 (n := 32) (fr := 34) h (by omega) ans1t_32 w
      · exact one1 (n := 33) (fr := 35) h (by omega) ans1t_33 w
      · exact one1 (n := 34) (fr := 36) h (by omega) ans1t_34 w
      · exact one1 (n := 35) (fr := 37) h (by omega) ans1t_35 w
      · exact one1 (n := 36) (fr := 38) h (by omega) ans1t_36 w
      · exact one1 (n := 37) (fr := 39) h (by omega) ans1t_37 w
      · exact one1 (n := 38) (fr := 40) h (by omega) ans1t_38 w
      · exact one1 (n := 39) (fr := 41) h (by omega) ans1t_39 w
      · exact one1 (n := 40) (fr := 42) h (by omega) ans1t_40 w
      · exact one1 (n := 41) (fr := 43) h (by omega) ans1t_41 w
      · exact one1 (n := 42) (fr := 44) h (by omega) ans1t_42 w
      · exact one1 (n := 43) (fr := 45) h (by omega) ans1t_43 w
      · exact one1 (n := 44) (fr := 46) h (by omega) ans1t_44 w
      · exact one1 (n := 45) (fr := 47) h (by omega) ans1t_45 w
      · exact one1 (n := 46) (fr := 48) h (by omega) ans1t_46 w
      · exact one1 (n := 47) (fr := 49) h (by omega) ans1t_47 w
      · exact one1 (n := 48) (fr := 50) h (by omega) ans1t_48 w
      · exact one1 (n := 49) (fr := 51) h (by omega) ans1t_49 w
      · exact one1 (n := 50) (fr := 52) h (by omega) ans1t_50 w
      · exact one1 (n := 51) (fr := 53) h (by omega) ans1t_51 w
      · exact one1 (n := 52) (fr := 54) h (by omega) ans1t_52 w
      · exact one1 (n := 53) (fr := 55) h (by omega) ans1t_53 w
      · exact one1 (n := 54) (fr := 56) h (by omega) ans1t_54 w
      · exact one1 (n := 55) (fr := 57) h (by omega) ans1t_55 w
      · exact one1 (n := 56) (fr := 58) h (by omega) ans1t_56 w
      · exact one1 (n := 57) (fr := 59) h (by omega) ans1t_57 w
      · exact one1 (n := 58) (fr := 60) h (by omega) ans1t_58 w
    · rcases (by omega : a1 % 60 = 0 ∨ a1 % 60 = 1 ∨ a1 % 60 = 2 ∨ a1 % 60 = 3 ∨ a1 % 60 = 4 ∨ a1 % 60 = 5 ∨ a1 % 60 = 6 ∨ a1 % 60 = 7 ∨ a1 % 60 = 8 ∨ a1 % 60 = 9 ∨ a1 % 60 = 10 ∨ a1 % 60 = 11 ∨ a1 % 60 = 12 ∨ a1 % 60 = 13 ∨ a1 % 60 = 14 ∨ a1 % 60 = 15 ∨ a1 % 60 = 16 ∨ a1 % 60 = 17 ∨ a1 % 60 = 18 ∨ a1 % 60 = 19 ∨ a1 % 60 = 20 ∨ a1 % 60 = 21 ∨ a1 % 60 = 22 ∨ a1 % 60 = 23 ∨ a1 % 60 = 24 ∨ a1 % 60 = 25 ∨ a1 % 60 = 26 ∨ a1 % 60 = 27 ∨ a1 % 60 = 28 ∨ a1 % 60 = 29 ∨ a1 % 60 = 30 ∨ a1 % 60 = 31 ∨ a1 % 60 = 32 ∨ a1 % 60 = 33 ∨ a1 % 60 = 34 ∨ a1 % 60 = 35 ∨ a1 % 60 = 36 ∨ a1 % 60 = 37 ∨ a1 % 60 = 38 ∨ a1 % 60 = 39 ∨ a1 % 60 = 40 ∨ a1 % 60 = 41 ∨ a1 % 60 = 42 ∨ a1 % 60 = 43 ∨ a1 % 60 = 44 ∨ a1 % 60 = 45 ∨ a1 % 60 = 46 ∨ a1 % 60 = 47 ∨ a1 % 60 = 48 ∨ a1 % 60 = 49 ∨ a1 % 60 = 50 ∨ a1 % 60 = 51 ∨ a1 % 60 = 52 ∨ a1 % 60 = 53 ∨ a1 % 60 = 54 ∨ a1 % 60 = 55 ∨ a1 % 60 = 56 ∨ a1 % 60 = 57 ∨ a1 % 60 = 58 ∨ a1 % 60 = 59) with h | h | h | h | h | h | h | h | h | h | h | h | h | h | h | h | h | h | h | h | h | h | h | h | h | h | h | h | h | h | h | h | h | h | h | h | h | h | h | h | h | h | h | h | h | h | h | h | h | h | h | h | h | h | h | h | h | h | h | h
      · exact one2 (d := 1) (c := 2) (q := 0) (by omega) (by omega) (by omega) (by omega) (by omega) ans2t_1 w
      · exact one2 (d := 2) (c := 2) (q := 1) (by omega) (by omega) (by omega) (by omega) (by omega) ans2t_2 w
      · exact one2 (d := 3) (c := 2) (q := 2) (by omega) (by omega) (by omega) (by omega) (by omega) ans2t_3 w
      · exact one2 (d := 4) (c := 2) (q := 3) (by omega) (by omega) (by omega) (by omega) (by omega) ans2t_4 w
      · exact one2 (d := 5) (c := 2) (q := 4) (by omega) (by omega) (by omega) (by omega) (by omega) ans2t_5 w
      · exact one2 (d := 6) (c := 2) (q := 5) (by omega) (by omega) (by omega) (by omega) (by omega) ans2t_6 w
      · exact one2 (d := 7) (c := 2) (q := 6) (by omega) (by omega) (by omega) (by omega) (by omega) ans2t_7 w
      · exact one2 (d := 8) (c := 2) (q := 7) (by omega) (by omega) (by omega) (by omega) (by omega) ans2t_8 w
      · exact one2 (d := 9) (c := 2) (q := 8) (by omega) (by omega) (by omega) (by omega) (by omega) ans2t_9 w
      · exact one2 (d := 10) (c := 2) (q := 9) (by omega) (by omega) (by omega) (by omega) (by omega) ans2t_10 w
      · exact one2 (d := 11) (c := 2) (q := 10) (by omega) (by omega) (by omega) (by omega) (by omega) ans2t_11 w
      · exact one2 (d := 12) (c := 2) (q := 11) (by omega) (by omega) (by omega) (by omega) (by omega) ans2t_12 w
      · exact one2 (d := 13) (c := 2) (q := 12) (by omega) (by omega) (by omega) (by omega) (by omega) ans2t_13 w
      · exact one2 (d := 14) (c := 2) (q := 13) (by omega) (by omega) (by omega) (by omega) (by omega) ans2t_14 w
      · exact one2 (d := 15) (c := 2) (q := 14) (by omega) (by omega) (by omega) (by omega) (by omega) ans2t_15 w
      · exact one2 (d := 16) (c := 2) (q := 15) (by omega) (by omega) (by omega) (by omega) (by omega) ans2t_16 w
      · exact one2 (d := 17) (c := 2) (q := 16) (by omega) (by omega) (by omega) (by omega) (by omega) ans2t_17 w
      · exact one2 (d := 18) (c := 2) (q := 17) (by omega) (by omega) (by omega) (by omega) (by omega) ans2t_18 w
      · exact one2 (d := 19) (c := 2) (q := 18) (by omega) (by omega) (by omega) (by omega) (by omega) ans2t_19 w
      · exact one2 (d := 20) (c := 2) (q := 19) (by omega) (by omega) (by omega) (by omega) (by omega) ans2t_20 w
      · exact one2 (d := 21) (c := 2) (q := 20) (by omega) (by omega) (by omega) (by omega) (by omega) ans2t_21 w
      · exact one2 (d := 22) (c := 2) (q := 21) (by omega) (by omega) (by omega) (by omega) (by omega) ans2t_22 w
      · exact one2 (d := 23) (c := 2) (q := 22) (by omega) (by omega) (by omega) (by omega) (by omega) ans2t_23 w
      · exact one2 (d := 24) (c := 2) (q := 23) (by omega) (by omega) (by omega) (by omega) (by omega) ans2t_24 w
      · exact one2 (d := 25) (c := 2) (q := 24) (by omega) (by omega) (by omega) (by omega) (by omega) ans2t_25 w
      · exact one2 (d := 26) (c := 2) (q := 25) (by omega) (by omega) (by omega) (by omega) (by omega) ans2t_26 w
      · exact one2 (d := 27) (c := 2) (q := 26) (by omega) (by omega) (by omega) (by omega) (by omega) ans2t_27 w
      · exact one2 (d := 28) (c := 2) (q := 27) (by omega) (by omega) (by omega) (by omega) (by omega) ans2t_28 w
      · exact one2 (d := 29) (c := 2) (q := 28) (by omega) (by omega) (by omega) (by omega) (by omega) ans2t_29 w
      · exact one2 (d := 30) (c := 2) (q := 29) (by omega) (by omega) (by omega) (by omega) (by omega) ans2t_30 w
      · exact one2 (d := 31) (c := 2) (q := 30) (by omega) (by omega) (by omega) (by omega) (by omega) ans2t_31 w
      · exact one2 (d := 32) (c := 2) (q := 31) (by omega) (by omega) (by omega) (by omega) (by omega) ans2t_32 w
      · exact one2 (d := 33) (c := 2) (q := 32) (by omega) (by omega) (by omega) (by omega) (by omega) ans2t_33 w
      · exact one2 (d := 34) (c := 2) (q := 33) (by omega) (by omega) (by omega) (by omega) (by omega) ans2t_34 w
      · exact one2 (d := 35) (c := 2) (q := 34) (by omega) (by omega) (by omega) (by omega) (by omega) ans2t_35 w
      · exact one2 (d := 36) (c := 2) (q := 35) (by omega) (by omega) (by omega) (by omega) (by omega) ans2t_36 w
      · exact one2 (d := 37) (c := 2) (q := 36) (by omega) (by omega) (by omega) (by omega) (by omega) ans2t_37 w
      · exact one2 (d := 38) (c := 2) (q := 37) (by omega) (by omega) (by omega) (by omega) (by omega) ans2t_38 w
      · exact one2 (d := 39) (c := 2) (q := 38) (by omega) (by omega) (by omega) (by omega) (by omega) ans2t_39 w
      · exact one2 (d := 40) (c := 2) (q := 39) (by omega) (by omega) (by omega) (by omega) (by omega) ans2t_40 w
      · exact one2 (d := 41) (c := 2) (q := 40) (by omega) (by omega) (by omega) (by omega) (by omega) ans2t_41 w
      · exact one2 (d := 42) (c := 2) (q := 41) (by omega) (by omega) (by omega) (by omega) (by omega) ans2t_42 w
      · exact one2 (d := 43) (c := 2) (q := 42) (by omega) (by omega) (by omega) (by omega) (by omega) ans2t_43 w
      · exact one2 (d := 44) (c := 2) (q := 43) (by omega) (by omega) (by omega) (by omega) (by omega) ans2t_44 w
      · exact one2 (d := 45) (c := 2) (q := 44) (by omega) (by omega) (by omega) (by omega) (by omega) ans2t_45 w
      · exact one2 (d := 46) (c := 2) (q := 45) (by omega) (by omega) (by omega) (by omega) (by omega) ans2t_46 w
      · exact one2 (d := 47) (c := 2) (q := 46) (by omega) (by omega) (by omega) (by omega) (by omega) ans2t_47 w
      · exact one2 (d := 48) (c := 2) (q := 47) (by omega) (by omega) (by omega) (by omega) (by omega) ans2t_48 w
      · exact one2 (d := 49) (c := 2) (q := 48) (by omega) (by omega) (by omega) (by omega) (by omega) ans2t_49 w
      · exact one2 (d := 50) (c := 2) (q := 49) (by omega) (by omega) (by omega) (by omega) (by omega) ans2t_50 w
      · exact one2 (d := 51) (c := 2) (q := 50) (by omega) (by omega) (by omega) (by omega) (by omega) ans2t_51 w
      · exact one2 (d := 52) (c := 2) (q := 51) (by omega) (by omega) (by omega) (by omega) (by omega) ans2t_52 w
      · exact one2 (d := 53) (c := 2) (q := 52) (by omega) (by omega) (by omega) (by omega) (by omega) ans2t_53 w
      · exact one2 (d := 54) (c := 2) (q := 53) (by omega) (by omega) (by omega) (by omega) (by omega) ans2t_54 w
      · exact one2 (d := 55) (c := 2) (q := 54) (by omega) (by omega) (by omega) (by omega) (by omega) ans2t_55 w
      · exact one2 (d := 56) (c := 2) (q := 55) (by omega) (by omega) (by omega) (by omega) (by omega) ans2t_56 w
      · exact one2 (d := 57) (c := 2) (q := 56) (by omega) (by omega) (by omega) (by omega) (by omega) ans2t_57 w
      · exact one2 (d := 58) (c := 2) (q := 57) (by omega) (by omega) (by omega) (by omega) (by omega) ans2t_58 w
      · exact one2 (d := 59) (c := 2) (q := 58) (by omega) (by omega) (by omega) (by omega) (by omega) ans2t_59 w
      · exact one2 (d := 60) (c := 2) (q := 59) (by omega) (by omega) (by omega) (by omega) (by omega) ans2t_60 w
theorem lifted (os : Os) (started : os.Started) (H : Type) (enc : TypeId × Value → H) :
    ReturnsInHanded {} Tryz.checked os 4 .any (fun w args => (Rows.slowDeepSpec.pre enc Tryz.prog Tryz.f4 Rows.slowDeepRow.domain false w args ∧ laidMetH Tryz.prog laid3 w) ∧ sizedMet enc Tryz.prog Tryz.f4 (OpenSpec.ofChange Rows.slowDeepSpec) false w args)
      (Rows.slowDeepSpec.post enc Tryz.prog Tryz.f4 false true false false) := by
  refine returnsInHanded_of_change_and (C := Tryz.checked) (X := fun w _ => laidMetH Tryz.prog laid3 w) (fun _ _ _ hh h => h.of_heap hh) own started (by kernel_rfl) Tryz.func4
    (ChangeSpec.witness_shaped (enc := enc) (C := Tryz.checked) (os := os) (X := fun w _ => laidMetH Tryz.prog laid3 w) false (start os) #[.int .i64 0, .int .i64 0, .bool false] 8 (start_os os) (start_shaped os _) (by kernel_rfl) (by kernel_rfl) (by kernel_rfl) (start_met os _)) ?_
  intro W base args ds gs before hval0 hW _ _ hL _
  have hval : ∀ (j : Nat) t v, Tryz.f4.params[j]? = some t → args[j]? = some v → Value.okWide Tryz.prog W .any base t v := hval0
  have hW' := hW
  obtain ⟨p, q, hA0, hV, rfl, hfz, hnd⟩ := hW
  have hA : DataW.TrodAll enc Tryz.prog W 0 (fun _ => true) true Tryz.f4.params.toList args.toList ds p := hA0
  rw [Tryz.params4] at hA hval
  obtain ⟨v0, vs0, d0, ds0, p0, q0, hargs, rfl, rfl, h0, r0⟩ := trodAll_cons hA
  obtain ⟨v1, vs1, d1, ds1, p1, q1, rfl, rfl, rfl, h1, r1⟩ := trodAll_cons r0
  obtain ⟨v2, vs2, d2, ds2, p2, q2, rfl, rfl, rfl, h2, r2⟩ := trodAll_cons r1
  obtain ⟨rfl, rfl, rfl⟩ := trodAll_nil r2
  obtain rfl : args = #[v0, v1, v2] := by cases args; simp_all
  obtain ⟨rfl, rfl⟩ := trodVars_none hV
  obtain ⟨a0, rfl, rfl, rfl, w0⟩ := open_int Tryz.underlying3 (hval 0 3 v0 rfl rfl) h0
  obtain ⟨a1, rfl, rfl, rfl, w1⟩ := open_int Tryz.underlying3 (hval 1 3 v1 rfl rfl) h1
  obtain ⟨a2, rfl, rfl, rfl⟩ := open_bool Tryz.underlying4 (hval 2 4 v2 rfl rfl) h2
  clear hA0 hval0
  simp only [List.append_nil] at hW'
  refine (walk a0 a1 a2 W).mono fun e W' ⟨he, hg⟩ => ?_
  subst he
  exact ⟨_, rfl, _, _, _, [], [], [], hW', trodAll_cons_mk (shut_bool Tryz.underlying4 _) trodAll_mk0, (trodAll_cons_mk (shut_int Tryz.underlying3 w0) (trodAll_cons_mk (shut_int Tryz.underlying3 w1) (trodAll_cons_mk (shut_bool Tryz.underlying4 _) trodAll_mk0))), rfl, kept hg _, fun h => by cases h⟩
theorem over : Rows.slowDeepRow.holds Tryz.pinned (OpenSpec.ofChange Rows.slowDeepSpec) :=
  OpenClaim.holds_of_wide 4 Tryz.f4 rfl rfl rfl rfl rfl rfl rfl ⟨rfl, rfl, rfl, rfl, rfl⟩ rfl rfl rfl rfl rfl named Tryz.func4 joined inst wrap
    (fun os started H enc _ => lifted os started H enc)
/-- the statement -/
theorem proved : Rows.SlowDeepCardSaid :=
  Claim7.holds_tied_plain_at .later [] [.data, .handle, .pinned] true (true, "1617b7fd22ef0458b7ada3e3be241431cc6835ccfa302818f5b85a9d09f534d0") true over (fun _ h => by cases h) fact1 (fun _ h => by cases h) slowDeep_row_tie rfl ⟨rfl, rfl⟩ fact2 rfl
    (fun f fn hf hfn => by
      obtain rfl : f = 4 := Option.some.inj (named.symm.trans hf) |>.symm
      obtain rfl : fn = Tryz.f4 := (Option.some.inj (Tryz.func4.symm.trans hfn)).symm
      exact ⟨fact3, fun j t ht => by
        rw [Tryz.params4] at ht
        have hm : t ∈ [3, 4] := by have := Array.mem_of_getElem? ht; simp at this; first | (rcases this with rfl | rfl | rfl | rfl <;> simp) | (rcases this with rfl | rfl | rfl <;> simp) | (rcases this with rfl | rfl <;> simp) | (subst this; simp)
        exact (show Tryz.prog.wantsStandIn t = false by simpa using List.all_eq_true.1 fact5 t hm)⟩)
    fact4
end Go.Proofs.YtkngccfjaelcgaaGreatDoor.slowDeep
