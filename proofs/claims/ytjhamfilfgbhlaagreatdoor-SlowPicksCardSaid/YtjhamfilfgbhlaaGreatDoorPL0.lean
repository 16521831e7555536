import Derived.Test.YtjhamfilfgbhlaaGreatDoorPA0
import Derived.Test.YtjhamfilfgbhlaaGreatDoorPA1
import Derived.Test.YtjhamfilfgbhlaaGreatDoorPA2
import Derived.Test.YtjhamfilfgbhlaaGreatDoorPH0
import Derived.Test.YtjhamfilfgbhlaaGreatDoorPF0
import Derived.Test.YtjhamfilfgbhlaaGreatDoorPF1
import Derived.Test.YtjhamfilfgbhlaaGreatDoorCards
import Derived.Test.YtjhamfilfgbhlaaGreatDoorTie
/- SlowPicks answers true at every argument, and leaves memory as it was. Conditions: the row's own: three library tables read as the text of the program lays them; the card ties these to the text. -/
namespace Go.Proofs.YtjhamfilfgbhlaaGreatDoor.slowPicks
open Go Ev Go.ChangeShapes Go.WideShapes Go.ChangeAt Go.RowKit
set_option maxRecDepth 100000
set_option linter.unusedVariables false
set_option linter.unusedSimpArgs false
theorem ans (j0 : Int) (h0 : 0 ≤ j0 ∧ j0 < 3) (b1 : Bool) : isT (run (@tabR TT (told j0)) 1000 noY 4 (.cons (.ref 12 0 0 0 0 0) (.cons (bo b1) (.cons (tok 0) .nil))) .leaf 0) = true := by
  rcases (by omega : j0 = 0 ∨ j0 = 1 ∨ j0 = 2) with rfl | rfl | rfl
  · cases b1
    · exact ans_0_f
    · exact ans_0_t
  · cases b1
    · exact ans_1_f
    · exact ans_1_t
  · cases b1
    · exact ans_2_f
    · exact ans_2_t
/-- the ints that come in -/
def ins (a0 : Int) : Ev.Tok := fun b => match b with
  | 0 => some (.i64, a0)
  | _ => none
theorem walk (a0 : Int) (a1 : Bool) (a2 : Int) (w : World) : Calls Tryz.prog 4 #[.int .i64 a0, .bool a1, .int .i64 a2] w fun e w' => e = .returned (.bool true) ∧ Frm (rn0 (ins a0)) w w' := by
  letI : Ev.Told := TT
  letI : TokV := tkv (vals a2)
  haveI : ToldOK := told_ok
  refine law_ok (tabR_ok (res := told (a0 % 3)) ?_) ?_ (ans (a0 % 3) ⟨Int.emod_nonneg _ (by omega), Int.emod_lt_of_pos _ (by omega)⟩ a1) w
  · intro b m j h
    unfold told at h
    split at h
    · split at h
      · rename_i hm
        injection h with h; subst h; subst hm
        exact ⟨a0, rfl, fun y ih t n => within_num y ih t n a0 3 (by omega) (by omega)⟩
      · cases h
    · cases h
  · have e1 : TokV.tk 0 = some (IntKind.i64, a2) := rfl
    cases a1 <;> simp [toT, toV, refV, rn0, ins, bo, numV, tok, e1]
theorem lifted (os : Os) (started : os.Started) (H : Type) (enc : TypeId × Value → H) :
    ReturnsInHanded {} Tryz.checked os 4 .any (fun w args => (Rows.slowPicksSpec.pre enc Tryz.prog Tryz.f4 Rows.slowPicksRow.domain false w args ∧ laidMetH Tryz.prog laid3 w) ∧ sizedMet enc Tryz.prog Tryz.f4 (OpenSpec.ofChange Rows.slowPicksSpec) false w args)
      (Rows.slowPicksSpec.post enc Tryz.prog Tryz.f4 false true false false) := by
  refine returnsInHanded_of_change_and (C := Tryz.checked) (X := fun w _ => laidMetH Tryz.prog laid3 w) (fun _ _ _ hh h => h.of_heap hh) own started (by kernel_rfl) Tryz.func4
    (ChangeSpec.witness_shaped (enc := enc) (C := Tryz.checked) (os := os) (X := fun w _ => laidMetH Tryz.prog laid3 w) false (start os) #[.int .i64 0, .bool false, .int .i64 0] 8 (start_os os) (start_shaped os _) (by kernel_rfl) (by kernel_rfl) (by kernel_rfl) (start_met os _)) ?_
  intro W base args ds gs before hval0 hW _ _ hL _
  have hval : ∀ (j : Nat) t v, Tryz.f4.params[j]? = some t → args[j]? = some v → Value.okWide Tryz.prog W .any base t v := hval0
  have hW' := hW
  obtain ⟨p, q, hA0, hV, rfl, hfz, hnd⟩ := hW
  have hA : DataW.TrodAll enc Tryz.prog W 0 (fun _ => true) true Tryz.f4.params.toList args.toList ds p := hA0
  rw [Tryz.params4] at hA hval
  obtain ⟨v0, vs0, d0, ds0, p0, q0, hargs, rfl, rfl, h0, r0⟩ := trodAll_cons hA
  obtain ⟨v1, vs1, d1, ds1, p1, q1, rfl, rfl, rfl, h1, r1⟩ := trodAll_cons r0
  obtain ⟨v2, vs2, d2, ds2, p2, q2, rfl, rfl, rfl, h2, r2⟩ := trodAll_cons r1
  obtain ⟨rfl, rfl, rfl⟩ := trodAll_nil r2
  obtain rfl : args = #[v0, v1, v2] := by cases args; simp_all
  obtain ⟨rfl, rfl⟩ := trodVars_none hV
  obtain ⟨a0, rfl, rfl, rfl, w0⟩ := open_int Tryz.underlying3 (hval 0 3 v0 rfl rfl) h0
  obtain ⟨a1, rfl, rfl, rfl⟩ := open_bool Tryz.underlying4 (hval 1 4 v1 rfl rfl) h1
  obtain ⟨a2, rfl, rfl, rfl, w2⟩ := open_int Tryz.underlying2 (hval 2 2 v2 rfl rfl) h2
  clear hA0 hval0
  simp only [List.append_nil] at hW'
  refine (walk a0 a1 a2 W).mono fun e W' ⟨he, hg⟩ => ?_
  subst he
  exact ⟨_, rfl, _, _, _, [], [], [], hW', trodAll_cons_mk (shut_bool Tryz.underlying4 _) trodAll_mk0, (trodAll_cons_mk (shut_int Tryz.underlying3 w0) (trodAll_cons_mk (shut_bool Tryz.underlying4 _) (trodAll_cons_mk (shut_int Tryz.underlying2 w2) trodAll_mk0))), rfl, kept hg _, fun h => by cases h⟩
theorem over : Rows.slowPicksRow.holds Tryz.pinned (OpenSpec.ofChange Rows.slowPicksSpec) :=
  OpenClaim.holds_of_wide 4 Tryz.f4 rfl rfl rfl rfl rfl rfl rfl ⟨rfl, rfl, rfl, rfl, rfl⟩ rfl rfl rfl rfl rfl named Tryz.func4 joined inst wrap
    (fun os started H enc _ => lifted os started H enc)
/-- the statement -/
theorem proved : Rows.SlowPicksCardSaid :=
  Claim7.holds_tied_plain_at .later [] [.data, .handle, .pinned] true (true, "477f1c777edaee60ec6750736c1ab69a53ddd9ec5ace9815532ccdab4613d50f") true over (fun _ h => by cases h) fact1 (fun _ h => by cases h) slowPicks_row_tie rfl ⟨rfl, rfl⟩ fact2 rfl
    (fun f fn hf hfn => by
      obtain rfl : f = 4 := Option.some.inj (named.symm.trans hf) |>.symm
      obtain rfl : fn = Tryz.f4 := (Option.some.inj (Tryz.func4.symm.trans hfn)).symm
      exact ⟨fact3, fun j t ht => by
        rw [Tryz.params4] at ht
        have hm : t ∈ [2, 3, 4] := by have := Array.mem_of_getElem? ht; simp at this; first | (rcases this with rfl | rfl | rfl | rfl <;> simp) | (rcases this with rfl | rfl | rfl <;> simp) | (rcases this with rfl | rfl <;> simp) | (subst this; simp)
        exact (show Tryz.prog.wantsStandIn t = false by simpa using List.all_eq_true.1 fact5 t hm)⟩)
    fact4
end Go.Proofs.YtjhamfilfgbhlaaGreatDoor.slowPicks
