import Derived.Test.YtjhamfilfgbhlaaGreatDoorMA0
import Derived.Test.YtjhamfilfgbhlaaGreatDoorMH0
import Derived.Test.YtjhamfilfgbhlaaGreatDoorMF0
import Derived.Test.YtjhamfilfgbhlaaGreatDoorMF1
import Derived.Test.YtjhamfilfgbhlaaGreatDoorCards
import Derived.Test.YtjhamfilfgbhlaaGreatDoorTie
/- SlowMakes answers true at every argument, and leaves memory as it was. Conditions: the row's own: three library tables read as the text of the program lays them; the card ties these to the text. -/
namespace Go.Proofs.YtjhamfilfgbhlaaGreatDoor.slowMakes
open Go Ev Go.ChangeShapes Go.WideShapes Go.ChangeAt Go.RowKit
set_option maxRecDepth 100000
set_option linter.unusedVariables false
set_option linter.unusedSimpArgs false
def ins : Ev.Tok := fun _ => none
theorem walk (a0 : Int) (w : World) : Calls Tryz.prog 6 #[.int .i64 a0] w fun e w' => e = .returned (.bool true) ∧ Frm (rn0 ins) w w' := by
  letI : Ev.Told := TT
  letI : TokV := tkv (vals a0)
  haveI : ToldOK := told_ok
  refine law_ok tabR_ok ?_ ans w
  have e1 : TokV.tk 0 = some (IntKind.i64, a0) := rfl
  simp [toT, toV, refV, rn0, ins, tok, e1]
theorem lifted (os : Os) (started : os.Started) (H : Type) (enc : TypeId × Value → H) :
    ReturnsInHanded {} Tryz.checked os 6 .any (fun w args => (Rows.slowMakesSpec.pre enc Tryz.prog Tryz.f6 Rows.slowMakesRow.domain false w args ∧ laidMetH Tryz.prog laid3 w) ∧ sizedMet enc Tryz.prog Tryz.f6 (OpenSpec.ofChange Rows.slowMakesSpec) false w args)
      (Rows.slowMakesSpec.post enc Tryz.prog Tryz.f6 false true false false) := by
  refine returnsInHanded_of_change_and (C := Tryz.checked) (X := fun w _ => laidMetH Tryz.prog laid3 w) (fun _ _ _ hh h => h.of_heap hh) own started (by kernel_rfl) Tryz.func6
    (ChangeSpec.witness_shaped (enc := enc) (C := Tryz.checked) (os := os) (X := fun w _ => laidMetH Tryz.prog laid3 w) false (start os) #[.int .i64 0] 8 (start_os os) (start_shaped os _) (by kernel_rfl) (by kernel_rfl) (by kernel_rfl) (start_met os _)) ?_
  intro W base args ds gs before hval0 hW _ _ hL _
  have hval : ∀ (j : Nat) t v, Tryz.f6.params[j]? = some t → args[j]? = some v → Value.okWide Tryz.prog W .any base t v := hval0
  have hW' := hW
  obtain ⟨p, q, hA0, hV, rfl, hfz, hnd⟩ := hW
  have hA : DataW.TrodAll enc Tryz.prog W 0 (fun _ => true) true Tryz.f6.params.toList args.toList ds p := hA0
  rw [Tryz.params6] at hA hval
  obtain ⟨v0, vs0, d0, ds0, p0, q0, hargs, rfl, rfl, h0, r0⟩ := trodAll_cons hA
  obtain ⟨rfl, rfl, rfl⟩ := trodAll_nil r0
  obtain rfl : args = #[v0] := by cases args; simp_all
  obtain ⟨rfl, rfl⟩ := trodVars_none hV
  obtain ⟨a0, rfl, rfl, rfl, w0⟩ := open_int Tryz.underlying2 (hval 0 2 v0 rfl rfl) h0
  clear hA0 hval0
  simp only [List.append_nil] at hW'
  refine (walk a0 W).mono fun e W' ⟨he, hg⟩ => ?_
  subst he
  exact ⟨_, rfl, _, _, _, [], [], [], hW', trodAll_cons_mk (shut_bool Tryz.underlying4 _) trodAll_mk0, (trodAll_cons_mk (shut_int Tryz.underlying2 w0) trodAll_mk0), rfl, kept hg _, fun h => by cases h⟩
theorem over : Rows.slowMakesRow.holds Tryz.pinned (OpenSpec.ofChange Rows.slowMakesSpec) :=
  OpenClaim.holds_of_wide 6 Tryz.f6 rfl rfl rfl rfl rfl rfl rfl ⟨rfl, rfl, rfl, rfl, rfl⟩ rfl rfl rfl rfl rfl named Tryz.func6 joined inst wrap
    (fun os started H enc _ => lifted os started H enc)
/-- the statement -/
theorem proved : Rows.SlowMakesCardSaid :=
  Claim7.holds_tied_plain_at .later [] [.data, .handle, .pinned] true (true, "477f1c777edaee60ec6750736c1ab69a53ddd9ec5ace9815532ccdab4613d50f") true over (fun _ h => by cases h) fact1 (fun _ h => by cases h) slowMakes_row_tie rfl ⟨rfl, rfl⟩ fact2 rfl
    (fun f fn hf hfn => by
      obtain rfl : f = 6 := Option.some.inj (named.symm.trans hf) |>.symm
      obtain rfl : fn = Tryz.f6 := (Option.some.inj (Tryz.func6.symm.trans hfn)).symm
      exact ⟨fact3, fun j t ht => by
        rw [Tryz.params6] at ht
        have hm : t ∈ [2] := by have := Array.mem_of_getElem? ht; simp at this; first | (rcases this with rfl | rfl | rfl | rfl <;> simp) | (rcases this with rfl | rfl | rfl <;> simp) | (rcases this with rfl | rfl <;> simp) | (subst this; simp)
        exact (show Tryz.prog.wantsStandIn t = false by simpa using List.all_eq_true.1 fact5 t hm)⟩)
    fact4
end Go.Proofs.YtjhamfilfgbhlaaGreatDoor.slowMakes
