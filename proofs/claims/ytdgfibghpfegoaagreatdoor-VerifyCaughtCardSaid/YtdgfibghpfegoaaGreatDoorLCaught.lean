import Derived.Test.YtdgfibghpfegoaaGreatDoorACaught0
import Derived.Test.YtdgfibghpfegoaaGreatDoorFCaught
/- VerifyCaught answers true at every argument, and leaves memory as it was. Conditions: the row's own: three library tables read as the text of the program lays them; the card ties these to the text. -/
namespace Go.Proofs.YtdgfibghpfegoaaGreatDoor.verifyCaught
open Go Ev Go.ChangeShapes Go.WideShapes Go.ChangeAt Go.RowKit
set_option maxRecDepth 100000
set_option linter.unusedVariables false
set_option linter.unusedSimpArgs false
theorem ans (j0 : Int) (h0 : 0 ≤ j0 ∧ j0 < 2) (j1 : Int) (h1 : 0 ≤ j1 ∧ j1 < 2) (j2 : Int) (h2 : 0 ≤ j2 ∧ j2 < 3) : isT (run (tab (told j0 j1 j2)) 1000 noY 7 (.cons (.ref 12 0 0 0 0 0) (.cons (.ref 12 1 0 0 0 0) (.cons (.ref 12 2 0 0 0 0) .nil))) .leaf 0) = true := by
  rcases (by omega : j0 = 0 ∨ j0 = 1) with rfl | rfl
  · rcases (by omega : j1 = 0 ∨ j1 = 1) with rfl | rfl
    · rcases (by omega : j2 = 0 ∨ j2 = 1 ∨ j2 = 2) with rfl | rfl | rfl
      · exact ans_0_0_0
      · exact ans_0_0_1
      · exact ans_0_0_2
    · rcases (by omega : j2 = 0 ∨ j2 = 1 ∨ j2 = 2) with rfl | rfl | rfl
      · exact ans_0_1_0
      · exact ans_0_1_1
      · exact ans_0_1_2
  · rcases (by omega : j1 = 0 ∨ j1 = 1) with rfl | rfl
    · rcases (by omega : j2 = 0 ∨ j2 = 1 ∨ j2 = 2) with rfl | rfl | rfl
      · exact ans_1_0_0
      · exact ans_1_0_1
      · exact ans_1_0_2
    · rcases (by omega : j2 = 0 ∨ j2 = 1 ∨ j2 = 2) with rfl | rfl | rfl
      · exact ans_1_1_0
      · exact ans_1_1_1
      · exact ans_1_1_2
/-- the ints that come in -/
def ins (a0 a1 a2 : Int) : Ev.Tok := fun b => match b with
  | 0 => some (.i64, a0)
  | 1 => some (.i64, a1)
  | 2 => some (.i64, a2)
  | _ => none
theorem walk (a0 : Int) (a1 : Int) (a2 : Int) (w : World) : Calls Tryz.prog 7 #[.int .i64 a0, .int .i64 a1, .int .i64 a2] w fun e w' => e = .returned (.bool true) ∧ Frm (rn0 (ins a0 a1 a2)) w w' := by
  refine law_ok (tab_ok (res := told (a0 % 2) (a1 % 2) (a2 % 3)) ?_) ?_ (ans (a0 % 2) ⟨Int.emod_nonneg _ (by omega), Int.emod_lt_of_pos _ (by omega)⟩ (a1 % 2) ⟨Int.emod_nonneg _ (by omega), Int.emod_lt_of_pos _ (by omega)⟩ (a2 % 3) ⟨Int.emod_nonneg _ (by omega), Int.emod_lt_of_pos _ (by omega)⟩) w
  · intro b m j h
    unfold told at h
    split at h
    · split at h
      · rename_i hm
        injection h with h; subst h; subst hm
        exact ⟨a0, rfl, fun y ih t n => within_num y ih t n a0 2 (by omega) (by omega)⟩
      · cases h
    · split at h
      · rename_i hm
        injection h with h; subst h; subst hm
        exact ⟨a1, rfl, fun y ih t n => within_num y ih t n a1 2 (by omega) (by omega)⟩
      · cases h
    · split at h
      · rename_i hm
        injection h with h; subst h; subst hm
        exact ⟨a2, rfl, fun y ih t n => within_num y ih t n a2 3 (by omega) (by omega)⟩
      · cases h
    · cases h
  · simp [toT, toV, refV, rn0, ins]
theorem lifted (os : Os) (started : os.Started) (H : Type) (enc : TypeId × Value → H) :
    ReturnsInHanded {} Tryz.checked os 7 .any (fun w args => (Rows.verifyCaughtSpec.pre enc Tryz.prog Tryz.f7 Rows.verifyCaughtRow.domain false w args ∧ laidMetH Tryz.prog laid3 w) ∧ sizedMet enc Tryz.prog Tryz.f7 (OpenSpec.ofChange Rows.verifyCaughtSpec) false w args)
      (Rows.verifyCaughtSpec.post enc Tryz.prog Tryz.f7 false true false false) := by
  refine returnsInHanded_of_change_and (C := Tryz.checked) (X := fun w _ => laidMetH Tryz.prog laid3 w) (fun _ _ _ hh h => h.of_heap hh) own started (by kernel_rfl) Tryz.func7
    (ChangeSpec.witness_shaped (enc := enc) (C := Tryz.checked) (os := os) (X := fun w _ => laidMetH Tryz.prog laid3 w) false (start os) #[.int .i64 0, .int .i64 0, .int .i64 0] 8 (start_os os) (start_shaped os _) (by kernel_rfl) (by kernel_rfl) (by kernel_rfl) (start_met os _)) ?_
  intro W base args ds gs before hval0 hW _ _ hL _
  have hval : ∀ (j : Nat) t v, Tryz.f7.params[j]? = some t → args[j]? = some v → Value.okWide Tryz.prog W .any base t v := hval0
  have hW' := hW
  obtain ⟨p, q, hA0, hV, rfl, hfz, hnd⟩ := hW
  have hA : DataW.TrodAll enc Tryz.prog W 0 (fun _ => true) true Tryz.f7.params.toList args.toList ds p := hA0
  rw [Tryz.params7] at hA hval
  obtain ⟨v0, vs0, d0, ds0, p0, q0, hargs, rfl, rfl, h0, r0⟩ := trodAll_cons hA
  obtain ⟨v1, vs1, d1, ds1, p1, q1, rfl, rfl, rfl, h1, r1⟩ := trodAll_cons r0
  obtain ⟨v2, vs2, d2, ds2, p2, q2, rfl, rfl, rfl, h2, r2⟩ := trodAll_cons r1
  obtain ⟨rfl, rfl, rfl⟩ := trodAll_nil r2
  obtain rfl : args = #[v0, v1, v2] := by cases args; simp_all
  obtain ⟨rfl, rfl⟩ := trodVars_none hV
  obtain ⟨a0, rfl, rfl, rfl, w0⟩ := open_int Tryz.underlying3 (hval 0 3 v0 rfl rfl) h0
  obtain ⟨a1, rfl, rfl, rfl, w1⟩ := open_int Tryz.underlying3 (hval 1 3 v1 rfl rfl) h1
  obtain ⟨a2, rfl, rfl, rfl, w2⟩ := open_int Tryz.underlying3 (hval 2 3 v2 rfl rfl) h2
  clear hA0 hval0
  simp only [List.append_nil] at hW'
  refine (walk a0 a1 a2 W).mono fun e W' ⟨he, hg⟩ => ?_
  subst he
  exact ⟨_, rfl, _, _, _, [], [], [], hW', trodAll_cons_mk (shut_bool Tryz.underlying4 _) trodAll_mk0, (trodAll_cons_mk (shut_int Tryz.underlying3 w0) (trodAll_cons_mk (shut_int Tryz.underlying3 w1) (trodAll_cons_mk (shut_int Tryz.underlying3 w2) trodAll_mk0))), rfl, kept hg _, fun h => by cases h⟩
theorem over : Rows.verifyCaughtRow.holds Tryz.pinned (OpenSpec.ofChange Rows.verifyCaughtSpec) :=
  OpenClaim.holds_of_wide 7 Tryz.f7 rfl rfl rfl rfl rfl rfl rfl ⟨rfl, rfl, rfl, rfl, rfl⟩ rfl rfl rfl rfl rfl named Tryz.func7 joined inst wrap
    (fun os started H enc _ => lifted os started H enc)
/-- the statement -/
theorem proved : Rows.VerifyCaughtCardSaid :=
  Claim7.holds_tied_plain_at .later [] [.data, .handle, .pinned] true (true, "33eaf2ea52a2efe6830f2e57dd6bac6c6fce5c0f3f2a6fdc3f96f8d83a466aeb") true over (fun _ h => by cases h) fact1 (fun _ h => by cases h) verifyCaught_row_tie rfl ⟨rfl, rfl⟩ fact2 rfl
    (fun f fn hf hfn => by
      obtain rfl : f = 7 := Option.some.inj (named.symm.trans hf) |>.symm
      obtain rfl : fn = Tryz.f7 := (Option.some.inj (Tryz.func7.symm.trans hfn)).symm
      exact ⟨fact3, fun j t ht => by
        rw [Tryz.params7] at ht
        have hm : t ∈ [3] := by have := Array.mem_of_getElem? ht; simp at this ⊢; omega
        exact (show Tryz.prog.wantsStandIn t = false by simpa using List.all_eq_true.1 fact5 t hm)⟩)
    fact4
end Go.Proofs.YtdgfibghpfegoaaGreatDoor.verifyCaught
