import Derived.Test.YtdgfibghpfegoaaGreatDoorAEnds0
import Derived.Test.YtdgfibghpfegoaaGreatDoorAEnds1
import Derived.Test.YtdgfibghpfegoaaGreatDoorAEnds2
import Derived.Test.YtdgfibghpfegoaaGreatDoorAEnds3
import Derived.Test.YtdgfibghpfegoaaGreatDoorAEnds4
import Derived.Test.YtdgfibghpfegoaaGreatDoorAEnds5
import Derived.Test.YtdgfibghpfegoaaGreatDoorAEnds6
import Derived.Test.YtdgfibghpfegoaaGreatDoorAEnds7
import Derived.Test.YtdgfibghpfegoaaGreatDoorAEnds8
import Derived.Test.YtdgfibghpfegoaaGreatDoorFEnds
/- VerifyEnds answers true at every argument, and leaves memory as it was. Conditions: the row's own: three library tables read as the text of the program lays them; the card ties these to the text. -/
namespace Go.Proofs.YtdgfibghpfegoaaGreatDoor.verifyEnds
open Go Ev Go.ChangeShapes Go.WideShapes Go.ChangeAt Go.RowKit
set_option maxRecDepth 100000
set_option linter.unusedVariables false
set_option linter.unusedSimpArgs false
theorem ans (j0 : Int) (h0 : 0 ≤ j0 ∧ j0 < 50) (b1 : Bool) : isT (run (tab9 (told j0)) 1000 noY 6 (.cons (.ref 12 0 0 0 0 0) (.cons (bo b1) .nil)) .leaf 0) = true := by
  rcases (by omega : j0 = 0 ∨ j0 = 1 ∨ j0 = 2 ∨ j0 = 3 ∨ j0 = 4 ∨ j0 = 5 ∨ j0 = 6 ∨ j0 = 7 ∨ j0 = 8 ∨ j0 = 9 ∨ j0 = 10 ∨ j0 = 11 ∨ j0 = 12 ∨ j0 = 13 ∨ j0 = 14 ∨ j0 = 15 ∨ j0 = 16 ∨ j0 = 17 ∨ j0 = 18 ∨ j0 = 19 ∨ j0 = 20 ∨ j0 = 21 ∨ j0 = 22 ∨ j0 = 23 ∨ j0 = 24 ∨ j0 = 25 ∨ j0 = 26 ∨ j0 = 27 ∨ j0 = 28 ∨ j0 = 29 ∨ j0 = 30 ∨ j0 = 31 ∨ j0 = 32 ∨ j0 = 33 ∨ j0 = 34 ∨ j0 = 35 ∨ j0 = 36 ∨ j0 = 37 ∨ j0 = 38 ∨ j0 = 39 ∨ j0 = 40 ∨ j0 = 41 ∨ j0 = 42 ∨ j0 = 43 ∨ j0 = 44 ∨ j0 = 45 ∨ j0 = 46 ∨ j0 = 47 ∨ j0 = 48 ∨ j0 = 49) with rfl | rfl | rfl | rfl | rfl | rfl | rfl | rfl | rfl | rfl | rfl | rfl | rfl | rfl | rfl | rfl | rfl | rfl | rfl | rfl | rfl | rfl | rfl | rfl | rfl | rfl | rfl | rfl | rfl | rfl | rfl | rfl | rfl | rfl | rfl | rfl | rfl | rfl | rfl | rfl | rfl | rfl | rfl | rfl | rfl | rfl | rfl | rfl | rfl | rfl
  · cases b1
    · exact ans_0f
    · exact ans_0t
  · cases b1
    · exact ans_1f
    · exact ans_1t
  · cases b1
    · exact ans_2f
    · exact ans_2t
  · cases b1
    · exact ans_3f
    · exact ans_3t
  · cases b1
    · exact ans_4f
    · exact ans_4t
  · cases b1
    · exact ans_5f
    · exact ans_5t
  · cases b1
    · exact ans_6f
    · exact ans_6t
  · cases b1
    · exact ans_7f
    · exact ans_7t
  · cases b1
    · exact ans_8f
    · exact ans_8t
  · cases b1
    · exact ans_9f
    · exact ans_9t
  · cases b1
    · exact ans_10f
    · exact ans_10t
  · cases b1
    · exact ans_11f
    · exact ans_11t
  · cases b1
    · exact ans_12f
    · exact ans_12t
  · cases b1
    · exact ans_13f
    · exact ans_13t
  · cases b1
    · exact ans_14f
    · exact ans_14t
  · cases b1
    · exact ans_15f
    · exact ans_15t
  · cases b1
    · exact ans_16f
    · exact ans_16t
  · cases b1
    · exact ans_17f
    · exact ans_17t
  · cases b1
    · exact ans_18f
    · exact ans_18t
  · cases b1
    · exact ans_19f
    · exact ans_19t
  · cases b1
    · exact ans_20f
    · exact ans_20t
  · cases b1
    · exact ans_21f
    · exact ans_21t
  · cases b1
    · exact ans_22f
    · exact ans_22t
  · cases b1
    · exact ans_23f
    · exact ans_23t
  · cases b1
    · exact ans_24f
    · exact ans_24t
  · cases b1
    · exact ans_25f
    · exact ans_25t
  · cases b1
    · exact ans_26f
    · exact ans_26t
  · cases b1
    · exact ans_27f
    · exact ans_27t
  · cases b1
    · exact ans_28f
    · exact ans_28t
  · cases b1
    · exact ans_29f
    · exact ans_29t
  · cases b1
    · exact ans_30f
    · exact ans_30t
  · cases b1
    · exact ans_31f
    · exact ans_31t
  · cases b1
    · exact ans_32f
    · exact ans_32t
  · cases b1
    · exact ans_33f
    · exact ans_33t
  · cases b1
    · exact ans_34f
    · exact ans_34t
  · cases b1
    · exact ans_35f
    · exact ans_35t
  · cases b1
    · exact ans_36f
    · exact ans_36t
  · cases b1
    · exact ans_37f
    · exact ans_37t
  · cases b1
    · exact ans_38f
    · exact ans_38t
  · cases b1
    · exact ans_39f
    · exact ans_39t
  · cases b1
    · exact ans_40f
    · exact ans_40t
  · cases b1
    · exact ans_41f
    · exact ans_41t
  · cases b1
    · exact ans_42f
    · exact ans_42t
  · cases b1
    · exact ans_43f
    · exact ans_43t
  · cases b1
    · exact ans_44f
    · exact ans_44t
  · cases b1
    · exact ans_45f
    · exact ans_45t
  · cases b1
    · exact ans_46f
    · exact ans_46t
  · cases b1
    · exact ans_47f
    · exact ans_47t
  · cases b1
    · exact ans_48f
    · exact ans_48t
  · cases b1
    · exact ans_49f
    · exact ans_49t
/-- the ints that come in -/
def ins (a0 : Int) : Ev.Tok := fun b => match b with
  | 0 => some (.i64, a0)
  | _ => none
theorem walk (a0 : Int) (a1 : Bool) (w : World) : Calls Tryz.prog 6 #[.int .i64 a0, .bool a1] w fun e w' => e = .returned (.bool true) ∧ Frm (rn0 (ins a0)) w w' := by
  refine law_ok (tab9_ok (res := told (a0 % 50)) ?_) ?_ (ans (a0 % 50) ⟨Int.emod_nonneg _ (by omega), Int.emod_lt_of_pos _ (by omega)⟩ a1) w
  · intro b m j h
    unfold told at h
    split at h
    · split at h
      · rename_i hm
        injection h with h; subst h; subst hm
        exact ⟨a0, rfl, fun y ih t n => within_num y ih t n a0 50 (by omega) (by omega)⟩
      · cases h
    · cases h
  · cases a1 <;> simp [toT, toV, refV, rn0, ins, bo, numV]
theorem lifted (os : Os) (started : os.Started) (H : Type) (enc : TypeId × Value → H) :
    ReturnsInHanded {} Tryz.checked os 6 .any (fun w args => (Rows.verifyEndsSpec.pre enc Tryz.prog Tryz.f6 Rows.verifyEndsRow.domain false w args ∧ laidMetH Tryz.prog laid3 w) ∧ sizedMet enc Tryz.prog Tryz.f6 (OpenSpec.ofChange Rows.verifyEndsSpec) false w args)
      (Rows.verifyEndsSpec.post enc Tryz.prog Tryz.f6 false true false false) := by
  refine returnsInHanded_of_change_and (C := Tryz.checked) (X := fun w _ => laidMetH Tryz.prog laid3 w) (fun _ _ _ hh h => h.of_heap hh) own started (by kernel_rfl) Tryz.func6
    (ChangeSpec.witness_shaped (enc := enc) (C := Tryz.checked) (os := os) (X := fun w _ => laidMetH Tryz.prog laid3 w) false (start os) #[.int .i64 0, .bool false] 8 (start_os os) (start_shaped os _) (by kernel_rfl) (by kernel_rfl) (by kernel_rfl) (start_met os _)) ?_
  intro W base args ds gs before hval0 hW _ _ hL _
  have hval : ∀ (j : Nat) t v, Tryz.f6.params[j]? = some t → args[j]? = some v → Value.okWide Tryz.prog W .any base t v := hval0
  have hW' := hW
  obtain ⟨p, q, hA0, hV, rfl, hfz, hnd⟩ := hW
  have hA : DataW.TrodAll enc Tryz.prog W 0 (fun _ => true) true Tryz.f6.params.toList args.toList ds p := hA0
  rw [Tryz.params6] at hA hval
  obtain ⟨v0, vs0, d0, ds0, p0, q0, hargs, rfl, rfl, h0, r0⟩ := trodAll_cons hA
  obtain ⟨v1, vs1, d1, ds1, p1, q1, rfl, rfl, rfl, h1, r1⟩ := trodAll_cons r0
  obtain ⟨rfl, rfl, rfl⟩ := trodAll_nil r1
  obtain rfl : args = #[v0, v1] := by cases args; simp_all
  obtain ⟨rfl, rfl⟩ := trodVars_none hV
  obtain ⟨a0, rfl, rfl, rfl, w0⟩ := open_int Tryz.underlying3 (hval 0 3 v0 rfl rfl) h0
  obtain ⟨a1, rfl, rfl, rfl⟩ := open_bool Tryz.underlying4 (hval 1 4 v1 rfl rfl) h1
  clear hA0 hval0
  simp only [List.append_nil] at hW'
  refine (walk a0 a1 W).mono fun e W' ⟨he, hg⟩ => ?_
  subst he
  exact ⟨_, rfl, _, _, _, [], [], [], hW', trodAll_cons_mk (shut_bool Tryz.underlying4 _) trodAll_mk0, (trodAll_cons_mk (shut_int Tryz.underlying3 w0) (trodAll_cons_mk (shut_bool Tryz.underlying4 _) trodAll_mk0)), rfl, kept hg _, fun h => by cases h⟩
theorem over : Rows.verifyEndsRow.holds Tryz.pinned (OpenSpec.ofChange Rows.verifyEndsSpec) :=
  OpenClaim.holds_of_wide 6 Tryz.f6 rfl rfl rfl rfl rfl rfl rfl ⟨rfl, rfl, rfl, rfl, rfl⟩ rfl rfl rfl rfl rfl named Tryz.func6 joined inst wrap
    (fun os started H enc _ => lifted os started H enc)
/-- the statement -/
theorem proved : Rows.VerifyEndsCardSaid :=
  Claim7.holds_tied_plain_at .later [] [.data, .handle, .pinned] true (true, "33eaf2ea52a2efe6830f2e57dd6bac6c6fce5c0f3f2a6fdc3f96f8d83a466aeb") true over (fun _ h => by cases h) fact1 (fun _ h => by cases h) verifyEnds_row_tie rfl ⟨rfl, rfl⟩ fact2 rfl
    (fun f fn hf hfn => by
      obtain rfl : f = 6 := Option.some.inj (named.symm.trans hf) |>.symm
      obtain rfl : fn = Tryz.f6 := (Option.some.inj (Tryz.func6.symm.trans hfn)).symm
      exact ⟨fact3, fun j t ht => by
        rw [Tryz.params6] at ht
        have hm : t ∈ [3, 4] := by have := Array.mem_of_getElem? ht; simp at this ⊢; omega
        exact (show Tryz.prog.wantsStandIn t = false by simpa using List.all_eq_true.1 fact5 t hm)⟩)
    fact4
end Go.Proofs.YtdgfibghpfegoaaGreatDoor.verifyEnds
