import Derived.Test.YtppcobdghedkgaaGreatDoorA0
import Derived.Test.YtppcobdghedkgaaGreatDoorA1
import Derived.Test.YtppcobdghedkgaaGreatDoorA2
import Derived.Test.YtppcobdghedkgaaGreatDoorF0
/- SlowReckons answers true at every argument, and leaves memory as it was. Conditions: the row's own: three library tables read as the text of the program lays them; the card ties these to the text. -/
namespace Go.Proofs.YtppcobdghedkgaaGreatDoor.slowReckons
open Go Ev Go.ChangeShapes Go.WideShapes Go.ChangeAt Go.RowKit
set_option maxRecDepth 100000
set_option linter.unusedVariables false
set_option linter.unusedSimpArgs false
/-- the int that comes in -/
def ins (a0 : Int) : Ev.Tok := fun b => match b with
  | 0 => some (.i64, a0)
  | _ => none
theorem one {j : Int} {c : Nat} {a0 a1 a2 : Int} (hj : a0 % 11 = j) (hok : @ToldOK (tkv (vals c a1 a2)) (TT c)) (h0 : (vals c a1 a2)[0]? = some (.i64, a1)) (h1 : (vals c a1 a2)[1]? = some (.i64, a2))
    (h : isT (run (@tabR (TT c) (told j)) 1000 noY 3 (.cons (.ref 12 0 0 0 0 0) (.cons (tok 0) (.cons (tok 1) .nil))) .leaf 0) = true) (w : World) : Calls Tryz.prog 3 #[.int .i64 a0, .int .i64 a1, .int .i64 a2] w fun e w' => e = .returned (.bool true) ∧ Frm (rn0 (ins a0)) w w' := by
  letI : Ev.Told := TT c
  letI : TokV := tkv (vals c a1 a2)
  haveI : ToldOK := hok
  refine law_ok (tabR_ok (res := told j) ?_) ?_ h w
  · intro b m j' h
    unfold told at h
    split at h
    · split at h
      · rename_i hm
        injection h with h; subst h; subst hm
        exact ⟨a0, rfl, fun y ih t n => by rw [← hj]; exact within_num y ih t n a0 11 (by omega) (by omega)⟩
      · cases h
    · cases h
  · have e1 : TokV.tk 0 = some (IntKind.i64, a1) := h0
    have e2 : TokV.tk 1 = some (IntKind.i64, a2) := h1
    simp [toT, toV, refV, rn0, ins, tok, e1, e2]
theorem walk (a0 a1 a2 : Int) (hr : -9223372036854775808 ≤ a1 ∧ a1 < 9223372036854775808) (w : World) : Calls Tryz.prog 3 #[.int .i64 a0, .int .i64 a1, .int .i64 a2] w fun e w' => e = .returned (.bool true) ∧ Frm (rn0 (ins a0)) w w' := by
  have h0 := Int.emod_nonneg a0 (show (11 : Int) ≠ 0 by omega)
  have h1 := Int.emod_lt_of_pos a0 (show (0 : Int) < 11 by omega)
  rcases (by omega : a0 % 11 = 0 ∨ a0 % 11 = 1 ∨ a0 % 11 = 2 ∨ a0 % 11 = 3 ∨ a0 % 11 = 4 ∨ a0 % 11 = 5 ∨ a0 % 11 = 6 ∨ a0 % 11 = 7 ∨ a0 % 11 = 8 ∨ a0 % 11 = 9 ∨ a0 % 11 = 10) with h | h | h | h | h | h | h | h | h | h | h
  · exact one h ok_0 rfl rfl ans_0_0 w
  · exact one h ok_1 rfl rfl ans_1_1 w
  · exact one h ok_2 rfl rfl ans_2_2 w
  · by_cases hb : a2 = 0
    · exact one h (ok_30 hb) rfl rfl ans_3_30 w
    · by_cases hc : a2 = -1
      · exact one h (ok_31 hc) rfl rfl ans_3_31 w
      · exact one h (ok_32 hb hc) rfl rfl ans_3_32 w
  · by_cases hb : a2 = 0
    · exact one h (ok_30 hb) rfl rfl ans_4_30 w
    · by_cases hc : a2 = -1
      · exact one h (ok_31 hc) rfl rfl ans_4_31 w
      · exact one h (ok_42 hb hc) rfl rfl ans_4_42 w
  · by_cases hs : 0 ≤ a1
    · exact one h (ok_100 hs hr.2) rfl rfl ans_5_100 w
    · exact one h (ok_101 (by omega) hr.1) rfl rfl ans_5_101 w
  · exact one h ok_6 rfl rfl ans_6_6 w
  · exact one h ok_7 rfl rfl ans_7_7 w
  · exact one h ok_8 rfl rfl ans_8_8 w
  · exact one h ok_9 rfl rfl ans_9_9 w
  · by_cases hs : 0 ≤ a1
    · exact one h (ok_100 hs hr.2) rfl rfl ans_10_100 w
    · exact one h (ok_101 (by omega) hr.1) rfl rfl ans_10_101 w
theorem lifted (os : Os) (started : os.Started) (H : Type) (enc : TypeId × Value → H) :
    ReturnsInHanded {} Tryz.checked os 3 .any (fun w args => (Rows.slowReckonsSpec.pre enc Tryz.prog Tryz.f3 Rows.slowReckonsRow.domain false w args ∧ laidMetH Tryz.prog laid3 w) ∧ sizedMet enc Tryz.prog Tryz.f3 (OpenSpec.ofChange Rows.slowReckonsSpec) false w args)
      (Rows.slowReckonsSpec.post enc Tryz.prog Tryz.f3 false true false false) := by
  refine returnsInHanded_of_change_and (C := Tryz.checked) (X := fun w _ => laidMetH Tryz.prog laid3 w) (fun _ _ _ hh h => h.of_heap hh) own started (by kernel_rfl) Tryz.func3
    (ChangeSpec.witness_shaped (enc := enc) (C := Tryz.checked) (os := os) (X := fun w _ => laidMetH Tryz.prog laid3 w) false (start os) #[.int .i64 0, .int .i64 0, .int .i64 0] 8 (start_os os) (start_shaped os _) (by kernel_rfl) (by kernel_rfl) (by kernel_rfl) (start_met os _)) ?_
  intro W base args ds gs before hval0 hW _ _ hL _
  have hval : ∀ (j : Nat) t v, Tryz.f3.params[j]? = some t → args[j]? = some v → Value.okWide Tryz.prog W .any base t v := hval0
  have hW' := hW
  obtain ⟨p, q, hA0, hV, rfl, hfz, hnd⟩ := hW
  have hA : DataW.TrodAll enc Tryz.prog W 0 (fun _ => true) true Tryz.f3.params.toList args.toList ds p := hA0
  rw [Tryz.params3] at hA hval
  obtain ⟨v0, vs0, d0, ds0, p0, q0, hargs, rfl, rfl, h0, r0⟩ := trodAll_cons hA
  obtain ⟨v1, vs1, d1, ds1, p1, q1, rfl, rfl, rfl, h1, r1⟩ := trodAll_cons r0
  obtain ⟨v2, vs2, d2, ds2, p2, q2, rfl, rfl, rfl, h2, r2⟩ := trodAll_cons r1
  obtain ⟨rfl, rfl, rfl⟩ := trodAll_nil r2
  obtain rfl : args = #[v0, v1, v2] := by cases args; simp_all
  obtain ⟨rfl, rfl⟩ := trodVars_none hV
  obtain ⟨a0, rfl, rfl, rfl, w0⟩ := open_int Tryz.underlying3 (hval 0 3 v0 rfl rfl) h0
  obtain ⟨a1, rfl, rfl, rfl, w1⟩ := open_int Tryz.underlying2 (hval 1 2 v1 rfl rfl) h1
  obtain ⟨a2, rfl, rfl, rfl, w2⟩ := open_int Tryz.underlying2 (hval 2 2 v2 rfl rfl) h2
  clear hA0 hval0
  simp only [List.append_nil] at hW'
  have hr : -9223372036854775808 ≤ a1 ∧ a1 < 9223372036854775808 := by
    have := w1
    simp [Lit.wf, IntKind.min, IntKind.max, IntKind.signed, IntKind.bits] at this
    omega
  refine (walk a0 a1 a2 hr W).mono fun e W' ⟨he, hg⟩ => ?_
  subst he
  exact ⟨_, rfl, _, _, _, [], [], [], hW', trodAll_cons_mk (shut_bool Tryz.underlying4 _) trodAll_mk0, (trodAll_cons_mk (shut_int Tryz.underlying3 w0) (trodAll_cons_mk (shut_int Tryz.underlying2 w1) (trodAll_cons_mk (shut_int Tryz.underlying2 w2) trodAll_mk0))), rfl, kept hg _, fun h => by cases h⟩
theorem over : Rows.slowReckonsRow.holds Tryz.pinned (OpenSpec.ofChange Rows.slowReckonsSpec) :=
  OpenClaim.holds_of_wide 3 Tryz.f3 rfl rfl rfl rfl rfl rfl rfl ⟨rfl, rfl, rfl, rfl, rfl⟩ rfl rfl rfl rfl rfl named Tryz.func3 joined inst wrap
    (fun os started H enc _ => lifted os started H enc)
/-- the statement -/
theorem proved : Rows.SlowReckonsCardSaid :=
  Claim7.holds_tied_plain_at .later [] [.data, .handle, .pinned] true (true, "43a98ac7ea08b18964704f70efeed1033267e2e980e7503427636fe54701ed3b") true over (fun _ h => by cases h) fact1 (fun _ h => by cases h) slowReckons_row_tie rfl ⟨rfl, rfl⟩ fact2 rfl
    (fun f fn hf hfn => by
      obtain rfl : f = 3 := Option.some.inj (named.symm.trans hf) |>.symm
      obtain rfl : fn = Tryz.f3 := (Option.some.inj (Tryz.func3.symm.trans hfn)).symm
      exact ⟨fact3, fun j t ht => by
        rw [Tryz.params3] at ht
        have hm : t ∈ [2, 3] := by have := Array.mem_of_getElem? ht; simp at this; first | (rcases this with rfl | rfl | rfl <;> simp) | (rcases this with rfl | rfl <;> simp)
        exact (show Tryz.prog.wantsStandIn t = false by simpa using List.all_eq_true.1 fact5 t hm)⟩)
    fact4
end Go.Proofs.YtppcobdghedkgaaGreatDoor.slowReckons
