import Derived.Test.YtpalciklgbabeaaGreatDoorHA0
import Derived.Test.YtpalciklgbabeaaGreatDoorHA1
import Derived.Test.YtpalciklgbabeaaGreatDoorHA2
import Derived.Test.YtpalciklgbabeaaGreatDoorHA3
import Derived.Test.YtpalciklgbabeaaGreatDoorHA4
import Derived.Test.YtpalciklgbabeaaGreatDoorHA5
import Derived.Test.YtpalciklgbabeaaGreatDoorHA6
import Derived.Test.YtpalciklgbabeaaGreatDoorHH0
import Derived.Test.YtpalciklgbabeaaGreatDoorHR2
import Derived.Test.YtpalciklgbabeaaGreatDoorHF0
import Derived.Test.YtpalciklgbabeaaGreatDoorHF1
import Derived.Test.YtpalciklgbabeaaGreatDoorCards
import Derived.Test.YtpalciklgbabeaaGreatDoorTie
/- StepShuffles answers true at every argument, and leaves memory as it was. Conditions: the row's own: three library tables read as the text of the program lays them; the card ties these to the text. -/
namespace Go.Proofs.YtpalciklgbabeaaGreatDoor.stepShuffles
open Go Ev Go.ChangeShapes Go.WideShapes Go.ChangeAt Go.RowKit
set_option maxRecDepth 100000
set_option linter.unusedVariables false
set_option linter.unusedSimpArgs false
theorem r3 (a : Int) : 0 ≤ a % 3 ∧ a % 3 < 3 := ⟨Int.emod_nonneg _ (by omega), Int.emod_lt_of_pos _ (by omega)⟩
theorem walk (a0 : Int) {x y : AV} {v0 v1 : Value} {s0 s1 : ArgS} {w : World} (h0 : Stands 0 x v0 s0 w) (h1 : Stands 1 y v1 s1 w) (hc : s0.len ≤ s0.cap) : Calls Tryz.prog 4 #[v0, v1, .int .i64 a0] w fun e w' => e = .returned (.bool true) ∧ Frm (rn0 (insN a0)) w w' := by
  have hr := r3 a0
  rcases (by omega : a0 % 3 = 0 ∨ a0 % 3 = 1 ∨ a0 % 3 = 2) with hk | hk | hk
  · rcases shapes0 h0 hc with rfl | ⟨C, rfl⟩ | ⟨C, rfl⟩ | ⟨C, rfl⟩ | ⟨C, rfl⟩ | ⟨C, rfl⟩ | ⟨L, C, rfl⟩ <;> rcases shapes1 h1 with rfl | ⟨D, rfl⟩ | ⟨D, rfl⟩ | ⟨D, rfl⟩ | ⟨M, D, rfl⟩
    · exact one2 h0 h1 (tabH_ok (k := 0) hk) (a0_0_0)
    · exact one2 h0 h1 (tabH_ok (k := 0) hk) (a0_1_0  D)
    · exact one2 h0 h1 (tabH_ok (k := 0) hk) (a0_2_0  D)
    · exact one2 h0 h1 (tabH_ok (k := 0) hk) (a0_3_0  D)
    · exact one2 h0 h1 (tabH_ok (k := 0) hk) (a0_4_0  M D)
    · exact one2 h0 h1 (tabH_ok (k := 0) hk) (a1_0_0 C)
    · exact one2 h0 h1 (tabH_ok (k := 0) hk) (a1_1_0 C D)
    · exact one2 h0 h1 (tabH_ok (k := 0) hk) (a1_2_0 C D)
    · exact one2 h0 h1 (tabH_ok (k := 0) hk) (a1_3_0 C D)
    · exact one2 h0 h1 (tabH_ok (k := 0) hk) (a1_4_0 C M D)
    · exact one2 h0 h1 (tabH_ok (k := 0) hk) (a2_0_0 C)
    · exact one2 h0 h1 (tabH_ok (k := 0) hk) (a2_1_0 C D)
    · exact one2 h0 h1 (tabH_ok (k := 0) hk) (a2_2_0 C D)
    · exact one2 h0 h1 (tabH_ok (k := 0) hk) (a2_3_0 C D)
    · exact one2 h0 h1 (tabH_ok (k := 0) hk) (a2_4_0 C M D)
    · exact one2 h0 h1 (tabH_ok (k := 0) hk) (a3_0_0 C)
    · exact one2 h0 h1 (tabH_ok (k := 0) hk) (a3_1_0 C D)
    · exact one2 h0 h1 (tabH_ok (k := 0) hk) (a3_2_0 C D)
    · exact one2 h0 h1 (tabH_ok (k := 0) hk) (a3_3_0 C D)
    · exact one2 h0 h1 (tabH_ok (k := 0) hk) (a3_4_0 C M D)
    · exact one2 h0 h1 (tabH_ok (k := 0) hk) (a4_0_0 C)
    · exact one2 h0 h1 (tabH_ok (k := 0) hk) (a4_1_0 C D)
    · exact one2 h0 h1 (tabH_ok (k := 0) hk) (a4_2_0 C D)
    · exact one2 h0 h1 (tabH_ok (k := 0) hk) (a4_3_0 C D)
    · exact one2 h0 h1 (tabH_ok (k := 0) hk) (a4_4_0 C M D)
    · exact one2 h0 h1 (tabH_ok (k := 0) hk) (a5_0_0 C)
    · exact one2 h0 h1 (tabH_ok (k := 0) hk) (a5_1_0 C D)
    · exact one2 h0 h1 (tabH_ok (k := 0) hk) (a5_2_0 C D)
    · exact one2 h0 h1 (tabH_ok (k := 0) hk) (a5_3_0 C D)
    · exact one2 h0 h1 (tabH_ok (k := 0) hk) (a5_4_0 C M D)
    · exact one2 h0 h1 (tabH_ok (k := 0) hk) (a6_0_0 L C)
    · exact one2 h0 h1 (tabH_ok (k := 0) hk) (a6_1_0 L C D)
    · exact one2 h0 h1 (tabH_ok (k := 0) hk) (a6_2_0 L C D)
    · exact one2 h0 h1 (tabH_ok (k := 0) hk) (a6_3_0 L C D)
    · exact one2 h0 h1 (tabH_ok (k := 0) hk) (a6_4_0 L C M D)
  · rcases shapes0 h0 hc with rfl | ⟨C, rfl⟩ | ⟨C, rfl⟩ | ⟨C, rfl⟩ | ⟨C, rfl⟩ | ⟨C, rfl⟩ | ⟨L, C, rfl⟩ <;> rcases shapes1 h1 with rfl | ⟨D, rfl⟩ | ⟨D, rfl⟩ | ⟨D, rfl⟩ | ⟨M, D, rfl⟩
    · exact one2 h0 h1 (tabH_ok (k := 1) hk) (a0_0_1)
    · exact one2 h0 h1 (tabH_ok (k := 1) hk) (a0_1_1  D)
    · exact one2 h0 h1 (tabH_ok (k := 1) hk) (a0_2_1  D)
    · exact one2 h0 h1 (tabH_ok (k := 1) hk) (a0_3_1  D)
    · exact one2 h0 h1 (tabH_ok (k := 1) hk) (a0_4_1  M D)
    · exact one2 h0 h1 (tabH_ok (k := 1) hk) (a1_0_1 C)
    · exact one2 h0 h1 (tabH_ok (k := 1) hk) (a1_1_1 C D)
    · exact one2 h0 h1 (tabH_ok (k := 1) hk) (a1_2_1 C D)
    · exact one2 h0 h1 (tabH_ok (k := 1) hk) (a1_3_1 C D)
    · exact one2 h0 h1 (tabH_ok (k := 1) hk) (a1_4_1 C M D)
    · exact one2 h0 h1 (tabH_ok (k := 1) hk) (a2_0_1 C)
    · exact one2 h0 h1 (tabH_ok (k := 1) hk) (a2_1_1 C D)
    · exact one2 h0 h1 (tabH_ok (k := 1) hk) (a2_2_1 C D)
    · exact one2 h0 h1 (tabH_ok (k := 1) hk) (a2_3_1 C D)
    · exact one2 h0 h1 (tabH_ok (k := 1) hk) (a2_4_1 C M D)
    · exact one2 h0 h1 (tabH_ok (k := 1) hk) (a3_0_1 C)
    · exact one2 h0 h1 (tabH_ok (k := 1) hk) (a3_1_1 C D)
    · exact one2 h0 h1 (tabH_ok (k := 1) hk) (a3_2_1 C D)
    · exact one2 h0 h1 (tabH_ok (k := 1) hk) (a3_3_1 C D)
    · exact one2 h0 h1 (tabH_ok (k := 1) hk) (a3_4_1 C M D)
    · exact one2 h0 h1 (tabH_ok (k := 1) hk) (a4_0_1 C)
    · exact one2 h0 h1 (tabH_ok (k := 1) hk) (a4_1_1 C D)
    · exact one2 h0 h1 (tabH_ok (k := 1) hk) (a4_2_1 C D)
    · exact one2 h0 h1 (tabH_ok (k := 1) hk) (a4_3_1 C D)
    · exact one2 h0 h1 (tabH_ok (k := 1) hk) (a4_4_1 C M D)
    · exact one2 h0 h1 (tabH_ok (k := 1) hk) (a5_0_1 C)
    · exact one2 h0 h1 (tabH_ok (k := 1) hk) (a5_1_1 C D)
    · exact one2 h0 h1 (tabH_ok (k := 1) hk) (a5_2_1 C D)
    · exact one2 h0 h1 (tabH_ok (k := 1) hk) (a5_3_1 C D)
    · exact one2 h0 h1 (tabH_ok (k := 1) hk) (a5_4_1 C M D)
    · exact one2 h0 h1 (tabH_ok (k := 1) hk) (a6_0_1 L C)
    · exact one2 h0 h1 (tabH_ok (k := 1) hk) (a6_1_1 L C D)
    · exact one2 h0 h1 (tabH_ok (k := 1) hk) (a6_2_1 L C D)
    · exact one2 h0 h1 (tabH_ok (k := 1) hk) (a6_3_1 L C D)
    · exact one2 h0 h1 (tabH_ok (k := 1) hk) (a6_4_1 L C M D)
  · rcases shapes0 h0 hc with rfl | ⟨C, rfl⟩ | ⟨C, rfl⟩ | ⟨C, rfl⟩ | ⟨C, rfl⟩ | ⟨C, rfl⟩ | ⟨L, C, rfl⟩ <;> rcases shapes1 h1 with rfl | ⟨D, rfl⟩ | ⟨D, rfl⟩ | ⟨D, rfl⟩ | ⟨M, D, rfl⟩
    · exact one2 h0 h1 (tabH_ok (k := 2) hk) (a0_0_2)
    · exact one2 h0 h1 (tabH_ok (k := 2) hk) (a0_1_2  D)
    · exact one2 h0 h1 (tabH_ok (k := 2) hk) (a0_2_2  D)
    · exact one2 h0 h1 (tabH_ok (k := 2) hk) (a0_3_2  D)
    · exact one2 h0 h1 (tabH_ok (k := 2) hk) (a0_4_2  M D)
    · exact one2 h0 h1 (tabH_ok (k := 2) hk) (a1_0_2 C)
    · exact one2 h0 h1 (tabH_ok (k := 2) hk) (a1_1_2 C D)
    · exact one2 h0 h1 (tabH_ok (k := 2) hk) (a1_2_2 C D)
    · exact one2 h0 h1 (tabH_ok (k := 2) hk) (a1_3_2 C D)
    · exact one2 h0 h1 (tabH_ok (k := 2) hk) (a1_4_2 C M D)
    · exact one2 h0 h1 (tabH_ok (k := 2) hk) (a2_0_2 C)
    · exact one2 h0 h1 (tabH_ok (k := 2) hk) (a2_1_2 C D)
    · exact one2 h0 h1 (tabH_ok (k := 2) hk) (a2_2_2 C D)
    · exact one2 h0 h1 (tabH_ok (k := 2) hk) (a2_3_2 C D)
    · exact one2 h0 h1 (tabH_ok (k := 2) hk) (a2_4_2 C M D)
    · exact one2 h0 h1 (tabH_ok (k := 2) hk) (a3_0_2 C)
    · exact one2 h0 h1 (tabH_ok (k := 2) hk) (a3_1_2 C D)
    · exact one2 h0 h1 (tabH_ok (k := 2) hk) (a3_2_2 C D)
    · exact one2 h0 h1 (tabH_ok (k := 2) hk) (a3_3_2 C D)
    · exact one2 h0 h1 (tabH_ok (k := 2) hk) (a3_4_2 C M D)
    · exact one2 h0 h1 (tabH_ok (k := 2) hk) (a4_0_2 C)
    · exact one2 h0 h1 (tabH_ok (k := 2) hk) (a4_1_2 C D)
    · exact one2 h0 h1 (tabH_ok (k := 2) hk) (a4_2_2 C D)
    · exact one2 h0 h1 (tabH_ok (k := 2) hk) (a4_3_2 C D)
    · exact one2 h0 h1 (tabH_ok (k := 2) hk) (a4_4_2 C M D)
    · exact one2 h0 h1 (tabH_ok (k := 2) hk) (a5_0_2 C)
    · exact one2 h0 h1 (tabH_ok (k := 2) hk) (a5_1_2 C D)
    · exact one2 h0 h1 (tabH_ok (k := 2) hk) (a5_2_2 C D)
    · exact one2 h0 h1 (tabH_ok (k := 2) hk) (a5_3_2 C D)
    · exact one2 h0 h1 (tabH_ok (k := 2) hk) (a5_4_2 C M D)
    · exact one2 h0 h1 (tabH_ok (k := 2) hk) (a6_0_2 L C)
    · exact one2 h0 h1 (tabH_ok (k := 2) hk) (a6_1_2 L C D)
    · exact one2 h0 h1 (tabH_ok (k := 2) hk) (a6_2_2 L C D)
    · exact one2 h0 h1 (tabH_ok (k := 2) hk) (a6_3_2 L C D)
    · exact one2 h0 h1 (tabH_ok (k := 2) hk) (a6_4_2 L C M D)
theorem lifted (os : Os) (started : os.Started) (H : Type) (enc : TypeId × Value → H) :
    ReturnsInHanded {} Tryz.checked os 4 .any (fun w args => (Rows.stepShufflesSpec.pre enc Tryz.prog Tryz.f4 Rows.stepShufflesRow.domain false w args ∧ laidMetH Tryz.prog laid3 w) ∧ sizedMet enc Tryz.prog Tryz.f4 (OpenSpec.ofChange Rows.stepShufflesSpec) false w args)
      (Rows.stepShufflesSpec.post enc Tryz.prog Tryz.f4 false true false false) := by
  refine returnsInHanded_of_change_and (C := Tryz.checked) (X := fun w _ => laidMetH Tryz.prog laid3 w) (fun _ _ _ hh h => h.of_heap hh) own started (by kernel_rfl) Tryz.func4
    (ChangeSpec.witness_shaped (enc := enc) (C := Tryz.checked) (os := os) (X := fun w _ => laidMetH Tryz.prog laid3 w) false (start os) #[.slice none 0 0, .slice none 0 0, .int .i64 0] 8 (start_os os) (start_shaped os _) (by kernel_rfl) (by kernel_rfl) (by kernel_rfl) (start_met os _)) ?_
  intro W base args ds gs before hval0 hW _ _ hL _
  have hval : ∀ (j : Nat) t v, Tryz.f4.params[j]? = some t → args[j]? = some v → Value.okWide Tryz.prog W .any base t v := hval0
  have hW' := hW
  obtain ⟨p, q, hA0, hV, rfl, hfz, hnd⟩ := hW
  have hA : DataW.TrodAll enc Tryz.prog W 0 (fun _ => true) true Tryz.f4.params.toList args.toList ds p := hA0
  rw [Tryz.params4] at hA hval
  obtain ⟨v0, vs0, d0, ds0, p0, q0, hargs, rfl, rfl, h0, r0⟩ := trodAll_cons hA
  obtain ⟨v1, vs1, d1, ds1, p1, q1, rfl, rfl, rfl, h1, r1⟩ := trodAll_cons r0
  obtain ⟨v2, vs2, d2, ds2, p2, q2, rfl, rfl, rfl, h2, r2⟩ := trodAll_cons r1
  obtain ⟨rfl, rfl, rfl⟩ := trodAll_nil r2
  obtain rfl : args = #[v0, v1, v2] := by cases args; simp_all
  obtain ⟨rfl, rfl⟩ := trodVars_none hV
  obtain ⟨a0, rfl, rfl, rfl, w0⟩ := open_int Tryz.underlying3 (hval 2 3 v2 rfl rfl) h2
  have hops0 := open_sl Tryz.underlying22 Tryz.underlying3 (by kernel_rfl) (hval 0 22 v0 rfl rfl) h0
  have hops1 := open_sl Tryz.underlying22 Tryz.underlying3 (by kernel_rfl) (hval 1 22 v1 rfl rfl) h1
  clear hA0 hval0
  simp only [List.append_nil, List.nil_append] at hW'
  rcases hops0 with ⟨rfl, hsh0⟩ | ⟨b0, len0, cap0, zs0, rfl, hcap0, hz0, hc0, hsh0⟩ <;> rcases hops1 with ⟨rfl, hsh1⟩ | ⟨b1, len1, cap1, zs1, rfl, hcap1, hz1, hc1, hsh1⟩
  · refine (walk a0 (s0 := ⟨⟨0, 0, none⟩, 0, 0, fun _ => 0⟩) (s1 := ⟨⟨0, 0, none⟩, 0, 0, fun _ => 0⟩) (w := W) (.inl ⟨rfl, rfl, rfl⟩) (.inl ⟨rfl, rfl, rfl⟩) (by exact Nat.le_refl 0)).mono fun e W' ⟨he, hg⟩ => ?_
    subst he
    exact ⟨_, rfl, _, _, _, [], _, [], hW', trodAll_cons_mk (shut_bool Tryz.underlying4 _) trodAll_mk0, trodAll_cons_mk (hsh0 W' _) (trodAll_cons_mk (hsh1 W' _) (trodAll_cons_mk (shut_int Tryz.underlying3 w0) trodAll_mk0)), rfl, kept hg _, fun h => by cases h⟩
  · refine (walk a0 (s0 := ⟨⟨0, 0, none⟩, 0, 0, fun _ => 0⟩) (s1 := ⟨b1, len1, cap1, fun i => zs1.getD i 0⟩) (w := W) (.inl ⟨rfl, rfl, rfl⟩) (.inr ⟨rfl, rfl, fun i hi => hc1 i (by have : i < len1 := hi; omega)⟩) (by exact Nat.le_refl 0)).mono fun e W' ⟨he, hg⟩ => ?_
    subst he
    exact ⟨_, rfl, _, _, _, [], _, [], hW', trodAll_cons_mk (shut_bool Tryz.underlying4 _) trodAll_mk0, trodAll_cons_mk (hsh0 W' _) (trodAll_cons_mk (hsh1 W' _ (fun b hb => by simpa using hb) fun i hi => cells_kept hg (hc1 i hi)) (trodAll_cons_mk (shut_int Tryz.underlying3 w0) trodAll_mk0)), rfl, kept hg _, fun h => by cases h⟩
  · refine (walk a0 (s0 := ⟨b0, len0, cap0, fun i => zs0.getD i 0⟩) (s1 := ⟨⟨0, 0, none⟩, 0, 0, fun _ => 0⟩) (w := W) (.inr ⟨rfl, rfl, fun i hi => hc0 i (by have : i < len0 := hi; omega)⟩) (.inl ⟨rfl, rfl, rfl⟩) (by omega)).mono fun e W' ⟨he, hg⟩ => ?_
    subst he
    exact ⟨_, rfl, _, _, _, [], _, [], hW', trodAll_cons_mk (shut_bool Tryz.underlying4 _) trodAll_mk0, trodAll_cons_mk (hsh0 W' _ (fun b hb => by simpa using hb) fun i hi => cells_kept hg (hc0 i hi)) (trodAll_cons_mk (hsh1 W' _) (trodAll_cons_mk (shut_int Tryz.underlying3 w0) trodAll_mk0)), rfl, kept hg _, fun h => by cases h⟩
  · refine (walk a0 (s0 := ⟨b0, len0, cap0, fun i => zs0.getD i 0⟩) (s1 := ⟨b1, len1, cap1, fun i => zs1.getD i 0⟩) (w := W) (.inr ⟨rfl, rfl, fun i hi => hc0 i (by have : i < len0 := hi; omega)⟩) (.inr ⟨rfl, rfl, fun i hi => hc1 i (by have : i < len1 := hi; omega)⟩) (by omega)).mono fun e W' ⟨he, hg⟩ => ?_
    subst he
    exact ⟨_, rfl, _, _, _, [], _, [], hW', trodAll_cons_mk (shut_bool Tryz.underlying4 _) trodAll_mk0, trodAll_cons_mk (hsh0 W' _ (fun b hb => by simpa using hb) fun i hi => cells_kept hg (hc0 i hi)) (trodAll_cons_mk (hsh1 W' _ (fun b hb => by simpa using hb) fun i hi => cells_kept hg (hc1 i hi)) (trodAll_cons_mk (shut_int Tryz.underlying3 w0) trodAll_mk0)), rfl, kept hg _, fun h => by cases h⟩
theorem over : Rows.stepShufflesRow.holds Tryz.pinned (OpenSpec.ofChange Rows.stepShufflesSpec) :=
  OpenClaim.holds_of_wide 4 Tryz.f4 rfl rfl rfl rfl rfl rfl rfl ⟨rfl, rfl, rfl, rfl, rfl⟩ rfl rfl rfl rfl rfl named Tryz.func4 joined inst wrap
    (fun os started H enc _ => lifted os started H enc)
/-- the statement -/
theorem proved : Rows.StepShufflesCardSaid :=
  Claim7.holds_tied_plain_at .later [] [.data, .handle, .pinned] true (true, "7f3fdfcadee9000e31ea652b6bb3a76b25de209ffe07a31f02ab8af684cf41fe") true over (fun _ h => by cases h) fact1 (fun _ h => by cases h) stepShuffles_row_tie rfl ⟨rfl, rfl⟩ fact2 rfl
    (fun f fn hf hfn => by
      obtain rfl : f = 4 := Option.some.inj (named.symm.trans hf) |>.symm
      obtain rfl : fn = Tryz.f4 := (Option.some.inj (Tryz.func4.symm.trans hfn)).symm
      exact ⟨fact3, fun j t ht => by
        rw [Tryz.params4] at ht
        have hm : t ∈ [22, 3] := by have := Array.mem_of_getElem? ht; simp at this; first | (rcases this with rfl | rfl <;> simp) | (rcases this with rfl | rfl | rfl <;> simp) | (subst this; simp)
        exact (show Tryz.prog.wantsStandIn t = false by simpa using List.all_eq_true.1 fact5 t hm)⟩)
    fact4
end Go.Proofs.YtpalciklgbabeaaGreatDoor.stepShuffles
