import Derived.Test.YtpalciklgbabeaaGreatDoorEA0
import Derived.Test.YtpalciklgbabeaaGreatDoorEA1
import Derived.Test.YtpalciklgbabeaaGreatDoorEA2
import Derived.Test.YtpalciklgbabeaaGreatDoorEA3
import Derived.Test.YtpalciklgbabeaaGreatDoorEA4
import Derived.Test.YtpalciklgbabeaaGreatDoorEA5
import Derived.Test.YtpalciklgbabeaaGreatDoorEH0
import Derived.Test.YtpalciklgbabeaaGreatDoorER2
import Derived.Test.YtpalciklgbabeaaGreatDoorEF0
import Derived.Test.YtpalciklgbabeaaGreatDoorEF1
import Derived.Test.YtpalciklgbabeaaGreatDoorCards
import Derived.Test.YtpalciklgbabeaaGreatDoorTie
/- StepEffects answers true at every argument, and leaves memory as it was. Conditions: the row's own: three library tables read as the text of the program lays them; the card ties these to the text. -/
namespace Go.Proofs.YtpalciklgbabeaaGreatDoor.stepEffects
open Go Ev Go.ChangeShapes Go.WideShapes Go.ChangeAt Go.RowKit
set_option maxRecDepth 100000
set_option linter.unusedVariables false
set_option linter.unusedSimpArgs false
theorem r46 (a : Int) : 0 ≤ a % 46 ∧ a % 46 < 46 := ⟨Int.emod_nonneg _ (by omega), Int.emod_lt_of_pos _ (by omega)⟩
theorem good0 : good 0 (fun _ => 0) := fun i hi _ => by simp [dig]
theorem walkN (a0 : Int) (w : World) : Calls Tryz.prog 3 #[.int .i64 a0, .slice none 0 0] w fun e w' => e = .returned (.bool true) ∧ Frm (rn0 (ins a0)) w w' := by
  have h0 := r46 a0
  rcases (by omega : a0 % 46 = 0 ∨ a0 % 46 = 1 ∨ a0 % 46 = 2 ∨ a0 % 46 = 3 ∨ a0 % 46 = 4 ∨ a0 % 46 = 5 ∨ a0 % 46 = 6 ∨ a0 % 46 = 7 ∨ a0 % 46 = 8 ∨ a0 % 46 = 9 ∨ a0 % 46 = 10 ∨ a0 % 46 = 11 ∨ a0 % 46 = 12 ∨ a0 % 46 = 13 ∨ a0 % 46 = 14 ∨ a0 % 46 = 15 ∨ a0 % 46 = 16 ∨ a0 % 46 = 17 ∨ a0 % 46 = 18 ∨ a0 % 46 = 19 ∨ a0 % 46 = 20 ∨ a0 % 46 = 21 ∨ a0 % 46 = 22 ∨ a0 % 46 = 23 ∨ a0 % 46 = 24 ∨ a0 % 46 = 25 ∨ a0 % 46 = 26 ∨ a0 % 46 = 27 ∨ a0 % 46 = 28 ∨ a0 % 46 = 29 ∨ a0 % 46 = 30 ∨ a0 % 46 = 31 ∨ a0 % 46 = 32 ∨ a0 % 46 = 33 ∨ a0 % 46 = 34 ∨ a0 % 46 = 35 ∨ a0 % 46 = 36 ∨ a0 % 46 = 37 ∨ a0 % 46 = 38 ∨ a0 % 46 = 39 ∨ a0 % 46 = 40 ∨ a0 % 46 = 41 ∨ a0 % 46 = 42 ∨ a0 % 46 = 43 ∨ a0 % 46 = 44 ∨ a0 % 46 = 45) with h | h | h | h | h | h | h | h | h | h | h | h | h | h | h | h | h | h | h | h | h | h | h | h | h | h | h | h | h | h | h | h | h | h | h | h | h | h | h | h | h | h | h | h | h | h
  · exact oneN (tabS_ok (op := 0) (by omega) h good0) n0 w
  · exact oneN (tabS_ok (op := 1) (by omega) h good0) n1 w
  · exact oneN (tabS_ok (op := 2) (by omega) h good0) n2 w
  · exact oneN (tabS_ok (op := 3) (by omega) h good0) n3 w
  · exact oneN (tabS_ok (op := 4) (by omega) h good0) n4 w
  · exact oneN (tabS_ok (op := 5) (by omega) h good0) n5 w
  · exact oneN (tabS_ok (op := 6) (by omega) h good0) n6 w
  · exact oneN (tabS_ok (op := 7) (by omega) h good0) n7 w
  · exact oneN (tabS_ok (op := 8) (by omega) h good0) n8 w
  · exact oneN (tabS_ok (op := 9) (by omega) h good0) n9 w
  · exact oneN (tabS_ok (op := 10) (by omega) h good0) n10 w
  · exact oneN (tabS_ok (op := 11) (by omega) h good0) n11 w
  · exact oneN (tabS_ok (op := 12) (by omega) h good0) n12 w
  · exact oneN (tabS_ok (op := 13) (by omega) h good0) n13 w
  · exact oneN (tabS_ok (op := 14) (by omega) h good0) n14 w
  · exact oneN (tabS_ok (op := 15) (by omega) h good0) n15 w
  · exact oneN (tabS_ok (op := 16) (by omega) h good0) n16 w
  · exact oneN (tabS_ok (op := 17) (by omega) h good0) n17 w
  · exact oneN (tabS_ok (op := 18) (by omega) h good0) n18 w
  · exact oneN (tabS_ok (op := 19) (by omega) h good0) n19 w
  · exact oneN (tabS_ok (op := 20) (by omega) h good0) n20 w
  · exact oneN (tabS_ok (op := 21) (by omega) h good0) n21 w
  · exact oneN (tabS_ok (op := 22) (by omega) h good0) n22 w
  · exact oneN (tabS_ok (op := 23) (by omega) h good0) n23 w
  · exact oneN (tabS_ok (op := 24) (by omega) h good0) n24 w
  · exact oneN (tabS_ok (op := 25) (by omega) h good0) n25 w
  · exact oneN (tabS_ok (op := 26) (by omega) h good0) n26 w
  · exact oneN (tabS_ok (op := 27) (by omega) h good0) n27 w
  · exact oneN (tabS_ok (op := 28) (by omega) h good0) n28 w
  · exact oneN (tabS_ok (op := 29) (by omega) h good0) n29 w
  · exact oneN (tabS_ok (op := 30) (by omega) h good0) n30 w
  · exact oneN (tabS_ok (op := 31) (by omega) h good0) n31 w
  · exact oneN (tabS_ok (op := 32) (by omega) h good0) n32 w
  · exact oneN (tabS_ok (op := 33) (by omega) h good0) n33 w
  · exact oneN (tabS_ok (op := 34) (by omega) h good0) n34 w
  · exact oneN (tabS_ok (op := 35) (by omega) h good0) n35 w
  · exact oneN (tabS_ok (op := 36) (by omega) h good0) n36 w
  · exact oneN (tabS_ok (op := 37) (by omega) h good0) n37 w
  · exact oneN (tabS_ok (op := 38) (by omega) h good0) n38 w
  · exact oneN (tabS_ok (op := 39) (by omega) h good0) n39 w
  · exact oneN (tabS_ok (op := 40) (by omega) h good0) n40 w
  · exact oneN (tabS_ok (op := 41) (by omega) h good0) n41 w
  · exact oneN (tabS_ok (op := 42) (by omega) h good0) n42 w
  · exact oneN (tabS_ok (op := 43) (by omega) h good0) n43 w
  · exact oneN (tabS_ok (op := 44) (by omega) h good0) n44 w
  · exact oneN (tabS_ok (op := 45) (by omega) h good0) n45 w
theorem walkS (a0 : Int) {a : Addr} {len cap : Nat} {zs : List Int} (w : World) (hz : len ≤ zs.length) (hc : ∀ i, i < zs.length → w.cell? (a.add i) = some (.int .i64 (zs.getD i 0))) :
    Calls Tryz.prog 3 #[.int .i64 a0, .slice (some a) len cap] w fun e w' => e = .returned (.bool true) ∧ Frm (rn0 (ins a0)) w w' := by
  have h0 := r46 a0
  rcases (by omega : a0 % 46 = 0 ∨ a0 % 46 = 1 ∨ a0 % 46 = 2 ∨ a0 % 46 = 3 ∨ a0 % 46 = 4 ∨ a0 % 46 = 5 ∨ a0 % 46 = 6 ∨ a0 % 46 = 7 ∨ a0 % 46 = 8 ∨ a0 % 46 = 9 ∨ a0 % 46 = 10 ∨ a0 % 46 = 11 ∨ a0 % 46 = 12 ∨ a0 % 46 = 13 ∨ a0 % 46 = 14 ∨ a0 % 46 = 15 ∨ a0 % 46 = 16 ∨ a0 % 46 = 17 ∨ a0 % 46 = 18 ∨ a0 % 46 = 19 ∨ a0 % 46 = 20 ∨ a0 % 46 = 21 ∨ a0 % 46 = 22 ∨ a0 % 46 = 23 ∨ a0 % 46 = 24 ∨ a0 % 46 = 25 ∨ a0 % 46 = 26 ∨ a0 % 46 = 27 ∨ a0 % 46 = 28 ∨ a0 % 46 = 29 ∨ a0 % 46 = 30 ∨ a0 % 46 = 31 ∨ a0 % 46 = 32 ∨ a0 % 46 = 33 ∨ a0 % 46 = 34 ∨ a0 % 46 = 35 ∨ a0 % 46 = 36 ∨ a0 % 46 = 37 ∨ a0 % 46 = 38 ∨ a0 % 46 = 39 ∨ a0 % 46 = 40 ∨ a0 % 46 = 41 ∨ a0 % 46 = 42 ∨ a0 % 46 = 43 ∨ a0 % 46 = 44 ∨ a0 % 46 = 45) with h | h | h | h | h | h | h | h | h | h | h | h | h | h | h | h | h | h | h | h | h | h | h | h | h | h | h | h | h | h | h | h | h | h | h | h | h | h | h | h | h | h | h | h | h | h
  · exact allLen (fun b s hb hg => tabS_ok (op := 0) hb h hg) a0_0 a0_1 a0_2 a0_3 a0_4 a0_5 w hz hc
  · exact allLen (fun b s hb hg => tabS_ok (op := 1) hb h hg) a1_0 a1_1 a1_2 a1_3 a1_4 a1_5 w hz hc
  · exact allLen (fun b s hb hg => tabS_ok (op := 2) hb h hg) a2_0 a2_1 a2_2 a2_3 a2_4 a2_5 w hz hc
  · exact allLen (fun b s hb hg => tabS_ok (op := 3) hb h hg) a3_0 a3_1 a3_2 a3_3 a3_4 a3_5 w hz hc
  · exact allLen (fun b s hb hg => tabS_ok (op := 4) hb h hg) a4_0 a4_1 a4_2 a4_3 a4_4 a4_5 w hz hc
  · exact allLen (fun b s hb hg => tabS_ok (op := 5) hb h hg) a5_0 a5_1 a5_2 a5_3 a5_4 a5_5 w hz hc
  · exact allLen (fun b s hb hg => tabS_ok (op := 6) hb h hg) a6_0 a6_1 a6_2 a6_3 a6_4 a6_5 w hz hc
  · exact allLen (fun b s hb hg => tabS_ok (op := 7) hb h hg) a7_0 a7_1 a7_2 a7_3 a7_4 a7_5 w hz hc
  · exact allLen (fun b s hb hg => tabS_ok (op := 8) hb h hg) a8_0 a8_1 a8_2 a8_3 a8_4 a8_5 w hz hc
  · exact allLen (fun b s hb hg => tabS_ok (op := 9) hb h hg) a9_0 a9_1 a9_2 a9_3 a9_4 a9_5 w hz hc
  · exact allLen (fun b s hb hg => tabS_ok (op := 10) hb h hg) a10_0 a10_1 a10_2 a10_3 a10_4 a10_5 w hz hc
  · exact allLen (fun b s hb hg => tabS_ok (op := 11) hb h hg) a11_0 a11_1 a11_2 a11_3 a11_4 a11_5 w hz hc
  · exact allLen (fun b s hb hg => tabS_ok (op := 12) hb h hg) a12_0 a12_1 a12_2 a12_3 a12_4 a12_5 w hz hc
  · exact allLen (fun b s hb hg => tabS_ok (op := 13) hb h hg) a13_0 a13_1 a13_2 a13_3 a13_4 a13_5 w hz hc
  · exact allLen (fun b s hb hg => tabS_ok (op := 14) hb h hg) a14_0 a14_1 a14_2 a14_3 a14_4 a14_5 w hz hc
  · exact allLen (fun b s hb hg => tabS_ok (op := 15) hb h hg) a15_0 a15_1 a15_2 a15_3 a15_4 a15_5 w hz hc
  · exact allLen (fun b s hb hg => tabS_ok (op := 16) hb h hg) a16_0 a16_1 a16_2 a16_3 a16_4 a16_5 w hz hc
  · exact allLen (fun b s hb hg => tabS_ok (op := 17) hb h hg) a17_0 a17_1 a17_2 a17_3 a17_4 a17_5 w hz hc
  · exact allLen (fun b s hb hg => tabS_ok (op := 18) hb h hg) a18_0 a18_1 a18_2 a18_3 a18_4 a18_5 w hz hc
  · exact allLen (fun b s hb hg => tabS_ok (op := 19) hb h hg) a19_0 a19_1 a19_2 a19_3 a19_4 a19_5 w hz hc
  · exact allLen (fun b s hb hg => tabS_ok (op := 20) hb h hg) a20_0 a20_1 a20_2 a20_3 a20_4 a20_5 w hz hc
  · exact allLen (fun b s hb hg => tabS_ok (op := 21) hb h hg) a21_0 a21_1 a21_2 a21_3 a21_4 a21_5 w hz hc
  · exact allLen (fun b s hb hg => tabS_ok (op := 22) hb h hg) a22_0 a22_1 a22_2 a22_3 a22_4 a22_5 w hz hc
  · exact allLen (fun b s hb hg => tabS_ok (op := 23) hb h hg) a23_0 a23_1 a23_2 a23_3 a23_4 a23_5 w hz hc
  · exact allLen (fun b s hb hg => tabS_ok (op := 24) hb h hg) a24_0 a24_1 a24_2 a24_3 a24_4 a24_5 w hz hc
  · exact allLen (fun b s hb hg => tabS_ok (op := 25) hb h hg) a25_0 a25_1 a25_2 a25_3 a25_4 a25_5 w hz hc
  · exact allLen (fun b s hb hg => tabS_ok (op := 26) hb h hg) a26_0 a26_1 a26_2 a26_3 a26_4 a26_5 w hz hc
  · exact allLen (fun b s hb hg => tabS_ok (op := 27) hb h hg) a27_0 a27_1 a27_2 a27_3 a27_4 a27_5 w hz hc
  · exact allLen (fun b s hb hg => tabS_ok (op := 28) hb h hg) a28_0 a28_1 a28_2 a28_3 a28_4 a28_5 w hz hc
  · exact allLen (fun b s hb hg => tabS_ok (op := 29) hb h hg) a29_0 a29_1 a29_2 a29_3 a29_4 a29_5 w hz hc
  · exact allLen (fun b s hb hg => tabS_ok (op := 30) hb h hg) a30_0 a30_1 a30_2 a30_3 a30_4 a30_5 w hz hc
  · exact allLen (fun b s hb hg => tabS_ok (op := 31) hb h hg) a31_0 a31_1 a31_2 a31_3 a31_4 a31_5 w hz hc
  · exact allLen (fun b s hb hg => tabS_ok (op := 32) hb h hg) a32_0 a32_1 a32_2 a32_3 a32_4 a32_5 w hz hc
  · exact allLen (fun b s hb hg => tabS_ok (op := 33) hb h hg) a33_0 a33_1 a33_2 a33_3 a33_4 a33_5 w hz hc
  · exact allLen (fun b s hb hg => tabS_ok (op := 34) hb h hg) a34_0 a34_1 a34_2 a34_3 a34_4 a34_5 w hz hc
  · exact allLen (fun b s hb hg => tabS_ok (op := 35) hb h hg) a35_0 a35_1 a35_2 a35_3 a35_4 a35_5 w hz hc
  · exact allLen (fun b s hb hg => tabS_ok (op := 36) hb h hg) a36_0 a36_1 a36_2 a36_3 a36_4 a36_5 w hz hc
  · exact allLen (fun b s hb hg => tabS_ok (op := 37) hb h hg) a37_0 a37_1 a37_2 a37_3 a37_4 a37_5 w hz hc
  · exact allLen (fun b s hb hg => tabS_ok (op := 38) hb h hg) a38_0 a38_1 a38_2 a38_3 a38_4 a38_5 w hz hc
  · exact allLen (fun b s hb hg => tabS_ok (op := 39) hb h hg) a39_0 a39_1 a39_2 a39_3 a39_4 a39_5 w hz hc
  · exact allLen (fun b s hb hg => tabS_ok (op := 40) hb h hg) a40_0 a40_1 a40_2 a40_3 a40_4 a40_5 w hz hc
  · exact allLen (fun b s hb hg => tabS_ok (op := 41) hb h hg) a41_0 a41_1 a41_2 a41_3 a41_4 a41_5 w hz hc
  · exact allLen (fun b s hb hg => tabS_ok (op := 42) hb h hg) a42_0 a42_1 a42_2 a42_3 a42_4 a42_5 w hz hc
  · exact allLen (fun b s hb hg => tabS_ok (op := 43) hb h hg) a43_0 a43_1 a43_2 a43_3 a43_4 a43_5 w hz hc
  · exact allLen (fun b s hb hg => tabS_ok (op := 44) hb h hg) a44_0 a44_1 a44_2 a44_3 a44_4 a44_5 w hz hc
  · exact allLen (fun b s hb hg => tabS_ok (op := 45) hb h hg) a45_0 a45_1 a45_2 a45_3 a45_4 a45_5 w hz hc
theorem lifted (os : Os) (started : os.Started) (H : Type) (enc : TypeId × Value → H) :
    ReturnsInHanded {} Tryz.checked os 3 .any (fun w args => (Rows.stepEffectsSpec.pre enc Tryz.prog Tryz.f3 Rows.stepEffectsRow.domain false w args ∧ laidMetH Tryz.prog laid3 w) ∧ sizedMet enc Tryz.prog Tryz.f3 (OpenSpec.ofChange Rows.stepEffectsSpec) false w args)
      (Rows.stepEffectsSpec.post enc Tryz.prog Tryz.f3 false true false false) := by
  refine returnsInHanded_of_change_and (C := Tryz.checked) (X := fun w _ => laidMetH Tryz.prog laid3 w) (fun _ _ _ hh h => h.of_heap hh) own started (by kernel_rfl) Tryz.func3
    (ChangeSpec.witness_shaped (enc := enc) (C := Tryz.checked) (os := os) (X := fun w _ => laidMetH Tryz.prog laid3 w) false (start os) #[.int .i64 0, .slice none 0 0] 8 (start_os os) (start_shaped os _) (by kernel_rfl) (by kernel_rfl) (by kernel_rfl) (start_met os _)) ?_
  intro W base args ds gs before hval0 hW _ _ hL _
  have hval : ∀ (j : Nat) t v, Tryz.f3.params[j]? = some t → args[j]? = some v → Value.okWide Tryz.prog W .any base t v := hval0
  have hW' := hW
  obtain ⟨p, q, hA0, hV, rfl, hfz, hnd⟩ := hW
  have hA : DataW.TrodAll enc Tryz.prog W 0 (fun _ => true) true Tryz.f3.params.toList args.toList ds p := hA0
  rw [Tryz.params3] at hA hval
  obtain ⟨v0, vs0, d0, ds0, p0, q0, hargs, rfl, rfl, h0, r0⟩ := trodAll_cons hA
  obtain ⟨v1, vs1, d1, ds1, p1, q1, rfl, rfl, rfl, h1, r1⟩ := trodAll_cons r0
  obtain ⟨rfl, rfl, rfl⟩ := trodAll_nil r1
  obtain rfl : args = #[v0, v1] := by cases args; simp_all
  obtain ⟨rfl, rfl⟩ := trodVars_none hV
  obtain ⟨a0, rfl, rfl, rfl, w0⟩ := open_int Tryz.underlying3 (hval 0 3 v0 rfl rfl) h0
  have hops := open_sl Tryz.underlying22 Tryz.underlying3 (by kernel_rfl) (hval 1 22 v1 rfl rfl) h1
  clear hA0 hval0
  simp only [List.append_nil, List.nil_append] at hW'
  rcases hops with ⟨rfl, hsh⟩ | ⟨a, len, cap, zs, rfl, hz, hc, hsh⟩
  · refine (walkN a0 W).mono fun e W' ⟨he, hg⟩ => ?_
    subst he
    exact ⟨_, rfl, _, _, _, [], _, [], hW', trodAll_cons_mk (shut_bool Tryz.underlying4 _) trodAll_mk0, trodAll_cons_mk (shut_int Tryz.underlying3 w0) (trodAll_cons_mk (hsh W' _) trodAll_mk0), rfl, kept hg _, fun h => by cases h⟩
  · refine (walkS a0 W hz hc).mono fun e W' ⟨he, hg⟩ => ?_
    subst he
    exact ⟨_, rfl, _, _, _, [], _, [], hW', trodAll_cons_mk (shut_bool Tryz.underlying4 _) trodAll_mk0, trodAll_cons_mk (shut_int Tryz.underlying3 w0) (trodAll_cons_mk (hsh W' _ (fun b hb => by simpa using hb) fun i hi => cells_kept hg (hc i hi)) trodAll_mk0), rfl, kept hg _, fun h => by cases h⟩
theorem over : Rows.stepEffectsRow.holds Tryz.pinned (OpenSpec.ofChange Rows.stepEffectsSpec) :=
  OpenClaim.holds_of_wide 3 Tryz.f3 rfl rfl rfl rfl rfl rfl rfl ⟨rfl, rfl, rfl, rfl, rfl⟩ rfl rfl rfl rfl rfl named Tryz.func3 joined inst wrap
    (fun os started H enc _ => lifted os started H enc)
/-- the statement -/
theorem proved : Rows.StepEffectsCardSaid :=
  Claim7.holds_tied_plain_at .later [] [.data, .handle, .pinned] true (true, "7f3fdfcadee9000e31ea652b6bb3a76b25de209ffe07a31f02ab8af684cf41fe") true over (fun _ h => by cases h) fact1 (fun _ h => by cases h) stepEffects_row_tie rfl ⟨rfl, rfl⟩ fact2 rfl
    (fun f fn hf hfn => by
      obtain rfl : f = 3 := Option.some.inj (named.symm.trans hf) |>.symm
      obtain rfl : fn = Tryz.f3 := (Option.some.inj (Tryz.func3.symm.trans hfn)).symm
      exact ⟨fact3, fun j t ht => by
        rw [Tryz.params3] at ht
        have hm : t ∈ [3, 22] := by have := Array.mem_of_getElem? ht; simp at this; first | (rcases this with rfl | rfl <;> simp) | (subst this; simp)
        exact (show Tryz.prog.wantsStandIn t = false by simpa using List.all_eq_true.1 fact5 t hm)⟩)
    fact4
end Go.Proofs.YtpalciklgbabeaaGreatDoor.stepEffects
