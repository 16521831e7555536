import Derived.Test.YtlkiacbmbfmlpaaK0
import Derived.Test.YtlkiacbmbfmlpaaCF0
import Derived.ProofKit
/- MapsBack answers true at every argument, and leaves memory as it was. Conditions: none of its own. -/
namespace Go.Proofs.Ytlkiacbmbfmlpaa.mapsBack
open Go Ev Go.ChangeShapes Go.WideShapes Go.ChangeAt Go.RowKit
set_option maxRecDepth 100000
set_option linter.unusedVariables false
set_option linter.unusedSimpArgs false
theorem own : ownKnob Try.prog.godebug = none := by kernel_rfl
theorem laidOut : laidOutB Try.prog = true := by kernel_rfl
theorem lifted (os : Os) (started : os.Started) (H : Type) (enc : TypeId × Value → H) :
    ReturnsInHanded {} Try.checked os 4 .any (Rows.mapsBackSpec.pre6 enc Try.prog Try.f4 Rows.mapsBackRow.domain false) (Rows.mapsBackSpec.post enc Try.prog Try.f4 false true false false) := by
  refine returnsInHanded_of_change (C := Try.checked) own started (by kernel_rfl) Try.func4
    (ChangeSpec.witness6 (enc := enc) (C := Try.checked) false ⟨#[], #[.slice none 0 0, .slice none 0 0], []⟩ 8 (by kernel_rfl) (by kernel_rfl) (by kernel_rfl) (by kernel_rfl)) ?_
  intro W base args ds gs before hval0 hW hcnd _
  have hval : ∀ (j : Nat) t v, Try.f4.params[j]? = some t → args[j]? = some v → Value.okWide Try.prog W .any base t v := hval0
  have hW' := hW
  obtain ⟨p, q, hA0, hV, rfl, hfz, hnd⟩ := hW
  have hA : DataW.TrodAll enc Try.prog W 0 (fun _ => true) true Try.f4.params.toList args.toList ds p := hA0
  rw [Try.params4] at hA hval
  obtain ⟨v0, v1, d0, d1, p0, p1, rfl, rfl, rfl, h0, h1⟩ := trodAll_two hA
  obtain ⟨rfl, rfl⟩ := trodVars_none hV
  obtain ⟨a0, n0, c0, rfl⟩ := okWide_slice Try.underlying22 (hval 0 22 v0 rfl rfl)
  obtain ⟨a1, n1, c1, rfl⟩ := okWide_slice Try.underlying23 (hval 1 23 v1 rfl rfl)
  obtain ⟨k0, g0⟩ := id h0
  obtain ⟨k1, g1⟩ := id h1
  obtain ⟨sl, xs, ms, x1, x2, x3, x4⟩ := open_maps Try.underlying22 Try.underlying27 (by kernel_rfl) ⟨rfl, rfl⟩ ⟨rfl, rfl⟩ ⟨rfl, rfl⟩ Try.underlying3 (by kernel_rfl) Try.underlying25 (by kernel_rfl) Try.underlying4 (by kernel_rfl) (v := .slice a0 n0 c0) (by simpa [Value.cells] using g0)
  obtain ⟨sb, bs, y1, y2, y3, y4, y5⟩ := open_bytes Try.underlying23 Try.underlying5 (by kernel_rfl) (v := .slice a1 n1 c1) (by simpa [Value.cells] using g1)
  clear hA0 hval0
  simp only [List.append_nil] at hW'
  refine (law4 (W := W) (@ArgM.mk (wTold W) _ _ _ _ _ x2 x4 y2 x3 y3 y4 y5) x1 y1).mono fun e W' ⟨he, hg⟩ => ?_
  subst he
  have hlt : ∀ x ∈ p0 ++ p1, x.block < W.heap.size := fun x hx => by simpa using hW'.lt x hx
  exact ⟨_, rfl, _, _, _, [], _, [], hW', trodAll_mk1 (shut_bool Try.underlying4 _), trodAll_mk2 (Below.trod laidOut (by kernel_rfl) (of_decide_eq_true (by kernel_rfl)) h0 (below hg) fun x hx => hlt x (by simp [hx])) (Below.trod laidOut (by kernel_rfl) (of_decide_eq_true (by kernel_rfl)) h1 (below hg) fun x hx => hlt x (by simp [hx])), rfl, (below hg).frame _, fun h => by cases h⟩
/-- the statement -/
theorem proved : Rows.MapsBackSaid :=
  OpenClaim.holds_of_wide 4 Try.f4 rfl rfl rfl rfl rfl rfl rfl ⟨rfl, rfl, rfl, rfl, rfl⟩ rfl rfl rfl rfl rfl named Try.func4 joined inst wrap
    (fun os started H enc _ => lifted os started H enc)
end Go.Proofs.Ytlkiacbmbfmlpaa.mapsBack
