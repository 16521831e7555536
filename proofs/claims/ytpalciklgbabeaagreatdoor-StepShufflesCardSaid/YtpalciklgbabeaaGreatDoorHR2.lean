import Derived.Test.YtpalciklgbabeaaGreatDoorER0
import Derived.OpenShut
/- An argument that is a slice of ints is opened, and shut where its cells are as they were. Conditions: none of its own. -/
namespace Go.Proofs.YtpalciklgbabeaaGreatDoor
open Go Ev Go.ChangeShapes Go.WideShapes
set_option linter.unusedVariables false
set_option linter.unusedSimpArgs false
theorem open_sl {H : Type} {enc : TypeId × Value → H} {P : Program} {W : World} {r : Reach} {b0 t e : Nat} {v : Value} {d : DataW H} {ps : List MemPlace} (ht : P.underlying t = some (.slice e)) (he : P.underlying e = some (.int .i64)) (hc : P.cellsOf e = 1)
    (hval : Value.okWide P W r b0 t v) (h : DataW.Trod enc P W 0 (fun _ => true) true t v d ps) :
    (v = .slice none 0 0 ∧ ∀ W' (sp : Nat → Bool), DataW.Trod enc P W' 0 sp true t v d ps) ∨
    ∃ (a : Addr) (len cap : Nat) (zs : List Int), v = .slice (some a) len cap ∧ len ≤ cap ∧ len ≤ zs.length ∧ (∀ i, i < zs.length → W.cell? (a.add i) = some (.int .i64 (zs.getD i 0))) ∧
      ∀ W' (sp : Nat → Bool), (∀ b, b < W.heap.size → sp b = true) → (∀ i, i < zs.length → W'.cell? (a.add i) = W.cell? (a.add i)) → DataW.Trod enc P W' 0 sp true t v d ps := by
  obtain ⟨a0, len, cap, rfl⟩ := okWide_slice ht hval
  obtain ⟨fuel, hf⟩ := h
  rcases open_ints ht he hc hf with ⟨hcs, hx⟩ | ⟨a, len', cap', zs, hcs, hb, hle, hmax, hall, hx, hcell, hwf⟩
  · simp [Value.cells] at hcs
    obtain ⟨rfl, rfl, rfl⟩ := hcs
    simp only [Prod.mk.injEq] at hx
    obtain ⟨rfl, rfl⟩ := hx
    exact .inl ⟨rfl, fun W' sp => RowKit.shut_slice_nil ht⟩
  · simp [Value.cells] at hcs
    obtain ⟨rfl, rfl, rfl⟩ := hcs
    simp only [Prod.mk.injEq] at hx
    obtain ⟨rfl, rfl⟩ := hx
    simp only [if_true] at hall
    refine .inr ⟨a, len, cap, zs, rfl, by omega, by omega, hcell, fun W' sp hsp hW => ⟨0 + 2, ?_⟩⟩
    refine shut_ints 0 ht he hc hb hle hmax ?_ (fun i hi => (hW i hi).trans (hcell i hi)) hwf
    by_cases h0 : cap = 0
    · rw [hall, h0]; split <;> omega
    · rw [hall, hsp _ (by
        have h1 := hcell 0 (by omega)
        unfold World.cell? at h1
        split at h1
        · rename_i hc'; have := (Array.getElem?_eq_some_iff.1 hc').1; rwa [show (a.add 0).block = a.block from by simp [Addr.add]] at this
        · cases h1)]; rfl
/-- what no abstract block stands for is as it was -/
theorem cells_kept {tk : Ev.Tok} {W W' : World} (h : Frm (rn0 tk) W W') {a : Addr} {v : Value} {i : Nat} (hv : W.cell? (a.add i) = some v) : W'.cell? (a.add i) = W.cell? (a.add i) := by
  have hb : (a.add i).block < W.heap.size := by
    unfold World.cell? at hv
    split at hv
    · rename_i hc; exact (Array.getElem?_eq_some_iff.1 hc).1
    · cases hv
  unfold World.cell?
  rw [h.block _ hb (fun _ _ _ h => by cases h) (fun _ _ h => by cases h)]
end Go.Proofs.YtpalciklgbabeaaGreatDoor
