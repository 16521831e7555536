import Derived.Test.YtlkiacbmbfmlpaaYZH
import Derived.ChangeArms
/- An argument that is a slice of maps is opened. -/
namespace Ev
open Go Go.ChangeShapes Go.WideShapes
set_option linter.unusedVariables false
set_option linter.unusedSimpArgs false
set_option linter.unusedSectionVars false
set_option maxRecDepth 10000
set_option maxHeartbeats 1000000
variable {H' : Type} {enc : TypeId × Value → H'} {P : Program} {W : World} {base : Nat} {spare : Nat → Bool} {held : Bool}
theorem open_maps {t e tb te ti : TypeId} {f0 f1 f2 : Field} {fuel : Nat} {v : Value} {x : DataW H' × List MemPlace} (ht : P.underlying t = some (.slice e)) (he : P.underlying e = some (.struct #[f0, f1, f2])) (hc : P.cellsOf e = 3)
    (hf0 : f0.offset = 0 ∧ f0.type = ti) (hf1 : f1.offset = 1 ∧ f1.type = tb) (hf2 : f2.offset = 2 ∧ f2.type = tb) (hti : P.underlying ti = some (.int .i64)) (hci : P.cellsOf ti = 1) (htb : P.underlying tb = some (.slice te)) (hcb : P.cellsOf tb = 1) (hte : P.underlying te = some .bool) (hce : P.cellsOf te = 1)
    (h : DataW.trod enc P W base spare held fuel t [v] = some x) :
    ∃ (s : AV) (xs : List AV) (ms : List MapV), abV v = some s ∧ (∀ t, @Sl (wTold W) t 3 s xs) ∧ bk s = [] ∧ ∀ t, @Els (wTold W) t xs ms [] := by
  letI : Told := wTold W
  letI : TokV := wTok W
  haveI : ToldOK := wOK W
  rcases DataW.trod_slice ht h with ⟨h0, _⟩ | ⟨a, len, cap, elems, rest, n, _, hv, _, hb, hl, hm, hlen, hel, hsp, hns⟩
  · simp at h0; subst h0
    exact ⟨_, [], [], rfl, fun t => .nil, rfl, fun t => .nil⟩
  · simp at hv; subst hv
    have each : ∀ i, i < len → ∃ (z : Int) (y1 y2 : Value) (s1 s2 : AV) (b1 b2 : List Bool), W.cell? (a.add (i * 3)) = some (.int .i64 z) ∧ W.cell? (a.add (i * 3 + 1)) = some y1 ∧ W.cell? (a.add (i * 3 + 2)) = some y2 ∧ abV y1 = some s1 ∧ abV y2 = some s2 ∧
        (∀ t, Sl t 1 s1 (b1.map bV)) ∧ (∀ t, Sl t 1 s2 (b2.map bV)) ∧ bk s1 = [] ∧ bk s2 = [] := fun i hil => by
      have h1 := hel i hil
      rw [List.getElem?_eq_getElem (by omega), hc, Option.bind_eq_some_iff] at h1
      obtain ⟨cs, hcs, h2⟩ := h1
      obtain ⟨_, hcl, hcell⟩ := World.cells?_some hcs
      obtain ⟨ys, m, _, _, _, hyl, hfs⟩ := DataW.trod_struct he h2
      obtain ⟨c0, c1, c2, rfl⟩ : ∃ c0 c1 c2, cs = [c0, c1, c2] := by
        match cs, hcl with
        | [c0, c1, c2], _ => exact ⟨c0, c1, c2, rfl⟩
      have hyl3 : ys.length = 3 := hyl
      have g0 := hfs 0 f0 rfl
      have g1 := hfs 1 f1 rfl
      have g2 := hfs 2 f2 rfl
      rw [hf0.1, hf0.2, hci, List.getElem?_eq_getElem (by omega)] at g0
      rw [hf1.1, hf1.2, hcb, List.getElem?_eq_getElem (by omega)] at g1
      rw [hf2.1, hf2.2, hcb, List.getElem?_eq_getElem (by omega)] at g2
      obtain ⟨z, hz, _⟩ := DataW.trod_int hti g0
      obtain ⟨s1, b1, p1, p2, p3⟩ := open_bools htb hte hce (v := c1) g1
      obtain ⟨s2, b2, q1, q2, q3⟩ := open_bools htb hte hce (v := c2) g2
      have hz : c0 = .int .i64 z := by simpa using hz
      subst hz
      have add2 : ∀ j, (a.add (i * 3)).add j = a.add (i * 3 + j) := fun j => by
        unfold Addr.add
        by_cases h1 : i * 3 = 0
        · by_cases h2 : j = 0
          · simp [h1, h2]
          · simp [h1, h2]
        · by_cases h2 : j = 0
          · simp [h1, h2]
          · rw [if_neg h2, if_neg h1, if_neg (by omega)]; simp [Nat.add_assoc]
      have k0 := hcell 0 (by omega)
      have k1 := hcell 1 (by omega)
      have k2 := hcell 2 (by omega)
      rw [add2] at k0 k1 k2
      exact ⟨z, c1, c2, s1, s2, b1, b2, k0, k1, k2, p1, q1, p2, q2, p3, q3⟩
    have build : ∀ k, k ≤ len → ∃ (xs : List AV) (ms : List MapV), xs.length = k * 3 ∧ (∀ t, Els t xs ms []) ∧ ∀ i x, xs[i]? = some x → ∃ y, W.cell? (a.add i) = some y ∧ abV y = some x := by
      intro k
      induction k with
      | zero => intro _; exact ⟨[], [], rfl, fun t => .nil, fun i x hi => by simp at hi⟩
      | succ k ih =>
        intro hk
        obtain ⟨xs, ms, i1, i2, i3⟩ := ih (by omega)
        obtain ⟨z, y1, y2, s1, s2, b1, b2, e0, e1, e2, e3, e4, e5, e6, e7, e8⟩ := each k (by omega)
        refine ⟨xs ++ [.num 3 z, s1, s2], ms ++ [⟨z, b1, b2⟩], by simp [i1]; omega, fun t => ?_, fun i x hi => ?_⟩
        · have := (i2 t).app (Els.cons (m := ⟨z, b1, b2⟩) rfl (e5 t) (e6 t) .nil)
          rw [e7, e8] at this
          exact this
        · rw [List.getElem?_append] at hi
          split at hi
          · exact i3 i x hi
          · rename_i hge
            rw [i1] at hge hi
            obtain ⟨j, rfl⟩ : ∃ j, i = k * 3 + j := ⟨i - k * 3, by omega⟩
            rw [Nat.add_sub_cancel_left] at hi
            match j, hi with
            | 0, hi => injection hi with hi; subst hi; exact ⟨_, e0, rfl⟩
            | 1, hi => injection hi with hi; subst hi; exact ⟨_, e1, e3⟩
            | 2, hi => injection hi with hi; subst hi; exact ⟨_, e2, e4⟩
            | j + 3, hi => simp at hi
    obtain ⟨xs, ms, i1, i2, i3⟩ := build len (Nat.le_refl _)
    exact ⟨_, xs, ms, rfl, fun t => sl_some i1 hl i3 t, rfl, i2⟩
end Ev
