import Derived.Test.YtlkiacbmbfmlpaaYZF
import Derived.Test.YtlkiacbmbfmlpaaYZG
import Derived.ChangeSlices
/- Arguments that are slices of bytes, and of maps, are told by the world's own cells. -/
namespace Ev
open Go Go.ChangeShapes Go.WideShapes
set_option linter.unusedVariables false
set_option linter.unusedSimpArgs false
set_option linter.unusedSectionVars false
set_option maxRecDepth 10000
set_option maxHeartbeats 1000000
def spN : Option Nat → Nat
  | none => 0
  | some e => e + 1
theorem spot_spN (s : Option Nat) : spot (spN s) = s := by cases s <;> rfl
def abV : Value → Option AV
  | .int .i64 x => some (.num 3 x)
  | .int .u8 x => some (.num 4 x)
  | .bool b => some (bV b)
  | .slice none 0 0 => some (.ref 2 0 0 0 0 0)
  | .slice (some a) l c => some (.ref 16 a.block (spN a.spot) a.off l c)
  | _ => none
@[reducible] def wTold (W : World) : Told := ⟨fun _ _ _ => none, fun b o => (W.cell? ⟨b, o, none⟩).bind abV⟩
@[reducible] def wTok (W : World) : TokV := ⟨fun _ => none, fun _ => none, fun a => W.cell? a⟩
theorem abV_ok {T : TokV} {x : Value} {v : AV} (h : abV x = some v) : isCell x = true ∧ ∀ ι : Rn, @toV T ι v = some x := by
  unfold abV at h
  split at h
  · injection h with h; subst h; exact ⟨rfl, fun ι => rfl⟩
  · injection h with h; subst h; exact ⟨rfl, fun ι => rfl⟩
  · rename_i b; injection h with h; subst h; exact ⟨rfl, fun ι => by cases b <;> rfl⟩
  · injection h with h; subst h; exact ⟨rfl, fun ι => rfl⟩
  · rename_i a l c; injection h with h; subst h
    refine ⟨rfl, fun ι => ?_⟩
    show some (Value.slice (some ⟨a.block, a.off, spot (spN a.spot)⟩) l c) = _
    rw [spot_spN]
  · cases h
theorem wOK (W : World) : @ToldOK (wTok W) (wTold W) :=
  @ToldOK.mk (wTok W) (wTold W) (fun _ _ _ _ h => by cases h) fun b o v h => by
    have h' : (W.cell? ⟨b, o, none⟩).bind abV = some v := h
    obtain ⟨x, h1, h2⟩ := Option.bind_eq_some_iff.1 h'
    obtain ⟨h3, h4⟩ := abV_ok (T := wTok W) h2
    exact ⟨x, h1, h3, h4⟩
theorem wArg (W : World) (tk : Ev.Tok) : @ArgAt (wTok W) (rn0 tk) W := fun a x hx => ⟨hx, fun _ _ _ h => by cases h⟩
theorem sl_some {W : World} {a : Addr} {len cap sz : Nat} {xs : List AV} (hl : xs.length = len * sz) (hc : len ≤ cap) (hx : ∀ i x, xs[i]? = some x → ∃ y, W.cell? (a.add i) = some y ∧ abV y = some x) (t : H) :
    @Sl (wTold W) t sz (.ref 16 a.block (spN a.spot) a.off len cap) xs := by
  letI : Told := wTold W
  have hsp : xs.length ≠ 0 → a.spot = none := fun h0 => by
    obtain ⟨y, h1, _⟩ := hx 0 xs[0] (by simp)
    unfold World.cell? at h1
    split at h1
    · split at h1
      · cases h1
      · rename_i h; simpa [Addr.add] using h
    · cases h1
  refine Sl.arg hl (fun h0 => by rw [hsp h0]; rfl) (fun i x hi => ?_) hc
  obtain ⟨y, h1, h2⟩ := hx i x hi
  have hs := hsp (by have := (List.getElem?_eq_some_iff.1 hi).1; omega)
  show (W.cell? ⟨a.block, a.off + i, none⟩).bind abV = some x
  rw [show (⟨a.block, a.off + i, none⟩ : Addr) = a.add i from by
    unfold Addr.add
    split
    · rename_i h; subst h; obtain ⟨b, o, s⟩ := a; simp only at hs; subst hs; rfl
    · rfl, h1]
  exact h2
variable {H' : Type} {enc : TypeId × Value → H'} {P : Program} {W : World} {base : Nat} {spare : Nat → Bool} {held : Bool}
def cellB (W : World) (a : Addr) (i : Nat) : Bool := match W.cell? (a.add i) with | some (.bool b) => b | _ => false
def cellN (W : World) (a : Addr) (i : Nat) : Nat := match W.cell? (a.add i) with | some (.int .u8 n) => n.toNat | _ => 0
/-- a slice of truth values is opened -/
theorem open_bools {t e : TypeId} {fuel : Nat} {v : Value} {x : DataW H' × List MemPlace} (ht : P.underlying t = some (.slice e)) (he : P.underlying e = some .bool) (hc : P.cellsOf e = 1) (h : DataW.trod enc P W base spare held fuel t [v] = some x) :
    ∃ (s : AV) (bs : List Bool), abV v = some s ∧ (∀ t, @Sl (wTold W) t 1 s (bs.map bV)) ∧ bk s = [] := by
  rcases DataW.trod_slice ht h with ⟨h0, _⟩ | ⟨a, len, cap, elems, rest, n, _, hv, _, hb, hl, hm, hlen, hel, hsp, hns⟩
  · simp at h0; subst h0
    exact ⟨_, [], rfl, fun t => @Sl.nil (wTold W) t 1, rfl⟩
  · simp at hv; subst hv
    refine ⟨_, (List.range len).map (cellB W a), rfl, fun t => sl_some (xs := ((List.range len).map (cellB W a)).map bV) (by simp) hl (fun i x hi => ?_) t, rfl⟩
    have hil : i < len := by have := (List.getElem?_eq_some_iff.1 hi).1; simpa using this
    have h1 := hel i hil
    rw [List.getElem?_eq_getElem (by omega), hc, Nat.mul_one, Option.bind_eq_some_iff] at h1
    obtain ⟨cs, hcs, h2⟩ := h1
    obtain ⟨b, rfl, _⟩ := DataW.trod_bool he h2
    have h3 := cell_of_cells?_one hcs
    refine ⟨_, h3, ?_⟩
    have e1 : cellB W a i = b := by unfold cellB; rw [h3]
    simp [hil, e1] at hi
    rw [← hi]; rfl
/-- a slice of bytes is opened -/
theorem open_bytes {t e : TypeId} {fuel : Nat} {v : Value} {x : DataW H' × List MemPlace} (ht : P.underlying t = some (.slice e)) (he : P.underlying e = some (.int .u8)) (hc : P.cellsOf e = 1) (h : DataW.trod enc P W base spare held fuel t [v] = some x) :
    ∃ (s : AV) (bs : List Nat), abV v = some s ∧ (∀ t, @Sl (wTold W) t 1 s (bs.map by8)) ∧ bk s = [] ∧ (∀ q e o l c, s ≠ .ref 5 q e o l c) ∧ ∀ x ∈ bs, x < 256 := by
  rcases DataW.trod_slice ht h with ⟨h0, _⟩ | ⟨a, len, cap, elems, rest, n, _, hv, _, hb, hl, hm, hlen, hel, hsp, hns⟩
  · simp at h0; subst h0
    exact ⟨_, [], rfl, fun t => @Sl.nil (wTold W) t 1, rfl, fun _ _ _ _ _ h => (by cases h), fun x hx => (by cases hx)⟩
  · simp at hv; subst hv
    have each : ∀ i, i < len → ∃ z : Int, W.cell? (a.add i) = some (.int .u8 z) ∧ 0 ≤ z ∧ z < 256 := fun i hil => by
      have h1 := hel i hil
      rw [List.getElem?_eq_getElem (by omega), hc, Nat.mul_one, Option.bind_eq_some_iff] at h1
      obtain ⟨cs, hcs, h2⟩ := h1
      obtain ⟨z, rfl, _, hw⟩ := DataW.trod_int he h2
      have h3 := cell_of_cells?_one hcs
      refine ⟨z, h3, ?_⟩
      have hw' : (decide ((0 : Int) ≤ z) && decide (z ≤ 255)) = true := hw
      simp at hw'
      omega
    refine ⟨_, (List.range len).map (cellN W a), rfl, fun t => sl_some (xs := ((List.range len).map (cellN W a)).map by8) (by simp) hl (fun i x hi => ?_) t, rfl, fun _ _ _ _ _ h => (by cases h), fun x hx => ?_⟩
    · have hil : i < len := by have := (List.getElem?_eq_some_iff.1 hi).1; simpa using this
      obtain ⟨z, h3, hz0, hz1⟩ := each i hil
      refine ⟨_, h3, ?_⟩
      have e1 : cellN W a i = z.toNat := by unfold cellN; rw [h3]
      simp [hil, e1] at hi
      rw [← hi]
      show some (AV.num 4 z) = some (.num 4 (.ofNat z.toNat))
      rw [Int.ofNat_eq_natCast, Int.toNat_of_nonneg hz0]
    · obtain ⟨i, hi, rfl⟩ := List.mem_map.1 hx
      obtain ⟨z, h3, hz0, hz1⟩ := each i (by simpa using hi)
      have e1 : cellN W a i = z.toNat := by unfold cellN; rw [h3]
      rw [e1]; omega
end Ev
