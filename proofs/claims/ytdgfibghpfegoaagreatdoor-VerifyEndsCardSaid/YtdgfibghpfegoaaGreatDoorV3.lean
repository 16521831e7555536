import Derived.Test.YtdgfibghpfegoaaGreatDoorV2
/- What a call leaves may be forgotten: the evaluator's part 3. Conditions: none of its own. -/
set_option linter.unusedVariables false
set_option linter.unusedSimpArgs false
/- What a call leaves may be forgotten. -/
namespace Ev
open Go
variable {P : Program} {tk : Tok}
theorem mapOk_back {ι ι' : Rn} (hle : ι.le ι') : ∀ (es : ML) (l l' : List MapEntry), MapOk ι es l → MapOk ι' es l' → MapOk ι es l' := by
  intro es
  induction es with
  | nil => intro l l' _ h; exact h
  | cons k v r ih =>
    rintro l l' ⟨x, l1, rfl, h1, h2, h3⟩ ⟨x', l1', rfl, h1', h2', h3'⟩
    have e1 := toV_mono hle _ _ h1
    have e2 := toV_mono hle _ _ h2
    rw [h1'] at e1; injection e1 with e1
    rw [h2'] at e2; injection e2 with e2
    exact ⟨x', l1', rfl, by rw [e1]; exact h1, by rw [e2]; exact h2, ih _ _ h3 h3'⟩
/-- what was there is what it was, read by what stood for it -/
theorem objOk_back {ι ι' : Rn} {w w' : World} {b : Nat} {o : AO} (hle : ι.le ι') (h : ObjOk ι w b o) (h' : ObjOk ι' w' b o) : ObjOk ι w' b o := by
  cases o with
  | row sz c n ep =>
    obtain ⟨g1, g2, g3, g4⟩ := h
    refine ⟨g1, g2, g3, fun e he => ?_⟩
    obtain ⟨rb, cap, cs, k1, k2, k3, k4⟩ := g4 e he
    obtain ⟨rb', cap', cs', k1', k2', k3', k4'⟩ := h'.2.2.2 e he
    have e0 := hle.blk _ _ _ k1
    rw [k1'] at e0; injection e0 with e0; injection e0 with e1 e2; injection e2 with e2 _
    subst e1; subst e2
    refine ⟨rb', cap', cs', k1, k2', k3', fun k tg v hk ht => ?_⟩
    obtain ⟨x, hx, hc, _⟩ := k4 k tg v hk ht
    obtain ⟨x', hx', _, hi'⟩ := k4' k tg v hk ht
    have e3 := toV_mono hle _ _ hx
    rw [hx'] at e3; injection e3 with e3; subst e3
    exact ⟨x', hx, hc, hi'⟩
  | mp es =>
    obtain ⟨g1, r, ents, clock, g2, g3, g4⟩ := h
    obtain ⟨_, r', ents', clock', g2', g3', g4'⟩ := h'
    have e0 := hle.mp _ _ g2
    rw [g2'] at e0; injection e0 with e0; subst e0
    exact ⟨g1, r', ents', clock', g2, g3', mapOk_back hle _ _ _ g4 g4'⟩
/-- an entry that is told what its function answers where nothing is there yet: true; what it has made is forgotten -/
def clo (s : FnD) (n1 : Nat) : FnD := fun y ih a t n => match a, t, n with
  | .nil, .leaf, 0 => .ok (.num 8 1) .leaf n1
  | a, t, n => s y ih a t n
/-- does it answer true, and how far has it counted? -/
noncomputable def isTn (n1 : Nat) (o : Out) : Bool := Out.rec (motive := fun _ => Bool) (fun a _ n => AV.rec (motive := fun _ => Bool) (fun q i => Nat.beq q 8 && (ibeq i 1 && Nat.beq n n1)) (fun _ => false) (fun _ _ _ _ _ _ => false) (fun _ _ _ _ => false) false (fun _ _ _ _ => false) a) (fun _ _ _ => false) (fun _ _ _ _ => false) (fun _ _ _ _ => false) (fun _ _ _ => false) (fun _ => false) o
theorem isTn_inv {o : Out} {n1 : Nat} (h : isTn n1 o = true) : ∃ t, o = .ok (.num 8 1) t n1 := by
  cases o with
  | ok a t n =>
    cases a with
    | num q i =>
      have h : (Nat.beq q 8 && (ibeq i 1 && Nat.beq n n1)) = true := h
      simp only [Bool.and_eq_true] at h
      obtain rfl := beq_nat h.1
      obtain rfl := beq_nat h.2.2
      have h2 := h.2.1
      unfold ibeq at h2
      cases i with
      | ofNat j => exact ⟨t, by rw [beq_nat h2]; rfl⟩
      | negSucc j => cases h2
    | _ => cases h
  | _ => cases h
theorem ent_clo {f : FuncId} {s : FnD} {tab : T FnD} {fuel n1 : Nat} (hs : EntOK P tk f s) (ht : TabOK P tk tab) (h : isTn n1 (run tab fuel noY f .nil .leaf 0) = true) : EntOK P tk f (clo s n1) := by
  obtain ⟨t1, h⟩ := isTn_inv h
  constructor
  · intro y ih a t n v t' n' hY hI hd
    unfold clo at hd
    split at hd
    · injection hd with _ _ hd; omega
    · exact hs.mono _ _ _ _ _ _ _ _ hY hI hd
  · intro y ih a t n v t' n' hY hI hih hd
    unfold clo at hd
    split at hd
    · injection hd with e1 e2 e3
      subst e1; subst e2; subst e3
      obtain ⟨h1, h2⟩ := run_ok ht fuel _ _ _ _ _ _ _ _ noY_m h
      refine ⟨h1, fun K ι w args hyo hK hR hH hYT ha => CallsIn.mono (h2 K ι w args (.no hyo.1) hK hR hH hYT ha) ?_⟩
      rintro x w' ⟨V, ι', rfl, hV, hp⟩
      refine ⟨V, ι, rfl, by simpa [toV, numV] using hV, ⟨fun b o hb => ?_, hR.non, hR.inj, hR.injm⟩, .refl _ _, hp.frm, fun b _ => T.get_leaf b, fun b _ => hYT b (Nat.zero_le _)⟩
      refine objOk_back hp.ext.le (hR.obj b o hb) (hp.rel.obj b o ?_)
      have hb : K b = some o := by simpa [un, T.get_leaf] using hb
      have hlt : n1 ≤ b := by
        rcases Nat.lt_or_ge b n1 with h' | h'
        · rw [hK b h'] at hb; cases hb
        · exact h'
      simp [un, hp.ht b hlt, hb]
    · exact hs.calls _ _ _ _ _ _ _ _ hY hI hih hd
theorem tab_set {tab : T FnD} {f : FuncId} {d : FnD} (ht : TabOK P tk tab) (hd : EntOK P tk f d) : TabOK P tk (tab.set d f) := fun q e h => by
  rw [T.get_set_if] at h
  split at h
  · rename_i hq; injection h with h; subst h; subst hq; exact hd
  · exact ht q e h
end Ev
