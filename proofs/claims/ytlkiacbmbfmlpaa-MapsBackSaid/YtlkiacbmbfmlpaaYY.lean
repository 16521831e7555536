import Derived.Test.YtlkiacbmbfmlpaaYX
/- Maps are read (the document's). -/
namespace Ev
open Go
variable [Told] [TokV] [ToldOK]
set_option linter.unusedVariables false
set_option linter.unusedSimpArgs false
set_option linter.unusedSectionVars false
set_option maxRecDepth 10000
set_option maxHeartbeats 1000000
variable {tab : Bt FnD}
theorem bit_step2 {x r : Nat} (hx : x < 256) (hr : r < 8) (k : K) : q1 (.num 3 (.ofNat 7)) (.num 3 (.ofNat r)) (fun v45 => q9 (by8 x) v45 fun v55 => q5 v55 (.num 4 (.ofNat 1)) fun v65 => q10 v65 (.num 4 (.ofNat 1)) k) = k (bV (x.testBit (7 - r))) := by
  unfold by8
  rw [q1_n (by omega) (by omega), q9_num (by omega) (by omega) (.inl (by omega)), q5_num (by omega), wrap4]
  have h1 : (x / 2 ^ (7 - r)) &&& 1 < 256 := Nat.lt_of_le_of_lt Nat.and_le_right (by omega)
  rw [show (Int.ofNat (x / 2 ^ (7 - r) &&& 1)) % 256 = Int.ofNat (x / 2 ^ (7 - r) &&& 1) by simp only [Int.ofNat_eq_natCast]; omega, q10_4, bL_bV]
  congr 2
  have := bit_shr ⟨x, hx⟩ ⟨r, hr⟩
  simp only [ofN_eq] at *
  rw [Bool.eq_iff_iff, decide_eq_true_eq]
  exact iff_of_eq this
/-- one bool is added to a field of the map -/
theorem fieldApp {t : H} {n m0 i : Nat} {vs : List AV} {s : AV} {xs : List Bool} {F : List Nat} {b : Bool} (hO : Obj t m0 vs) (hi : vs[i]? = some s) (hs : Ow t 1 s (xs.map bV) F) (hm : m0 < n) (hF : ∀ b ∈ F, b < n ∧ b ≠ m0) (hl : xs.length + 1 ≤ 1048576) :
    ∃ s' t' n' F', (∀ k : H → Nat → Out, pRowSl 1 1 (.cons (bV b) .nil) t n (fun v66 t76 n86 => pApp 1 1 s v66 t76 n86 fun v96 t07 n17 => pSt 1 (.ref 1 m0 0 i 0 0) v96 t07 fun t47 => k t47 n17) = k t' n') ∧ Obj t' m0 (vs.set i s') ∧ Ow t' 1 s' ((xs ++ [b]).map bV) F' ∧ Gr (m0 :: F) t n t' n' ∧ ∀ b ∈ F', (b ∈ F ∨ n ≤ b) ∧ b < n' := by
  have hO1 : Ow (nw t 1 [bV b] 1 n) 1 (.ref 3 n 0 0 1 1) [bV b] [n] := own_nw (t := t) (sz := 1) (n := n) (l := [bV b]) (len := 1) (.inl rfl) rfl
  obtain ⟨s', t2, n2, F', hap, hO2, hg2, hF2⟩ := app_ow (bytes := 1) (n := n + 1) (hs.get (t' := nw t 1 [bV b] 1 n) fun b' hb' => nw_ne (by have := (hF b' hb').1; omega)) hO1.sl (by omega) (fun b' hb' => by have := (hF b' hb').1; omega) (by simp; omega)
  have hgm : t2.get m0 = t.get m0 := by rw [hg2.get m0 (by omega) (fun h => (hF m0 h).2 rfl), nw_ne (by omega)]
  have hObj2 := hO.get hgm
  have hil : i < vs.length := lt_of_get hi
  have hne : ∀ b' ∈ F', m0 ≠ b' := fun b' hb' e => by
    subst e
    rcases (hF2 m0 hb').1 with h | h
    · exact (hF m0 h).2 rfl
    · omega
  refine ⟨s', up t2 m0 i s', n2, F', fun k => ?_, hObj2.up, ?_, ⟨by have := hg2.le; omega, fun b' hb' hF' => ?_⟩, fun b' hb' => ⟨?_, (hF2 b' hb').2⟩⟩
  · have := pRowSl_lst (sz := 1) (ln := 1) (l := [bV b]) rfl t n (fun v66 t76 n86 => pApp 1 1 s v66 t76 n86 fun v96 t07 n17 => pSt 1 (.ref 1 m0 0 i 0 0) v96 t07 fun t47 => k t47 n17)
    refine this.trans ((hap _).trans ?_)
    exact pSt1 hO2.ck (hObj2.wok hil)
  · have e : (xs.map bV) ++ [bV b] = (xs ++ [b]).map bV := by simp
    rw [← e]
    exact hO2.get fun b' hb' => get_up_ne (hne b' hb')
  · rw [get_up_ne (fun e => hF' (by simp [e])), hg2.get b' (by omega) (fun h => hF' (by simp [h])), nw_ne (by omega)]
  · rcases (hF2 b' hb').1 with h | h
    · exact .inl h
    · exact .inr (by omega)
/-- the bits up to a place, of the first field, of the second one -/
def loTo (B : List Bool) (lo k : Nat) : List Bool := B.take (min k lo)
def stTo (B : List Bool) (lo st k : Nat) : List Bool := (B.take (min k (lo + st))).drop lo
theorem loTo_lt {B : List Bool} {lo k : Nat} (h : k < lo) (hk : k < B.length) : loTo B lo k ++ [B[k]] = loTo B lo (k + 1) := by
  unfold loTo
  rw [Nat.min_eq_left (by omega), Nat.min_eq_left (by omega), List.take_succ_eq_append_getElem hk]
theorem loTo_ge {B : List Bool} {lo k : Nat} (h : lo ≤ k) : loTo B lo (k + 1) = loTo B lo k := by
  unfold loTo
  rw [Nat.min_eq_right (by omega), Nat.min_eq_right h]
theorem stTo_lt {B : List Bool} {lo st k : Nat} (h : k < lo) : stTo B lo st (k + 1) = stTo B lo st k := by
  unfold stTo
  rw [Nat.min_eq_left (by omega), Nat.min_eq_left (by omega), List.drop_eq_nil_of_le (by rw [List.length_take]; omega), List.drop_eq_nil_of_le (by rw [List.length_take]; omega)]
theorem stTo_mid {B : List Bool} {lo st k : Nat} (h : lo ≤ k) (h2 : k < lo + st) (hk : k < B.length) : stTo B lo st k ++ [B[k]] = stTo B lo st (k + 1) := by
  unfold stTo
  rw [Nat.min_eq_left (by omega), Nat.min_eq_left (by omega), List.take_succ_eq_append_getElem hk, List.drop_append_of_le_length (by rw [List.length_take]; omega)]
theorem stTo_ge {B : List Bool} {lo st k : Nat} (h : lo + st ≤ k) : stTo B lo st (k + 1) = stTo B lo st k := by
  unfold stTo
  rw [Nat.min_eq_right (by omega), Nat.min_eq_right h]
theorem bitsOf_get {R : List Nat} {k : Nat} (hk : k < (bitsOf R).length) : (bitsOf R)[k] = bitAt R k := by simp [bitsOf]
end Ev
