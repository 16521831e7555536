import Derived.Test.YtlkiacbmbfmlpaaYZB
/- Two lists of maps are the same. -/
namespace Ev
open Go
variable [Told] [TokV] [ToldOK]
set_option linter.unusedVariables false
set_option linter.unusedSimpArgs false
set_option linter.unusedSectionVars false
set_option maxRecDepth 10000
set_option maxHeartbeats 1000000
variable {tab : Bt FnD}
/-- the place of a field of an element of three cells -/
def fpl (s : AV) (i j : Nat) : AV := match s with
  | .ref 16 b _ o _ _ => .ref 17 b 0 (o + i * 3 + j) 0 0
  | .ref _ b e o _ _ => .ref 1 b e (o + i * 3 + j) 0 0
  | _ => unit
theorem pFad_plc {t : H} {s : AV} {xs : List AV} (h : Sl t 3 s xs) {i j : Nat} {x : AV} (hx : xs[i * 3 + j]? = some x) (k : K) : pFad j (plc 3 s i) k = k (fpl s i j) := by
  have hi := lt_of_get hx
  cases h with
  | nil => simp at hi
  | row hg hb hl hcp hr =>
    rename_i g b e o len cap
    rcases hg with rfl | rfl
    · show forceN (Nat.add (o + i * 3) j) (fun o' => k (.ref 1 b e o' 0 0)) = _
      rw [forceN_eq]; rfl
    · show forceN (Nat.add (o + i * 3) j) (fun o' => k (.ref 1 b e o' 0 0)) = _
      rw [forceN_eq]; rfl
  | arg hl he ha hc =>
    rename_i b e o len cap
    have he := he (by omega)
    subst he
    have e1 : plc 3 (.ref 16 b 0 o len cap) i = .ref 17 b 0 (o + i * 3) 0 0 := by
      show (if i * 3 = 0 then AV.ref 17 b 0 o 0 0 else .ref 17 b 0 (o + i * 3) 0 0) = _
      split
      · rename_i h0; rw [h0]; rfl
      · rfl
    rw [e1]
    show adA b 0 (o + i * 3) j (fun e' o' => k (.ref 17 b e' o' 0 0)) = _
    rw [adA_eq]
    split
    · rename_i h0; subst h0; rfl
    · rfl
  | fin hg => simp at hi
theorem pLd_fpl {t : H} {s : AV} {xs : List AV} (h : Sl t 3 s xs) {i j : Nat} {x : AV} (hx : xs[i * 3 + j]? = some x) (k : K) : pLd (fpl s i j) t k = k x := by
  have hi := lt_of_get hx
  cases h with
  | nil => simp at hi
  | row hg hb hl hcp hr =>
    rename_i g b e o len cap
    have := hr (i * 3 + j) x hx
    rw [← Nat.add_assoc] at this
    rcases hg with rfl | rfl
    · exact pLd1 this
    · exact pLd1 this
  | arg hl he ha hc =>
    rename_i b e o len cap
    show (Option.rec (motive := fun _ => Out) (.err 92) k (Told.ar b (o + i * 3 + j)) : Out) = _
    rw [Nat.add_assoc, ha _ x hx]
  | fin hg => simp at hi
theorem lstr_by8 : ∀ {bs : List Nat} {k : List Nat → Out}, (∀ x ∈ bs, x < 256) → lstr (lst (bs.map by8)) k = k bs
  | [], _, _ => rfl
  | b :: bs, k, h => by
    show bO (Nat.blt b 256) (lstr (lst (bs.map by8)) fun r => k (b :: r)) (.err 61) = _
    rw [blt_t (h b (by simp))]
    exact lstr_by8 fun x hx => h x (by simp [hx])
/-- bytes as a string -/
theorem pB2S_sl {t : H} {s : AV} {bs : List Nat} (h : Sl t 1 s (bs.map by8)) (hx : ∀ x ∈ bs, x < 256) (k : K) : pB2S s t k = k (.str bs) := by
  generalize hxs : bs.map by8 = xs at h
  cases h with
  | nil => have : bs = [] := by simpa using hxs
           subst this; rfl
  | fin hg => have : bs = [] := by simpa using hxs
              subst this
              rcases hg with rfl | rfl <;> rfl
  | row hg hb hl hcp hr =>
    rename_i g b e o len cap
    obtain ⟨c, nc, ep, hgt⟩ := hb
    have e1 : pB2S (.ref g b e o len cap) t k = withRow t b (fun _ c _ _ => readC c e len o fun l => lstr l fun s => k (.str s)) := by
      unfold pB2S
      rcases hg with rfl | rfl <;> rfl
    rw [e1, withRow_ok hgt]
    have := readC_ok hgt (o := o) (k := fun l => lstr l fun s => k (.str s)) hr
    rw [hl, Nat.mul_one] at this
    rw [this, ← hxs]
    exact lstr_by8 hx
  | arg hl he ha hc =>
    rename_i b e o len cap
    show readP b e len o (fun l => lstr l fun s => k (.str s)) = _
    have := readP_ok (b := b) (o := o) (k := fun l => lstr l fun s => k (.str s)) he ha
    rw [hl, Nat.mul_one] at this
    rw [this, ← hxs]
    exact lstr_by8 hx
theorem pNeB_bV (a b : Bool) (k : K) : pNeB (bV a) (bV b) k = k (bL (a ≠ b)) := by cases a <;> cases b <;> rfl
theorem sameB_ok {y : Yh} {ih : Ih} {t : H} {n : Nat} {a b : AV} {as : List Bool} (ha : Sl t 1 a (as.map bV)) (hb : Sl t 1 b (as.map bV)) (hl : as.length ≤ 900000) :
    s29 y ih (.cons a (.cons b .nil)) t n = .ok (.num 8 (.ofNat 1)) t n := by
  have hla : ∀ k : K, pLenL a k = k (.num 3 (.ofNat as.length)) := fun k => by rw [pLenL_sl ha Nat.one_pos, Nat.div_one, List.length_map]
  have hlb : ∀ k : K, pLenL b k = k (.num 3 (.ofNat as.length)) := fun k => by rw [pLenL_sl hb Nat.one_pos, Nat.div_one, List.length_map]
  unfold s29
  simp (iota := false) only [SY, reduceCtorEq, if_false, if_true, Nat.zero_add, hla, hlb, ne_eq, not_true, cLoop_eq]
  generalize hL : loop _ _ _ _ _ _ _ = o
  have key : ∃ e', o = .exit 0 e' t n := by
    rw [← hL]
    refine loop_ind (fun o => ∃ e', o = .exit 0 e' t n)
      (fun m e t1 n1 => t1 = t ∧ n1 = n ∧ ∃ i, i + m = as.length ∧ N16.sel .d5 (row .d0 e) = some (.num 3 (.ofNat i)) ∧ N16.sel .d0 (row .d0 e) = some a ∧ N16.sel .d1 (row .d0 e) = some b)
      ?_ fuelL as.length _ _ _ ⟨rfl, rfl, 0, by omega, ?_⟩ (by unfold fuelL; omega)
    · rintro m e t1 n1 rec ⟨rfl, rfl, i, hi, e5, e0, e1⟩ hrec
      by_cases hlt : i < as.length
      · have hget : (as.map bV)[i]? = some (bV as[i]) := by simp [hlt]
        have hi1 : i * 1 < (as.map bV).length := by simpa using hlt
        have hq : ∀ k : K, q0 (.num 3 (.ofNat i)) (.num 3 (.ofNat 1)) k = k (.num 3 (.ofNat (i + 1))) := fun k => q0_n (by omega)
        simp (iota := false) only [SY, reduceCtorEq, if_false, if_true, Nat.zero_add, e5, e0, e1, hla, hlt, pIad_sl ha hi1, pIad_sl hb hi1, pLd_plc ha hget, pLd_plc hb hget, pNeB_bV, ne_eq, not_true, hq]
        refine hrec (m - 1) _ _ _ (by omega) ⟨rfl, rfl, i + 1, by omega, ?_⟩
        simp (iota := false) only [SY, reduceCtorEq, if_false, if_true, e0, e1, true_and, and_self]
      · have : i = as.length := by omega
        subst this
        simp (iota := false) only [SY, reduceCtorEq, if_false, if_true, e5, e0, hla, Nat.lt_irrefl]
        exact ⟨_, rfl⟩
    · simp (iota := false) only [SY, reduceCtorEq, if_false, if_true, true_and, and_self]
  obtain ⟨e', rfl⟩ := key
  simp (iota := false) only [SY, reduceCtorEq, if_false, if_true]
/-- the cells of an element -/
theorem Els.nth3 {t : H} {xs : List AV} {ms : List MapV} {E : List Nat} (h : Els t xs ms E) {i : Nat} {m : MapV} (hm : ms[i]? = some m) :
    ∃ l s, xs[i * 3]? = some (.num 3 m.at_) ∧ xs[i * 3 + 1]? = some l ∧ xs[i * 3 + 2]? = some s ∧ Sl t 1 l (m.lo.map bV) ∧ Sl t 1 s (m.st.map bV) := by
  obtain ⟨l, s, h1, h2, h3, _, _⟩ := h.nth hm
  refine ⟨l, s, ?_, ?_, ?_, h2, h3⟩
  · have := congrArg (·[0]?) h1
    simpa [List.getElem?_take, List.getElem?_drop] using this
  · have := congrArg (·[1]?) h1
    simpa [List.getElem?_take, List.getElem?_drop] using this
  · have := congrArg (·[2]?) h1
    simpa [List.getElem?_take, List.getElem?_drop] using this
theorem same_ok {y : Yh} {ih : Ih} {t : H} {n : Nat} {a b : AV} {xs ys : List AV} {ms : List MapV} {E G : List Nat} (ha : Sl t 3 a xs) (hb : Sl t 3 b ys) (hE : Els t xs ms E) (hG : Els t ys ms G) (hl : ms.length ≤ 900000) (hm : ∀ m ∈ ms, m.lo.length ≤ 900000 ∧ m.st.length ≤ 900000) (hR : Rt tab 1 ih) (T : TbM tab) :
    s10 y ih (.cons a (.cons b .nil)) t n = .ok (.num 8 (.ofNat 1)) t n := by
  have hxl := hE.len
  have hyl := hG.len
  have hla : ∀ k : K, pLenL a k = k (.num 3 (.ofNat ms.length)) := fun k => by rw [pLenL_sl ha (by omega), hxl, Nat.mul_div_cancel _ (by omega)]
  have hlb : ∀ k : K, pLenL b k = k (.num 3 (.ofNat ms.length)) := fun k => by rw [pLenL_sl hb (by omega), hyl, Nat.mul_div_cancel _ (by omega)]
  unfold s10
  simp (iota := false) only [SY, reduceCtorEq, if_false, if_true, Nat.zero_add, hla, hlb, ne_eq, not_true, cLoop_eq]
  generalize hL : loop _ _ _ _ _ _ _ = o
  have key : ∃ e', o = .exit 0 e' t n := by
    rw [← hL]
    refine loop_ind (fun o => ∃ e', o = .exit 0 e' t n)
      (fun m e t1 n1 => t1 = t ∧ n1 = n ∧ ∃ i, i + m = ms.length ∧ N16.sel .d5 (row .d0 e) = some (.num 3 (.ofNat i)) ∧ N16.sel .d0 (row .d0 e) = some a ∧ N16.sel .d1 (row .d0 e) = some b)
      ?_ fuelL ms.length _ _ _ ⟨rfl, rfl, 0, by omega, ?_⟩ (by unfold fuelL; omega)
    · rintro m e t1 n1 rec ⟨rfl, rfl, i, hi, e5, e0, e1⟩ hrec
      by_cases hlt : i < ms.length
      · have hq : ∀ k : K, q0 (.num 3 (.ofNat i)) (.num 3 (.ofNat 1)) k = k (.num 3 (.ofNat (i + 1))) := fun k => q0_n (by omega)
        obtain ⟨l1, r1, a0, a1, a2, hl1, hr1⟩ := hE.nth3 (i := i) (m := ms[i]) (by simp [hlt])
        obtain ⟨l2, r2, b0, b1, b2, hl2, hr2⟩ := hG.nth3 (i := i) (m := ms[i]) (by simp [hlt])
        have hmi := hm ms[i] (by simp)
        have hi1 : i * 3 < xs.length := by omega
        have hi2 : i * 3 < ys.length := by omega
        obtain ⟨vA, tA, nA, hcA, x1, x2, x3⟩ := call (a := .cons l1 (.cons l2 .nil)) (t := t1) (n := n1) hR T.g29 (P := fun v t' n' => v = .num 8 (.ofNat 1) ∧ t' = t1 ∧ n' = n1) fun ih' hR' => ⟨_, _, _, sameB_ok (y := noY) hl1 hl2 hmi.1, rfl, rfl, rfl⟩
        obtain ⟨vB, tB, nB, hcB, x4, x5, x6⟩ := call (a := .cons r1 (.cons r2 .nil)) (t := t1) (n := n1) hR T.g29 (P := fun v t' n' => v = .num 8 (.ofNat 1) ∧ t' = t1 ∧ n' = n1) fun ih' hR' => ⟨_, _, _, sameB_ok (y := noY) hr1 hr2 hmi.2, rfl, rfl, rfl⟩
        rw [x1, x2, x3] at hcA
        rw [x4, x5, x6] at hcB
        have hnot : ∀ k : K, pNot (.num 8 (.ofNat 1)) k = k (bL False) := fun k => rfl
        simp (iota := false) only [SY, reduceCtorEq, if_false, if_true, Nat.zero_add, e5, e0, e1, hla, hlt, pIad_sl ha hi1, pIad_sl hb hi2, pFad_plc (j := 0) ha a0, pFad_plc (j := 1) ha a1, pFad_plc (j := 2) ha a2, pFad_plc (j := 0) hb b0, pFad_plc (j := 1) hb b1, pFad_plc (j := 2) hb b2, pLd_fpl (j := 0) ha a0, pLd_fpl (j := 1) ha a1, pLd_fpl (j := 2) ha a2, pLd_fpl (j := 0) hb b0, pLd_fpl (j := 1) hb b1, pLd_fpl (j := 2) hb b2, hcA, hcB, ne_eq, not_true, hq, hnot]
        refine hrec (m - 1) _ _ _ (by omega) ⟨rfl, rfl, i + 1, by omega, ?_⟩
        simp (iota := false) only [SY, reduceCtorEq, if_false, if_true, e0, e1, true_and, and_self]
      · have : i = ms.length := by omega
        subst this
        simp (iota := false) only [SY, reduceCtorEq, if_false, if_true, e5, e0, hla, Nat.lt_irrefl]
        exact ⟨_, rfl⟩
    · simp (iota := false) only [SY, reduceCtorEq, if_false, if_true, true_and, and_self]
  obtain ⟨e', rfl⟩ := key
  simp (iota := false) only [SY, reduceCtorEq, if_false, if_true]
end Ev
