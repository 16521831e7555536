import Derived.Test.YtlkiacbmbfmlpaaYU
/- Maps are read (the program's). -/
namespace Ev
open Go
variable [Told] [TokV] [ToldOK]
set_option linter.unusedVariables false
set_option linter.unusedSimpArgs false
set_option linter.unusedSectionVars false
set_option maxRecDepth 10000
variable {tab : Bt FnD}
/-- one map: an error, or the map and where the next one begins -/
def pstep (bs : List Nat) (p : Nat) : Nat ⊕ (MapV × Nat) :=
  let a := takeN bs p 0 2
  let b := takeN bs a.2.1 a.2.2 1
  let c := takeN bs b.2.1 b.2.2 1
  let d := takeN bs c.2.1 c.2.2 ((numP b.1 + numP c.1 + 7) / 8)
  if d.2.2 ≠ 0 then .inl d.2.2 else if true ∈ (bitsOf d.1).drop (numP b.1 + numP c.1) then .inl 1
  else .inr (⟨.ofNat (numP a.1), ((bitsOf d.1).take (numP b.1 + numP c.1)).take (numP b.1), ((bitsOf d.1).take (numP b.1 + numP c.1)).drop (numP b.1)⟩, d.2.1)
inductive Parses (bs : List Nat) : Nat → List MapV → List MapV → Nat → Prop
  | done {p : Nat} {acc : List MapV} (h : bs.length ≤ p) : Parses bs p acc acc 0
  | bad {p c : Nat} {acc : List MapV} (h : p < bs.length) (hs : pstep bs p = .inl c) : Parses bs p acc [] c
  | more {p p' c : Nat} {acc r : List MapV} {m : MapV} (h : p < bs.length) (hs : pstep bs p = .inr (m, p')) (hr : Parses bs p' (acc ++ [m]) r c) : Parses bs p acc r c
theorem Parses.det {bs : List Nat} {p c c' : Nat} {acc r r' : List MapV} (h : Parses bs p acc r c) : Parses bs p acc r' c' → r = r' ∧ c = c' := by
  induction h with
  | done h =>
    intro k; cases k with
    | done _ => exact ⟨rfl, rfl⟩
    | bad h' _ => omega
    | more h' _ _ => omega
  | bad h hs =>
    intro k; cases k with
    | done _ => omega
    | bad _ hs' => rw [hs] at hs'; injection hs' with e; exact ⟨rfl, e⟩
    | more _ hs' _ => rw [hs] at hs'; cases hs'
  | more h hs hr ih =>
    intro k; cases k with
    | done _ => omega
    | bad _ hs' => rw [hs] at hs'; cases hs'
    | more _ hs' hr' =>
      rw [hs] at hs'; injection hs' with e; injection e with e1 e2; subst e1; subst e2
      exact ih hr'
theorem takeN_er {bs : List Nat} {p er m : Nat} (h : er = 0 ∨ er = 11) : (takeN bs p er m).2.2 = 0 ∨ (takeN bs p er m).2.2 = 11 := by
  unfold takeN
  split
  · exact h
  · split
    · exact .inr rfl
    · exact .inl rfl
theorem takeN_ok {bs : List Nat} {p er m : Nat} (h : (takeN bs p er m).2.2 = 0) : er = 0 ∧ p + m ≤ bs.length + (p - bs.length) ∧ (takeN bs p er m).2.1 = p + m := by
  unfold takeN at *
  split at h
  · rename_i h0; exact absurd h h0
  · rename_i h0
    split at h
    · cases h
    · rename_i h1
      rw [if_neg h0, if_neg h1]
      exact ⟨by simpa using h0, by omega, rfl⟩
theorem pstep_lt {bs : List Nat} {p p' : Nat} {m : MapV} (h : pstep bs p = .inr (m, p')) (hp : p ≤ bs.length) : p < p' ∧ p' ≤ bs.length := by
  unfold pstep at h
  simp only at h
  split at h
  · cases h
  · rename_i h0
    split at h
    · cases h
    · injection h with h; injection h with _ h
      have h0 := Decidable.not_not.1 h0
      obtain ⟨a1, a2, a3⟩ := takeN_ok h0
      obtain ⟨b1, b2, b3⟩ := takeN_ok a1
      obtain ⟨c1, c2, c3⟩ := takeN_ok b1
      obtain ⟨d1, d2, d3⟩ := takeN_ok c1
      rw [a3] at h
      omega
theorem num1 {bs : List Nat} {p er : Nat} (hx : ∀ x ∈ bs, x < 256) : numP (takeN bs p er 1).1 < 256 := by
  have h1 := numP_lt (xs := (takeN bs p er 1).1) fun x h => hx x (takeN_mem h)
  have h2 := takeN_len (bs := bs) (p := p) (er := er) (m := 1)
  have h3 : (256 : Nat) ^ (takeN bs p er 1).1.length ≤ 256 ^ 1 := Nat.pow_le_pow_right (by omega) h2
  omega
theorem newReader_ok {y : Yh} {ih : Ih} {t : H} {n : Nat} {s : AV} {bs : List AV} (h : Sl t 1 s bs) (hb : ∀ b ∈ bk s, b < n) (hl : bs.length ≤ 1048576) (hR : Rt tab 1 ih) (T : TbM tab) :
    ∃ t' n' w s', s11 y ih (.cons s .nil) t n = .ok (.ref 1 w 0 0 0 0) t' n' ∧ Rdr t' n' w s' 0 0 bs ∧ Gr [] t n t' n' ∧ n ≤ w ∧ (∀ b ∈ bk s', n ≤ b) := by
  obtain ⟨s', t1, n1, hc, G, h1, h2, h3⟩ := call (a := .cons s .nil) (t := t) (n := n) hR T.g30 (P := fun v t' n' => ∃ G : List Nat, Ow t' 1 v bs G ∧ Gr [] t n t' n' ∧ ∀ b ∈ G, n ≤ b ∧ b < n') fun ih' hR' => by
    obtain ⟨v, t', n', G, q1, q2, q3, q4⟩ := clone8_ok (y := noY) (ih := ih') (n := n) h hb hl
    exact ⟨v, t', n', q1, G, q2, q3, q4⟩
  have hbox : ∀ k, pBox (.com 0 0 (.cons s' (.cons (.num 3 (.ofNat 0)) (.cons (.num 3 (.ofNat 0)) .nil)))) t1 n1 k = k (.ref 1 n1 0 0 0 0) (nw t1 3 [s', .num 3 (.ofNat 0), .num 3 (.ofNat 0)] 3 n1) (n1 + 1) := fun k => pBox_com [s', .num 3 (.ofNat 0), .num 3 (.ofNat 0)] 0 t1 n1 k
  have hO : Obj (nw t1 3 [s', .num 3 (.ofNat 0), .num 3 (.ofNat 0)] 3 n1) n1 [s', .num 3 (.ofNat 0), .num 3 (.ofNat 0)] := Obj.nw (l := [s', .num 3 (.ofNat 0), .num 3 (.ofNat 0)])
  refine ⟨_, n1 + 1, n1, s', ?_, ⟨hO.cl rfl, hO.cl rfl, hO.cl rfl, hO.wok (by simp), hO.wok (by simp), (h1.get fun b hb => nw_ne (by have := h3 b hb; omega)).sl, h1.n5, by omega, fun b hb => ?_, by simp, by omega⟩, ⟨by have := h2.le; omega, fun b hb _ => by rw [nw_ne (by have := h2.le; omega), h2.get b hb (by simp)]⟩, h2.le, fun b hb => ?_⟩
  · unfold s11
    simp (iota := false) only [SY, reduceCtorEq, if_false, if_true, Nat.zero_add, hc, parts_3_0 h1.ck, parts_full3, hbox]
  · rw [h1.bk] at hb; have := h3 b hb; omega
  · rw [h1.bk] at hb; exact (h3 b hb).1
end Ev
