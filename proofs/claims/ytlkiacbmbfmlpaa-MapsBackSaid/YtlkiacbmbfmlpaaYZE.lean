import Derived.Test.YtlkiacbmbfmlpaaYZD
/- The laws on maps: what both need. -/
namespace Ev
open Go
variable [Told] [TokV] [ToldOK]
set_option linter.unusedVariables false
set_option linter.unusedSimpArgs false
set_option linter.unusedSectionVars false
set_option maxRecDepth 10000
set_option maxHeartbeats 1000000
variable {tab : Bt FnD}
theorem gd_1f (x : KH → Out) (t : H) (n : Nat) (k : KH) : gd (.num 8 (.ofNat 1)) false x t n k = k unit t n := rfl
theorem gd_1t (x : KH → Out) (t : H) (n : Nat) (k : KH) : gd (.num 8 (.ofNat 1)) true x t n k = x k := rfl
theorem gd_0f (x : KH → Out) (t : H) (n : Nat) (k : KH) : gd (.num 8 (.ofNat 0)) false x t n k = x k := rfl
theorem gd_0t (x : KH → Out) (t : H) (n : Nat) (k : KH) : gd (.num 8 (.ofNat 0)) true x t n k = k unit t n := rfl
theorem pick_1 (a b : AV) (k : K) : pPick (.num 8 (.ofNat 1)) a b k = k a := rfl
theorem pick_0 (a b : AV) (k : K) : pPick (.num 8 (.ofNat 0)) a b k = k b := rfl
theorem not_1 (k : K) : pNot (.num 8 (.ofNat 1)) k = k (.num 8 (.ofNat 0)) := rfl
theorem gB_un (w : Bool) (a b : Out) : gB unit w a b = b := rfl
theorem gB_1t (a b : Out) : gB (.num 8 (.ofNat 1)) true a b = a := rfl
theorem gB_0t (a b : Out) : gB (.num 8 (.ofNat 0)) true a b = b := rfl
theorem bL_true : bL True = .num 8 (.ofNat 1) := bL_t trivial
theorem bL_false : bL False = .num 8 (.ofNat 0) := bL_f id
theorem sbeq_self : ∀ a : List Nat, sbeq a a = true
  | [] => rfl
  | x :: a => by
    show (Bool.rec (motive := fun _ => Bool) false (sbeq a a) (Nat.beq x x) : Bool) = true
    rw [Nat.beq_refl]
    exact sbeq_self a
theorem q18_self (a : List Nat) (k : K) : q18 (.str a) (.str a) k = k (.num 8 (.ofNat 1)) := by
  show pB (sbeq a a) k = _
  rw [sbeq_self]; rfl
theorem wr1_lt {s : List Nat × Nat} {v : Int} (h : ∀ x ∈ s.1, x < 256) : ∀ x ∈ (wr1 s v).1, x < 256 := by
  unfold wr1
  split
  · exact h
  · split
    · exact h
    · intro x hx
      rcases List.mem_append.1 hx with hx | hx
      · exact h x hx
      · simp at hx; omega
theorem wr2_lt {s : List Nat × Nat} {v : Int} (h : ∀ x ∈ s.1, x < 256) : ∀ x ∈ (wr2 s v).1, x < 256 := by
  unfold wr2
  split
  · exact h
  · split
    · exact h
    · intro x hx
      rcases List.mem_append.1 hx with hx | hx
      · exact h x hx
      · simp at hx; omega
theorem wrMap_lt {s : List Nat × Nat} {m : MapV} (h : ∀ x ∈ s.1, x < 256) : ∀ x ∈ (wrMap s m).1, x < 256 := by
  have h3 := wr1_lt (v := .ofNat m.st.length) (wr1_lt (v := .ofNat m.lo.length) (wr2_lt (v := m.at_) h))
  unfold wrMap
  generalize wr1 (wr1 (wr2 s m.at_) (.ofNat m.lo.length)) (.ofNat m.st.length) = S at *
  unfold wrB
  split
  · exact h3
  · intro x hx
    rcases List.mem_append.1 hx with hx | hx
    · exact h3 x hx
    · unfold encL at hx
      obtain ⟨q, _, rfl⟩ := List.mem_map.1 hx
      exact encB_lt _ _
theorem wrs_lt : ∀ {ms : List MapV} {s : List Nat × Nat}, (∀ x ∈ s.1, x < 256) → ∀ x ∈ (ms.foldl wrMap s).1, x < 256
  | [], _, h => h
  | m :: ms, s, h => by rw [List.foldl_cons]; exact wrs_lt (wrMap_lt h)
theorem bitsL_lt (ms : List MapV) : ∀ x ∈ bitsL ms, x < 256 := by
  unfold bitsL
  split
  · intro x hx; cases hx
  · exact wrs_lt (by simp)
theorem bitsL_len {ms : List MapV} (h : ∀ m ∈ ms, m.lo.length ≤ 300 ∧ m.st.length ≤ 300) : (bitsL ms).length ≤ 80 * ms.length := by
  unfold bitsL
  split
  · simp
  · have := wrs_len (s := ([], 0)) h
    simpa [wrAll] using this
theorem good_len : ∀ {r : List MapV}, 4 * r.length ≤ (r.flatMap encM).length
  | [] => by simp
  | m :: r => by
    have := good_len (r := r)
    rw [List.flatMap_cons, List.length_append, List.length_cons]
    have : 4 ≤ (encM m).length := by simp [encM]
    omega
/-- calls -/
theorem b1_call {k : Nat} {ih : Ih} (hR : Rt tab (k + 1) ih) (T : TbM tab) (hk : 3 ≤ k) {t : H} {n : Nat} {src : AV} {xs : List AV} {ms : List MapV} {E : List Nat} (h : Sl t 3 src xs) (hE : Els t xs ms E) (hb : ∀ b ∈ bk src, b < n) (hbE : ∀ b ∈ E, b < n) (hfit : Fit ms) :
    ∃ v t' n', (∀ kk, C ih 8 (.cons src .nil) t n kk = kk v t' n') ∧ Sl t' 1 v ((bitsL ms).map by8) ∧ (∀ b ∈ bk v, n ≤ b ∧ b < n') ∧ Gr [] t n t' n' :=
  call (a := .cons src .nil) (t := t) (n := n) hR T.g8 (P := fun v t' n' => Sl t' 1 v ((bitsL ms).map by8) ∧ (∀ b ∈ bk v, n ≤ b ∧ b < n') ∧ Gr [] t n t' n') fun ih' hR' => bits1_ok (y := noY) (ih := ih') h hE hb hbE hfit (hR'.mono hk) T
theorem b2_call {k : Nat} {ih : Ih} (hR : Rt tab (k + 1) ih) (T : TbM tab) (hk : 3 ≤ k) {t : H} {n : Nat} {src : AV} {xs : List AV} {ms : List MapV} {E : List Nat} (h : Sl t 3 src xs) (hE : Els t xs ms E) (hb : ∀ b ∈ bk src, b < n) (hbE : ∀ b ∈ E, b < n) (hfit : Fit ms) :
    ∃ v t' n', (∀ kk, C ih 9 (.cons src .nil) t n kk = kk v t' n') ∧ Sl t' 1 v ((bitsL ms).map by8) ∧ (∀ b ∈ bk v, n ≤ b ∧ b < n') ∧ Gr [] t n t' n' :=
  call (a := .cons src .nil) (t := t) (n := n) hR T.g9 (P := fun v t' n' => Sl t' 1 v ((bitsL ms).map by8) ∧ (∀ b ∈ bk v, n ≤ b ∧ b < n') ∧ Gr [] t n t' n') fun ih' hR' => bits2_ok (y := noY) (ih := ih') h hE hb hbE hfit (hR'.mono hk) T
/-- what Parse's call gives -/
def PCall (ih : Ih) (f : Nat) (s : AV) (t : H) (n : Nat) (bs : List Nat) : Prop :=
  ∃ v t' n' r c xs F E, (∀ kk, C ih f (.cons s .nil) t n kk = kk (.com 1 0 (.cons v (.cons (.num 3 (.ofNat c)) .nil))) t' n') ∧ Parses bs 0 [] r c ∧ PSt n t' n' v r xs F E ∧ Gr [] t n t' n'
theorem p1_call {k : Nat} {ih : Ih} (hR : Rt tab (k + 1) ih) (T : TbM tab) (hk : 5 ≤ k) {t : H} {n : Nat} {s : AV} {bs : List Nat} (h : Sl t 1 s (bs.map by8)) (hb : ∀ b ∈ bk s, b < n) (hx : ∀ x ∈ bs, x < 256) (hl : bs.length ≤ 18000) : PCall ih 6 s t n bs := by
  obtain ⟨v', t', n', hc, v, r, c, xs, F, E, rfl, h1, h2, h3⟩ := call (a := .cons s .nil) (t := t) (n := n) hR T.g6 (P := fun v' t' n' => ∃ v r c xs F E, v' = .com 1 0 (.cons v (.cons (.num 3 (.ofNat c)) .nil)) ∧ Parses bs 0 [] r c ∧ PSt n t' n' v r xs F E ∧ Gr [] t n t' n') fun ih' hR' => by
    obtain ⟨v, t', n', r, c, xs, F, E, q1, q2, q3, q4⟩ := parse_ok (y := noY) (ih := ih') h hb hx hl (hR'.mono hk) T
    exact ⟨_, t', n', q1, v, r, c, xs, F, E, rfl, q2, q3, q4⟩
  exact ⟨v, t', n', r, c, xs, F, E, hc, h1, h2, h3⟩
theorem p2_call {k : Nat} {ih : Ih} (hR : Rt tab (k + 1) ih) (T : TbM tab) (hk : 3 ≤ k) {t : H} {n : Nat} {s : AV} {bs : List Nat} (h : Sl t 1 s (bs.map by8)) (h5 : ∀ b e o l c, s ≠ .ref 5 b e o l c) (hb : ∀ b ∈ bk s, b < n) (hx : ∀ x ∈ bs, x < 256) (hl : bs.length ≤ 18000) : PCall ih 7 s t n bs := by
  obtain ⟨v', t', n', hc, v, r, c, xs, F, E, rfl, h1, h2, h3⟩ := call (a := .cons s .nil) (t := t) (n := n) hR T.g7 (P := fun v' t' n' => ∃ v r c xs F E, v' = .com 1 0 (.cons v (.cons (.num 3 (.ofNat c)) .nil)) ∧ Parses bs 0 [] r c ∧ PSt n t' n' v r xs F E ∧ Gr [] t n t' n') fun ih' hR' => by
    obtain ⟨v, t', n', r, c, xs, F, E, q1, q2, q3, q4⟩ := parse2_ok (y := noY) (ih := ih') h h5 hb hx hl (hR'.mono hk) T
    exact ⟨_, t', n', q1, v, r, c, xs, F, E, rfl, q2, q3, q4⟩
  exact ⟨v, t', n', r, c, xs, F, E, hc, h1, h2, h3⟩
theorem same_call {k : Nat} {ih : Ih} (hR : Rt tab (k + 1) ih) (T : TbM tab) (hk : 1 ≤ k) {t : H} {n : Nat} {a b : AV} {xs ys : List AV} {ms : List MapV} {E G : List Nat} (ha : Sl t 3 a xs) (hb : Sl t 3 b ys) (hE : Els t xs ms E) (hG : Els t ys ms G) (hl : ms.length ≤ 900000) (hm : ∀ m ∈ ms, m.lo.length ≤ 900000 ∧ m.st.length ≤ 900000) :
    ∀ kk, C ih 10 (.cons a (.cons b .nil)) t n kk = kk (.num 8 (.ofNat 1)) t n := by
  obtain ⟨v, t', n', hc, x1, x2, x3⟩ := call (a := .cons a (.cons b .nil)) (t := t) (n := n) hR T.g10 (P := fun v t' n' => v = .num 8 (.ofNat 1) ∧ t' = t ∧ n' = n) fun ih' hR' => ⟨_, _, _, same_ok (y := noY) ha hb hE hG hl hm (hR'.mono hk) T, rfl, rfl, rfl⟩
  rw [x1, x2, x3] at hc
  exact hc
/-- arguments -/
structure ArgM (l b : AV) (xs : List AV) (ms : List MapV) (bs : List Nat) : Prop where
  ql : ∀ t, Sl t 3 l xs
  qe : ∀ t, Els t xs ms []
  qb : ∀ t, Sl t 1 b (bs.map by8)
  lk : bk l = []
  bk : bk b = []
  b5 : ∀ q e o l c, b ≠ .ref 5 q e o l c
  qx : ∀ x ∈ bs, x < 256
end Ev
