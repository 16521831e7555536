import Derived.Test.YtlkiacbmbfmlpaaYZ6
/- Maps are written: what the bytes are. -/
namespace Ev
open Go
variable [Told] [TokV] [ToldOK]
set_option linter.unusedVariables false
set_option linter.unusedSimpArgs false
set_option linter.unusedSectionVars false
set_option maxRecDepth 10000
set_option maxHeartbeats 1000000
variable {tab : Bt FnD}
def bitN (bits : List Bool) (i : Nat) : Nat := (bits.getD i false).toNat
def vTo (bits : List Bool) (q : Nat) : Nat → Nat
  | 0 => 0
  | j + 1 => 2 * vTo bits q j + bitN bits (8 * q + j)
def encB (bits : List Bool) (q : Nat) : Nat := vTo bits q 8
def encL (bits : List Bool) : List Nat := (List.range ((bits.length + 7) / 8)).map (encB bits)
theorem vTo_lt (bits : List Bool) (q : Nat) : ∀ j, vTo bits q j < 2 ^ j
  | 0 => by simp [vTo]
  | j + 1 => by
    have := vTo_lt bits q j
    have h : bitN bits (8 * q + j) ≤ 1 := by unfold bitN; exact Bool.toNat_le _
    unfold vTo; rw [Nat.pow_succ]; omega
theorem encB_lt (bits : List Bool) (q : Nat) : encB bits q < 256 := vTo_lt bits q 8
theorem encL_len (bits : List Bool) : (encL bits).length = (bits.length + 7) / 8 := by simp [encL]
def wrMap (s : List Nat × Nat) (m : MapV) : List Nat × Nat := wrB (wr1 (wr1 (wr2 s m.at_) (.ofNat m.lo.length)) (.ofNat m.st.length)) (encL (m.lo ++ m.st))
def wrAll (ms : List MapV) : List Nat × Nat := ms.foldl wrMap ([], 0)
def bitsL (ms : List MapV) : List Nat := if (wrAll ms).2 ≠ 0 then [] else (wrAll ms).1
/-- maps of which the rows are not too long -/
def Fit (ms : List MapV) : Prop := ms.length ≤ 2000 ∧ ∀ m ∈ ms, m.lo.length ≤ 300 ∧ m.st.length ≤ 300
theorem wrMap_len {s : List Nat × Nat} {m : MapV} (h : m.lo.length ≤ 300 ∧ m.st.length ≤ 300) : (wrMap s m).1.length ≤ s.1.length + 80 := by
  have h1 := wr2_len (s := s) m.at_
  have h2 := wr1_len (s := wr2 s m.at_) (.ofNat m.lo.length)
  have h3 := wr1_len (s := wr1 (wr2 s m.at_) (.ofNat m.lo.length)) (.ofNat m.st.length)
  have h4 := encL_len (m.lo ++ m.st)
  rw [List.length_append] at h4
  unfold wrMap wrB
  split
  · omega
  · show (_ ++ _ : List Nat).length ≤ _
    rw [List.length_append]; omega
theorem wrs_len {s : List Nat × Nat} : ∀ {ms : List MapV}, (∀ m ∈ ms, m.lo.length ≤ 300 ∧ m.st.length ≤ 300) → (ms.foldl wrMap s).1.length ≤ s.1.length + 80 * ms.length := by
  intro ms
  induction ms generalizing s with
  | nil => intro _; simp
  | cons m ms ih =>
    intro h
    rw [List.foldl_cons]
    have h1 := ih (s := wrMap s m) fun x hx => h x (by simp [hx])
    have h2 := wrMap_len (s := s) (h m (by simp))
    simp; omega
/-- one map's cells -/
theorem Els.nth {t : H} {xs : List AV} {ms : List MapV} {E : List Nat} (h : Els t xs ms E) : ∀ {i : Nat} {m : MapV}, ms[i]? = some m →
    ∃ l s, (xs.drop (i * 3)).take 3 = [.num 3 m.at_, l, s] ∧ Sl t 1 l (m.lo.map bV) ∧ Sl t 1 s (m.st.map bV) ∧ (∀ b ∈ bk l, b ∈ E) ∧ ∀ b ∈ bk s, b ∈ E := by
  induction h with
  | nil => intro i m hm; simp at hm
  | cons ha hl hs h ih =>
    rename_i a l s m0 xs ms E
    intro i m hm
    cases i with
    | zero =>
      simp at hm; subst hm
      exact ⟨l, s, by simp [ha], hl, hs, fun b hb => by simp [hb], fun b hb => by simp [hb]⟩
    | succ i =>
      obtain ⟨l', s', h1, h2, h3, h4, h5⟩ := ih (i := i) (m := m) (by simpa using hm)
      refine ⟨l', s', ?_, h2, h3, fun b hb => by simp [h4 b hb], fun b hb => by simp [h5 b hb]⟩
      rw [show (i + 1) * 3 = i * 3 + 3 by omega]
      simpa using h1
theorem wr1_enc {s : List Nat × Nat} {bits : List Bool} {q : Nat} : wr1 s (.ofNat (encB bits q)) = wrB s [encB bits q] := by
  have := encB_lt bits q
  unfold wr1 wrB
  split
  · rfl
  · rw [if_neg (by rw [Int.ofNat_eq_natCast]; omega)]; rfl
theorem wrB_app {s : List Nat × Nat} {a b : List Nat} : wrB (wrB s a) b = wrB s (a ++ b) := by
  obtain ⟨bs, er⟩ := s
  unfold wrB
  by_cases h : er = 0
  · subst h; simp
  · simp [h]
theorem wrB_nil {s : List Nat × Nat} : wrB s [] = s := by
  unfold wrB
  split
  · rfl
  · rename_i h; rw [List.append_nil]; have : s.2 = 0 := by simpa using h
    rw [← this]
theorem encL_take_succ {bits : List Bool} {q : Nat} (h : q < (bits.length + 7) / 8) : (encL bits).take (q + 1) = (encL bits).take q ++ [encB bits q] := by
  rw [List.take_succ_eq_append_getElem (by rw [encL_len]; exact h)]
  simp [encL]
/-- calls of the document's writers -/
theorem rw_call {F : FnD} {wr : List Nat × Nat → Int → List Nat × Nat} {k f : Nat} (hS : SpecR F wr k tab) {ih : Ih} (hR : Rt tab (k + 1) ih) (hg : tab.get f = some F) {t : H} {n w : Nat} {s : AV} {G : List Nat} {er : Nat} {bs : List Nat} {v : Int} (h : Wtr 1 t n w s G er bs) (hl : bs.length ≤ 900000) :
    ∃ s' t' n' G', (∀ kk, C ih f (.cons (.ref 1 w 0 0 0 0) (.cons (.num 3 v) .nil)) t n kk = kk unit t' n') ∧ Wtr 1 t' n' w s' G' (wr (bs, er) v).2 (wr (bs, er) v).1 ∧ Gr (w :: G) t n t' n' ∧ ∀ b ∈ G', b ∈ G ∨ n ≤ b := by
  obtain ⟨v', t1, n1, hc, rfl, s', F', h1, h2, h3⟩ := call (a := .cons (.ref 1 w 0 0 0 0) (.cons (.num 3 v) .nil)) (t := t) (n := n) hR hg (P := fun v' t' n' => v' = unit ∧ ∃ s' F', Wtr 1 t' n' w s' F' (wr (bs, er) v).2 (wr (bs, er) v).1 ∧ Gr (w :: G) t n t' n' ∧ ∀ b ∈ F', b ∈ G ∨ n ≤ b) fun ih' hR' => by
    obtain ⟨s', t', n', F', q1, q2, q3, q4⟩ := hS (y := noY) (v := v) h hl hR'
    exact ⟨_, t', n', q1, rfl, s', F', q2, q3, q4⟩
  exact ⟨s', t1, n1, F', hc, h1, h2, h3⟩
/-- a writer whose blocks are from some number on -/
structure WtN (ie N0 : Nat) (t : H) (n w : Nat) (st : List Nat × Nat) : Prop where
  ex : ∃ s F, Wtr ie t n w s F st.2 st.1 ∧ ∀ b ∈ F, N0 ≤ b
  lo : N0 ≤ w
theorem WtN.get {ie N0 : Nat} {t t' : H} {n n' w : Nat} {st : List Nat × Nat} (h : WtN ie N0 t n w st) (hn : n ≤ n') (hg : ∀ b, N0 ≤ b → b < n → t'.get b = t.get b) : WtN ie N0 t' n' w st := by
  obtain ⟨⟨s, F, h1, h2⟩, h3⟩ := h
  refine ⟨⟨s, F, h1.get hn fun b hb => ?_, h2⟩, h3⟩
  rcases hb with rfl | hb
  · exact hg b h3 h1.lt
  · exact hg b (h2 b hb) (h1.lf b hb)
end Ev
