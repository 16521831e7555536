import Derived.Test.YtlkiacbmbfmlpaaYT
/- Objects: blocks of which each cell is known. -/
namespace Ev
open Go
variable [Told] [TokV] [ToldOK]
set_option linter.unusedVariables false
set_option linter.unusedSimpArgs false
set_option linter.unusedSectionVars false
set_option maxRecDepth 10000
variable {tab : Bt FnD}
/-- a block whose cells are these -/
def Obj (t : H) (b : Nat) (vs : List AV) : Prop := ∃ c m, t.get b = some (.row m c m 0) ∧ ∀ i v, vs[i]? = some v → c.get i = some ⟨0, v⟩
theorem Obj.cl {t : H} {b : Nat} {vs : List AV} (h : Obj t b vs) {i : Nat} {v : AV} (hv : vs[i]? = some v) : Ev.cl t b 0 i = some v := by
  obtain ⟨c, m, hg, hc⟩ := h
  unfold Ev.cl
  rw [hg]
  show (match c.get i with | some ⟨tag, v⟩ => if tag ≤ 0 then some v else none | none => none) = _
  rw [hc i v hv]; simp
theorem Obj.wok {t : H} {b : Nat} {vs : List AV} (h : Obj t b vs) {i : Nat} (hi : i < vs.length) : Ev.wok t b 0 i := by
  obtain ⟨c, m, hg, hc⟩ := h
  exact ⟨_, _, _, _, hg, hc i _ (List.getElem?_eq_getElem hi)⟩
theorem Obj.get {t t' : H} {b : Nat} {vs : List AV} (h : Obj t b vs) (hg : t'.get b = t.get b) : Obj t' b vs := by unfold Obj; rw [hg]; exact h
theorem Obj.up {t : H} {b i : Nat} {vs : List AV} {v : AV} (h : Obj t b vs) : Obj (up t b i v) b (vs.set i v) := by
  obtain ⟨c, m, hg, hc⟩ := h
  refine ⟨c.set ⟨0, v⟩ i, m, by rw [up_eq hg, M.get_set], fun j x hj => ?_⟩
  rw [Bt.get_set_if]
  rw [List.getElem?_set] at hj
  split at hj
  · rename_i hij
    subst hij
    rw [if_pos rfl]
    split at hj
    · injection hj with hj; rw [hj]
    · cases hj
  · rename_i hij
    rw [if_neg hij]
    exact hc j x hj
theorem Obj.nw {t : H} {l : List AV} {n : Nat} : Obj (nw t l.length l l.length n) n l :=
  ⟨_, _, nw_get, fun i v hv => nw_cell (t := t) (sz := 0) (nc := 0) (n := n) hv⟩
theorem Obj.ldC {t : H} {b : Nat} {vs : List AV} (h : Obj t b vs) (k : K) : pLdC vs.length (.ref 1 b 0 0 0 0) t k = k (.com 0 0 (lst vs)) := by
  obtain ⟨c, m, hg, hc⟩ := h
  have h' : Obj t b vs := ⟨c, m, hg, hc⟩
  show withRow t b (fun _ c _ _ => readC c 0 vs.length 0 fun l => k (.com 0 0 l)) = _
  rw [withRow_ok hg]
  exact readC_ok hg (o := 0) (k := fun l => k (.com 0 0 l)) (fun i x hx => by rw [Nat.zero_add]; exact h'.cl hx)
theorem Obj.stC {t : H} {b : Nat} {vs ws : List AV} (h : Obj t b vs) (hl : ws.length = vs.length) : ∃ t', (∀ k, pSt vs.length (.ref 1 b 0 0 0 0) (.com 0 0 (lst ws)) t k = k t') ∧ Obj t' b ws ∧ ∀ b', b' ≠ b → t'.get b' = t.get b' := by
  obtain ⟨c, m, hg, hc⟩ := h
  refine ⟨t.set (.row m (fillC 0 (lst ws) 0 c) m 0) b, fun k => ?_, ⟨_, m, M.get_set _ _ _, fun i v hv => ?_⟩, fun b' hb' => M.get_set_ne _ _ _ _ (Ne.symm hb')⟩
  · unfold pSt
    show bO (Nat.beq (llen (lst ws)) vs.length) (stAt b 0 0 (lst ws) t k) (.err 54) = _
    rw [llen_lst, hl, Nat.beq_refl]
    show stAt b 0 0 (lst ws) t k = _
    unfold stAt
    rw [withRow_ok hg, Nat.beq_refl]
    show storeC 0 (lst ws) 0 c _ = _
    rw [storeC_ok (fun j hj => by
      rw [Nat.zero_add, hc j _ (List.getElem?_eq_getElem (by omega))]; rfl), hset_eq]
  · rw [fill_get, if_pos (Nat.zero_le _), Nat.sub_zero, hv]
theorem nb_eq (c : Bt Cell) (nc : Nat) (t : H) (n : Nat) (k : KH) : nb c nc t n k = k (.ref 1 n 0 0 0 0) (t.set (.row nc c nc 0) n) (n + 1) := by
  show hset t (.row nc c nc 0) n (fun t' => forceN (Nat.succ n) fun n' => k (.ref 1 n 0 0 0 0) t' n') = _
  rw [hset_eq, forceN_eq]
/-- a new block of the cells of a tree -/
theorem Obj.nb1 {t : H} {n : Nat} {a : AV} : Obj (t.set (.row 1 (.node .leaf (some ⟨0, a⟩) .leaf) 1 0) n) n [a] :=
  ⟨_, _, M.get_set _ _ _, fun i v hv => by
    rcases i with _ | i
    · simp at hv; subst hv; rfl
    · simp at hv⟩
theorem Obj.nb3 {t : H} {n : Nat} {a b c : AV} : Obj (t.set (.row 3 (.node (.node .leaf (some ⟨0, b⟩) .leaf) (some ⟨0, a⟩) (.node .leaf (some ⟨0, c⟩) .leaf)) 3 0) n) n [a, b, c] :=
  ⟨_, _, M.get_set _ _ _, fun i v hv => by
    rcases i with _ | _ | _ | i
    · simp at hv; subst hv; rfl
    · simp at hv; subst hv; rfl
    · simp at hv; subst hv; rfl
    · simp at hv⟩
theorem set_ne {t : H} {o : AO} {n b : Nat} (h : b ≠ n) : (t.set o n).get b = t.get b := M.get_set_ne _ _ _ _ (Ne.symm h)
theorem parts_full3 (a b c x y z : AV) (k : K) : parts1 (.cons a (.cons b (.cons c .nil))) 0 3 (.com 0 0 (.cons x (.cons y (.cons z .nil)))) k = k (.cons x (.cons y (.cons z .nil))) := rfl
theorem eqAt_ok (v : AV) (t : H) (n : Nat) (k : Out) : eqAt (.ok v t n) v k = k := by
  show bO (decide (v = v)) k (.err 5) = _
  rw [decide_eq_true rfl]
/-! ### maps -/
structure MapV where
  at_ : Int
  lo : List Bool
  st : List Bool
/-- the cells of elements: each three -/
inductive Els (t : H) : List AV → List MapV → List Nat → Prop
  | nil : Els t [] [] []
  | cons {a l s : AV} {m : MapV} {xs : List AV} {ms : List MapV} {E : List Nat} (ha : a = .num 3 m.at_) (hl : Sl t 1 l (m.lo.map bV)) (hs : Sl t 1 s (m.st.map bV)) (h : Els t xs ms E) : Els t (a :: l :: s :: xs) (m :: ms) (bk l ++ (bk s ++ E))
theorem Els.get {t t' : H} {xs : List AV} {ms : List MapV} {E : List Nat} (h : Els t xs ms E) (hg : ∀ b ∈ E, t'.get b = t.get b) : Els t' xs ms E := by
  induction h with
  | nil => exact .nil
  | cons ha hl hs h ih => exact .cons ha (hl.get fun b hb => hg b (by simp [hb])) (hs.get fun b hb => hg b (by simp [hb])) (ih fun b hb => hg b (by simp [hb]))
theorem Els.app {t : H} {xs ys : List AV} {ms ns : List MapV} {E G : List Nat} (h : Els t xs ms E) (k : Els t ys ns G) : Els t (xs ++ ys) (ms ++ ns) (E ++ G) := by
  induction h with
  | nil => exact k
  | cons ha hl hs h ih =>
    have := Els.cons ha hl hs ih
    simpa [List.append_assoc] using this
theorem Els.len {t : H} {xs : List AV} {ms : List MapV} {E : List Nat} (h : Els t xs ms E) : xs.length = ms.length * 3 := by
  induction h with
  | nil => rfl
  | cons ha hl hs h ih => simp [ih]; omega
end Ev
