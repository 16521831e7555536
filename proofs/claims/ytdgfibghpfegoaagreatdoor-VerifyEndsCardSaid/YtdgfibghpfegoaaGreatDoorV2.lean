import Derived.Test.YtdgfibghpfegoaaGreatDoorV1
/- An evaluator over abstract values and heaps, and the proof that what it answers the calls of the model answer, on whatever tape: part 2. Conditions: none of its own. -/
set_option linter.unusedVariables false
set_option linter.unusedSimpArgs false
/- Functions, and runs. -/
namespace Ev
open Go
variable {P : Program} {tk : Tok} {L : List Nat} {N : Nat} {ι : Rn} {w w' : World} {g : G} {KK : G}
theorem fillE_get : ∀ (l : AV) (i : Nat) (c : T AV) (k : Nat), (fillE l i c).get k = if i ≤ k then (match (toL l)[k - i]? with | some a => some a | none => c.get k) else c.get k := by
  intro l
  induction l with
  | cons a b _ ih =>
    intro i c k
    show (fillE b (i + 1) (c.set a i)).get k = _
    rw [ih]
    by_cases h1 : i + 1 ≤ k
    · rw [if_pos h1, if_pos (by omega)]
      have : k - i = (k - (i + 1)) + 1 := by omega
      rw [this]
      show _ = match (toL b)[k - (i + 1)]? with | some a => some a | none => c.get k
      cases (toL b)[k - (i + 1)]? with
      | some v => rfl
      | none => exact T.get_set_ne _ _ _ _ (by omega)
    · rw [if_neg h1]
      by_cases h2 : i ≤ k
      · obtain rfl : i = k := by omega
        rw [if_pos h2, Nat.sub_self]
        show _ = some a
        exact T.get_set _ _ _
      · rw [if_neg h2]; exact T.get_set_ne _ _ _ _ (by omega)
  | _ => intro i c k; show c.get k = _; split <;> first | rfl | (simp [toL])
/-- the frame of a call -/
theorem args_tr {a : AV} {args : Array Value} {nt : Nat} (ha : toT ι a = some args.toList) : TR ι (fillE a 0 .leaf) (args ++ Array.replicate nt undef) := by
  intro i v h
  rw [fillE_get, if_pos (Nat.zero_le _), Nat.sub_zero, T.get_leaf] at h
  split at h
  · rename_i u hu
    injection h with h; subst h
    obtain ⟨V, hV, hi⟩ := (toT_some ha).2.2 _ _ hu
    refine ⟨V, hV, ?_⟩
    have hlt := (List.getElem?_eq_some_iff.1 hi).1
    rw [Array.getElem?_append_left (by simpa using hlt)]
    simpa using hi
  · cases h
def resS (tm : Array Value) : ResultVar → Sem Value
  | .tmp t => pure (tm.getD t undef)
  | .cell a t => do loadVar t (← asAddr (tm.getD a undef))
/-- the results -/
theorem res_ok {e : T AV} {t : H} {tm : Array Value} (he : TR ι e tm) (hR : Rel ι (un t KK) w) : ∀ {l : List ResultVar} {rs : List IRes} {K : K} {r : Out}, cRes P l = some rs → NE r → denRes e t rs K = r →
    ∃ v vs, toT ι v = some vs ∧ K v = r ∧ (l.mapM (resS tm)).run P w = .ok vs w
  | [], rs, K, r, hc, hr, h => by
    simp only [cRes, Option.some.injEq] at hc
    subst hc
    exact ⟨.nil, [], rfl, h, rfl⟩
  | .tmp i :: l, rs, K, r, hc, hr, h => by
    simp only [cRes, Option.map_eq_some_iff] at hc
    obtain ⟨rs', hc, rfl⟩ := hc
    obtain ⟨v, hv, h⟩ := V_inv (show V i e _ = r from h) hr
    obtain ⟨x, hx, hi⟩ := he i v hv
    obtain ⟨v2, vs, h1, h2, h3⟩ := res_ok he hR hc hr h
    refine ⟨.cons v v2, x :: vs, by simp [toT, hx, h1], h2, ?_⟩
    have hg : tm.getD i undef = x := by simp [Array.getD_eq_getD_getElem?, hi]
    simp only [List.mapM_cons, resS, Sem.run_bind, Sem.run_pure, Result.andThen_ok, hg, h3]
  | .cell a ty :: l, rs, K, r, hc, hr, h => by
    simp only [cRes] at hc
    split at hc
    · rename_i sz rs' hs ha hc'
      injection hc with hc; subst hc
      obtain ⟨p, hp, h⟩ := V_inv (show V a e _ = r from h) hr
      obtain ⟨x, hx, hi⟩ := he a p hp
      have hg : tm.getD a undef = x := by simp [Array.getD_eq_getD_getElem?, hi]
      obtain ⟨b, ep, off, z, hz, rfl, h⟩ := ptr_val h hr hx
      obtain ⟨sz', c, n, ep', hg', h1⟩ := withRow_inv h hr
      obtain ⟨cs, _, _, hra, _, hcc⟩ := row_at hR (un_get hg') hz
      obtain ⟨l1, vs1, h2, h3, h4, h5, h6⟩ := readC_inv hcc hr h1
      obtain ⟨v2, vs, h7, h8, h9⟩ := res_ok he hR hc' hr h6
      have hld := load_list (P := P) hra h5
      rw [h3] at hld
      refine ⟨_, .agg vs1.toArray :: vs, by rw [toT, toV_agg h2 h4 0, Option.bind_some, h7, Option.map_some], h8, ?_⟩
      simp only [List.mapM_cons, resS, Sem.run_bind, Sem.run_pure, Result.andThen_ok, hg, asAddr, loadVar, run_aggOf ha, run_szOf hs, hld, if_true, h9]
    · rename_i sz rs' hs ha hc'
      injection hc with hc; subst hc
      obtain ⟨p, hp, h⟩ := V_inv (show V a e _ = r from h) hr
      obtain ⟨x, hx, hi⟩ := he a p hp
      have hg : tm.getD a undef = x := by simp [Array.getD_eq_getD_getElem?, hi]
      obtain ⟨b, ep, off, z, hz, rfl, h⟩ := ptr_val h hr hx
      obtain ⟨sz', c, n, ep', hg', h1⟩ := withRow_inv h hr
      obtain ⟨tg, v, hce, htg, h6⟩ := cell_inv h1 hr
      obtain ⟨cs, _, _, hra, _, hcc⟩ := row_at hR (un_get hg') hz
      obtain ⟨V', hV', _, hcs⟩ := hcc _ _ _ hce htg
      obtain ⟨v2, vs, h7, h8, h9⟩ := res_ok he hR hc' hr h6
      have hcell := cell?_row hra off
      rw [hcs] at hcell
      refine ⟨.cons v v2, V' :: vs, by rw [toT, hV', Option.bind_some, h7, Option.map_some], h8, ?_⟩
      simp [List.mapM_cons, resS, hg, asAddr, loadVar, run_aggOf ha, hcell, h9]
    · cases hc
theorem one_ok {v : AV} {vs : List Value} (h : toT ι v = some vs) : toV ι (one v) = some (if h : vs.toArray.size = 1 then vs.toArray[0] else .tuple vs.toArray) := by
  cases v with
  | nil => simp [toT] at h; subst h; simp [one, toV, toT, comV]
  | cons a b =>
    simp only [toT, Option.bind_eq_some_iff, Option.map_eq_some_iff] at h
    obtain ⟨x, hx, r, hr, rfl⟩ := h
    cases b with
    | nil => simp [toT] at hr; subst hr; simpa [one] using hx
    | cons c d =>
      simp only [toT, Option.bind_eq_some_iff, Option.map_eq_some_iff] at hr
      obtain ⟨y, hy, r2, hr2, rfl⟩ := hr
      simp [one, toV, toT, comV, hx, hy, hr2]
    | _ => simp [toT] at hr
  | _ => simp [toT] at h
/-- leaving, past the marks -/
theorem leaves_ok {fn : Func} {tm : Array Value} {R : Ending → World → Prop} {M m : Nat} {w0 : World} : ∀ (rs : List Nat) (w : World), rs.Nodup → (∀ r ∈ rs, M ≤ r ∧ w.heap[r]? = some (.deferred (some [])) ∧ Un ι r) → M = w0.heap.size → (∃ ι0, Frm ι0 w0 w) → Rel ι g w →
    (∀ w', Rel ι g w' → (∀ ι0, Frm ι0 w0 w → Frm ι0 w0 w') → ∃ v, (results fn tm).run P w' = .ok v w' ∧ R (.returned v) w') → LeavesInM Fence.wide m P fn tm R (rs.map mark) .returning w
  | [], w, _, _, _, _, hR, hk => hk w hR (fun _ h => h)
  | r :: rs, w, hn, hrs, hM, hF, hR, hk => by
    obtain ⟨h1, h2, h3⟩ := hrs r (.head _)
    obtain ⟨hn1, hn2⟩ := List.nodup_cons.1 hn
    have hrun : (Instr.takeDeferred r).run P w = .ok [] { w with heap := w.heap.setIfInBounds r (.deferred none) } := by
      simp [Instr.takeDeferred, getObj, setObj, Sem.run, h2]
    refine ⟨by simp, .inl ⟨r, { w with heap := w.heap.setIfInBounds r (.deferred none) }, rfl, hrun, ?_⟩⟩
    have hset : ∀ ι0, Frm ι0 w0 w → Frm ι0 w0 { w with heap := w.heap.setIfInBounds r (.deferred none) } := fun ι0 h => h.setO (by omega)
    refine leaves_ok rs _ hn2 (fun q hq => ?_) hM (hF.imp hset) (hR.setO h3) (fun w' h4 h5 => hk w' h4 (fun ι0 h => h5 ι0 (hset ι0 h)))
    obtain ⟨h4, h5, h6⟩ := hrs q (.tail _ hq)
    refine ⟨h4, ?_, h6⟩
    show (w.heap.setIfInBounds r _)[q]? = _
    rw [Array.getElem?_setIfInBounds_ne (fun e => hn1 (by rw [e]; exact hq))]; exact h5
end Ev
/- Functions, and runs (2). -/
namespace Ev
open Go
variable {P : Program} {tk : Tok} {L : List Nat}
theorem results_ok {fn : Func} {rs : List IRes} {e : T AV} {t : H} {n n' : Nat} {tm : Array Value} {ι : Rn} {KK : G} {w : World} {v : AV} {t' : H} (hc : cRes P fn.results.toList = some rs) (he : TR ι e tm) (hR : Rel ι (un t KK) w) (h : denRes e t rs (fun l => .ok (one l) t n) = .ok v t' n') :
    t' = t ∧ n' = n ∧ ∃ V, toV ι v = some V ∧ (results fn tm).run P w = .ok V w := by
  obtain ⟨l, vs, h1, h2, h3⟩ := res_ok he hR hc ok_ne h
  have h2 : Out.ok (one l) t n = .ok v t' n' := h2
  injection h2 with h4 h5 h6
  subst h4
  refine ⟨h5.symm, h6.symm, _, one_ok h1, ?_⟩
  have h4 : (fn.results.mapM (resS tm)).run P w = .ok vs.toArray w := by
    simp [Array.mapM_eq_mapM_toList, h3]
  have h5 : results fn tm = (do let vs ← fn.results.mapM (resS tm); pure (if h : vs.size = 1 then vs[0] else .tuple vs)) := by
    unfold results
    congr 1
  rw [h5, Sem.run_bind, h4]
  rfl
theorem fn_ok {f : FuncId} {fn : Func} {ifn : IFn} (hm : P.follows .mixedOrders = true) (hf : P.funcs[f]? = some fn) (hc : cFn P L fn = some ifn) {y : Yh} {ih : Ih} {a : AV} {t : H} {n : Nat} {v : AV} {t' : H} {n' : Nat} (hYM : YM y) (hI : IM ih) (hih : IhOK P tk ih)
    (h : denF ifn y ih a t n = .ok v t' n') (K : G) (ι : Rn) (w : World) (args : Array Value) (hyo : YOK P tk y ι w) (hK : KT K n') (hR : Rel ι (un t K) w) (hH : HT t n) (hY : YT ι n) (ha : toT ι a = some args.toList) :
    CallsIn Fence.wide 0 P f args w fun x w' => ∃ V ι', x = .returned V ∧ toV ι' v = some V ∧ PC K ι w t' n' ι' w' := by
  unfold cFn at hc
  split at hc
  · rename_i c rs hb hrs
    split at hc
    · rename_i hcond
      injection hc with hc
      subst hc
      simp only [Bool.and_eq_true, List.all_eq_true, decide_eq_true_eq] at hcond
      obtain ⟨⟨hL, hds⟩, hnp⟩ := hcond
      unfold denF func at h
      obtain ⟨h1, h⟩ := bO_inv h ok_ne
      have h1 : llen a = nparams fn := beq_nat h1
      rw [toT_length ha] at h1
      have h1 : args.size = nparams fn := by simpa using h1
      refine callsIn_of_wp_marks hf hb trivial ?_
      generalize hx : den (cCode P L c) y ih (fillE a 0 .leaf) t n nor = x at h
      have hne : NE x := fun q hq => by subst hq; cases h
      have hi : Iv L fn.ntmps w.heap.size ι (fillE a 0 .leaf) { tmps := args ++ Array.replicate (fn.ntmps - args.size) undef, defers := [] } w := by
        refine ⟨args_tr ha, fun d hd => ?_, ?_, .nil, Nat.le_refl _⟩
        · rw [fillE_get, if_pos (Nat.zero_le _), Nat.sub_zero, T.get_leaf]
          have hlen := (toT_some ha).2.1
          have := hL d hd
          rw [List.getElem?_eq_none (by rw [← hlen]; simp; omega)]
        · simp; omega
      have fin : ∀ {e1 : T AV} {t1 : H} {n1 : Nat}, denRes e1 t1 rs (fun l => .ok (one l) t1 n1) = .ok v t' n' → n' = n1 ∧ ∀ ι' ac' w', PC K ι w t1 n1 ι' w' → Iv L fn.ntmps w.heap.size ι' e1 ac' w' →
          LeavesInM Fence.wide 0 P fn ac'.tmps (fun x w' => ∃ V ι', x = .returned V ∧ toV ι' v = some V ∧ PC K ι w t' n' ι' w') ac'.defers .returning w' := by
        intro e1 t1 n1 h3
        have hn1 : n' = n1 := by
          obtain ⟨l, h4⟩ := h_denRes ok_ne h3
          injection h4 with _ _ h4
          exact h4.symm
        refine ⟨hn1, fun ι' ac' w' hp hi' => ?_⟩
        obtain ⟨rs', k1, k2, k3⟩ := hi'.mks
        rw [k1]
        refine leaves_ok rs' w' k2 k3 rfl ⟨ι, hp.frm⟩ hp.rel fun w'' h5 h6 => ?_
        obtain ⟨rfl, rfl, V, g1, g2⟩ := results_ok hrs hi'.tr h5 h3
        exact ⟨V, g2, V, ι', rfl, g1, h5, hp.ext, h6 ι hp.frm, hp.ht, hp.yt⟩
      have htop : KT K (top x) := by
        cases x with
        | nor e1 t1 n1 => exact (fin h).1 ▸ hK
        | ret e1 t1 n1 => exact (fin h).1 ▸ hK
        | _ => cases h
      refine code_ok (L := L) (N := fn.ntmps) hm c (fun d hd => hds d hd) none 0 w.heap.size y ih (fillE a 0 .leaf) t n nor x K ι w _ _ (.inl rfl) hYM hI hih hyo hne hx nor_top htop hR hH hY hi ?_ ?_
      · intro e1 t1 n1 ι' ac' w' h3 hp hi'
        subst h3
        exact (fin h).2 ι' ac' w' hp hi'
      · intro q e1 t1 n1 ι' ac' w' h3 hp hi'
        rcases h3 with ⟨i, rfl, rfl⟩ | ⟨i, rfl, rfl⟩ | ⟨rfl, rfl⟩
        · cases h
        · cases h
        · exact (fin h).2 ι' ac' w' hp hi'
    · cases hc
  · cases hc
/-- an entry of the table does what the program's function does -/
structure EntOK (P : Program) (tk : Tok) (f : FuncId) (d : FnD) : Prop where
  mono : DMono d
  calls : ∀ (y : Yh) (ih : Ih) (a : AV) (t : H) (n : Nat) (v : AV) (t' : H) (n' : Nat), YM y → IM ih → IhOK P tk ih → d y ih a t n = .ok v t' n' → Enters P f ∧ ∀ (K : G) (ι : Rn) (w : World) (args : Array Value), YOK P tk y ι w → KT K n' → Rel ι (un t K) w → HT t n → YT ι n → toT ι a = some args.toList →
    CallsIn Fence.wide 0 P f args w fun x w' => ∃ V ι', x = .returned V ∧ toV ι' v = some V ∧ PC K ι w t' n' ι' w'
theorem ent_fn {f : FuncId} {fn : Func} {ifn : IFn} (hm : P.follows .mixedOrders = true) (h1 : P.funcs[f]? = some fn) (h2 : (fn.name != "runtime.NumGoroutine") = true) (h3 : cFn P L fn = some ifn) : EntOK P tk f (denF ifn) :=
  ⟨fun y ih a t n v t' n' hY hI h => fn_m ifn hY hI h, fun y ih a t n v t' n' hYM hI hih h => ⟨enters_of h1 (by
    unfold cFn at h3
    split at h3
    · rename_i c rs hb _; rw [hb]; rfl
    · cases h3) h2, fun K ι w args => fn_ok hm h1 h3 hYM hI hih h K ι w args⟩⟩
theorem ent_eq {f : FuncId} {fn : Func} {d : FnD} (hm : P.follows .mixedOrders = true) (h1 : P.funcs[f]? = some fn) (h2 : (fn.name != "runtime.NumGoroutine") = true) (h3 : (cFn P L fn).map denF = some d) : EntOK P tk f d := by
  obtain ⟨ifn, h4, rfl⟩ := Option.map_eq_some_iff.1 h3
  exact ent_fn hm h1 h2 h4
def TabOK (P : Program) (tk : Tok) (tab : T FnD) : Prop := ∀ f d, tab.get f = some d → EntOK P tk f d
/-- what a run gives, the program's call does -/
theorem run_ok {tab : T FnD} (ht : TabOK P tk tab) : ∀ fuel, IhOK P tk (run tab fuel)
  | 0 => fun _ _ _ _ _ _ _ _ _ h => by cases h
  | fuel + 1 => fun y f a t n v t' n' hYM h => by
    have h : tag f (Option.rec (motive := fun _ => Out) (.err 98) (fun d => d y (run tab fuel) a t n) (tab.get f)) = .ok v t' n' := h
    cases hg : tab.get f with
    | none => rw [hg] at h; cases h
    | some d =>
      rw [hg] at h
      have h : tag f (d y (run tab fuel) a t n) = .ok v t' n' := h
      generalize hx : d y (run tab fuel) a t n = x at h
      cases x with
      | ok v1 t1 n1 =>
        have h : Out.ok v1 t1 n1 = .ok v t' n' := h
        injection h with h4 h5 h6
        subst h4; subst h5; subst h6
        exact (ht f d hg).calls _ _ _ _ _ _ _ _ hYM (run_m (fun f d h => (ht f d h).mono) fuel) (run_ok ht fuel) hx
      | _ => cases h
end Ev
/- The table, and what a run of it says of a call. -/
namespace Ev
open Go
variable {P : Program} {tk : Tok}
/-- something of every entry -/
def TA (E : Nat → FnD → Prop) (g : Nat → Nat) (t : T FnD) : Prop := ∀ q d, t.get q = some d → E (g q) d
theorem ta_leaf {E : Nat → FnD → Prop} {g : Nat → Nat} : TA E g .leaf := fun q d h => by rw [T.get_leaf] at h; cases h
theorem ta_node {E : Nat → FnD → Prop} {g : Nat → Nat} {l r : T FnD} {v : Option FnD} (hl : TA E (fun q => g (2 * q + 1)) l) (hv : ∀ d, v = some d → E (g 0) d) (hr : TA E (fun q => g (2 * q + 2)) r) : TA E g (.node l v r) := fun q d h => by
  rw [T.get_node] at h
  split at h
  · rename_i h0; subst h0; exact hv d h
  · split at h
    · have := hl _ _ h
      have e : 2 * (q / 2) + 1 = q := by omega
      simp only [e] at this; exact this
    · have := hr _ _ h
      have e : 2 * (q / 2 - 1) + 2 = q := by omega
      simp only [e] at this; exact this
theorem ta_some {E : Nat → FnD → Prop} {n : Nat} {d : FnD} (h : E n d) : ∀ d', some d = some d' → E n d' := fun d' e => by injection e with e; subst e; exact h
theorem ta_none {E : Nat → FnD → Prop} {n : Nat} : ∀ d', none = some d' → E n d' := fun d' e => by cases e
theorem tab_of {tab : T FnD} (h : TA (EntOK P tk) (fun q => q) tab) : TabOK P tk tab := h
/-- an entry that is told what its function answers where its first argument is an int of which nothing is known -/
def orc (s : FnD) (res : Nat → Int → Option Int) : FnD := fun y ih a t n => match a with
  | .cons (.ref 12 b _ _ _ _) (.cons (.num 3 m) .nil) => match res b m with
    | some j => .ok (.num 3 j) t n
    | none => .err 80
  | a => s y ih a t n
theorem toT_tok {ι : Rn} {b o e l c : Nat} {m x : Int} (h : ι.tok b = some (.i64, x)) : toT ι (.cons (.ref 12 b e o l c) (.cons (.num 3 m) .nil)) = toT ι (.cons (.num 3 x) (.cons (.num 3 m) .nil)) := by
  simp [toT, toV, refV, h, numV, kind]
theorem ent_orc {f : FuncId} {s : FnD} {res : Nat → Int → Option Int} (hs : EntOK P tk f s) (h : ∀ b m j, res b m = some j → ∃ x, tk b = some (.i64, x) ∧ ∀ (y : Yh) (ih : Ih) (t : H) (n : Nat), s y ih (.cons (.num 3 x) (.cons (.num 3 m) .nil)) t n = .ok (.num 3 j) t n) : EntOK P tk f (orc s res) := by
  constructor
  · intro y ih a t n v t' n' hY hI hd
    unfold orc at hd
    split at hd
    · split at hd
      · injection hd with _ _ hd; omega
      · cases hd
    · exact hs.mono _ _ _ _ _ _ _ _ hY hI hd
  · intro y ih a t n v t' n' hY hI hih hd
    unfold orc at hd
    split at hd
    · rename_i b _ _ _ _ m
      split at hd
      · rename_i j hj
        obtain ⟨x, hx, hrun⟩ := h _ _ _ hj
        have hd2 := hrun y ih t n
        rw [hd] at hd2
        obtain ⟨h1, h2⟩ := hs.calls _ _ _ _ _ _ _ _ hY hI hih hd2
        refine ⟨h1, fun K ι w args hyo hK hR hH hYT ha => h2 K ι w args hyo hK hR hH hYT ?_⟩
        rw [← toT_tok (hyo.1 _ _ hx)]; exact ha
      · cases hd
    · exact hs.calls _ _ _ _ _ _ _ _ hY hI hih hd
/-- the start: nothing abstract yet, but ints of which nothing is known -/
def rn0 (tk : Tok) : Rn := ⟨fun _ _ => none, fun _ => none, fun _ => none, tk⟩
theorem rel0 {w : World} : Rel (rn0 tk) (un .leaf fun _ => none) w :=
  ⟨fun b o h => by simp [un, T.get_leaf] at h, fun _ _ => ⟨rfl, fun _ => rfl⟩, fun _ _ _ _ _ _ h => (by cases h), fun _ _ _ h => (by cases h)⟩
/-- does it answer true? -/
noncomputable def isT (o : Out) : Bool := Out.rec (motive := fun _ => Bool) (fun a _ _ => AV.rec (motive := fun _ => Bool) (fun q i => Nat.beq q 8 && ibeq i 1) (fun _ => false) (fun _ _ _ _ _ _ => false) (fun _ _ _ _ => false) false (fun _ _ _ _ => false) a) (fun _ _ _ => false) (fun _ _ _ _ => false) (fun _ _ _ _ => false) (fun _ _ _ => false) (fun _ => false) o
theorem isT_inv {o : Out} (h : isT o = true) : ∃ t n, o = .ok (.num 8 1) t n := by
  cases o with
  | ok a t n =>
    cases a with
    | num q i =>
      have h : (Nat.beq q 8 && ibeq i 1) = true := h
      simp only [Bool.and_eq_true] at h
      obtain rfl := beq_nat h.1
      have h2 := h.2
      unfold ibeq at h2
      cases i with
      | ofNat j => exact ⟨t, n, by rw [beq_nat h2]; rfl⟩
      | negSucc j => cases h2
    | _ => cases h
  | _ => cases h
theorem law_ok {tab : T FnD} {fuel : Nat} {f : FuncId} {a : AV} {args : Array Value} (ht : TabOK P tk tab) (ha : toT (rn0 tk) a = some args.toList) (h : isT (run tab fuel noY f a .leaf 0) = true) (w : World) : Calls P f args w fun e w' => e = .returned (.bool true) ∧ Frm (rn0 tk) w w' := by
  obtain ⟨t, n, h⟩ := isT_inv h
  obtain ⟨_, h2⟩ := run_ok ht fuel _ _ _ _ _ _ _ _ noY_m h
  refine callsIn_wide.1 (CallsIn.mono (h2 (fun _ => none) (rn0 tk) w args (.no fun b x hb => hb) (fun b _ => rfl) rel0 (fun b _ => T.get_leaf b) (fun b _ => rfl) ha) ?_)
  rintro x w' ⟨V, ι', rfl, hV, hp⟩
  have : V = .bool true := by simpa [toV, numV] using hV.symm
  subst this
  exact ⟨rfl, hp.frm⟩
end Ev
