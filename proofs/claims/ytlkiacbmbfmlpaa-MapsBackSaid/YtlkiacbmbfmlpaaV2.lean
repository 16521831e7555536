import Derived.Test.YtlkiacbmbfmlpaaV1
import Derived.LoopNIn
import Derived.Laws.IdiomRangeMap
/- An evaluator over abstract values and heaps, and the proof that what it answers the calls of the model answer, on whatever tape: part 2. Conditions: none of its own. -/
set_option linter.unusedVariables false
set_option linter.unusedSimpArgs false
set_option linter.unusedSectionVars false
namespace Ev
open Go
variable [Told] [TokV] [ToldOK]
variable {r : Out} {l e l' e' : T AV} {th : H} {n : Nat} {k : KH} {y : Yh} {ih : Ih}
noncomputable def lk (l e : T AV) (i : Nat) : Option AV := match l.get i with
  | some v => some v
  | none => e.get i
theorem fetch_lk (i : Nat) (k : K) : fetch l e (.t i) k = match lk l e i with | some v => k v | none => .err 1 := by
  show Option.rec (motive := fun _ => Out) (V i e k) k (l.get i) = _
  unfold lk
  cases l.get i with
  | some v => rfl
  | none =>
    show V i e k = _
    unfold V
    cases e.get i <;> rfl
def SameR (R : List Nat) (l e l' e' : T AV) : Prop := ∀ i ∈ R, lk l e i = lk l' e' i
theorem SameR.left {A B : List Nat} (h : SameR (A ++ B) l e l' e') : SameR A l e l' e' := fun i hi => h i (List.mem_append_left _ hi)
theorem SameR.right {A B : List Nat} (h : SameR (A ++ B) l e l' e') : SameR B l e l' e' := fun i hi => h i (List.mem_append_right _ hi)
theorem c_fetch {x : Opd} (h : SameR (opdS x) l e l' e') : fetch l e x = fetch l' e' x := by
  funext k
  cases x with
  | k v => rfl
  | t i => rw [fetch_lk, fetch_lk, h i (by simp [opdS])]
theorem c_fetchO {x : Option Opd} (h : SameR (opdO x) l e l' e') : fetchO l e x = fetchO l' e' x := by
  funext k
  cases x with
  | none => rfl
  | some x => show fetch l e x _ = fetch l' e' x _; rw [c_fetch h]
theorem c_fetchs : ∀ {xs : List Opd}, SameR (opdsS xs) l e l' e' → fetchs l e xs = fetchs l' e' xs
  | [], _ => rfl
  | x :: xs, h => by
    funext k
    show fetch l e x (fun v => fetchs l e xs fun r => k (.cons v r)) = fetch l' e' x (fun v => fetchs l' e' xs fun r => k (.cons v r))
    rw [c_fetch (SameR.left h), c_fetchs (SameR.right h)]
theorem c_parts : ∀ {ps : List (Nat × Nat × Opd)}, SameR (partS ps) l e l' e' → denParts l e ps = denParts l' e' ps
  | [], _ => rfl
  | p :: ps, h => by
    funext z k
    show fetch l e p.2.2 (fun v => parts1 z p.1 p.2.1 v fun z => denParts l e ps z k) = fetch l' e' p.2.2 (fun v => parts1 z p.1 p.2.1 v fun z => denParts l' e' ps z k)
    rw [c_fetch (SameR.left h), c_parts (SameR.right h)]
theorem c_denOp {o : IOp} (h : SameR (iopS o) l e l' e') : denOp y ih o l e th n k = denOp y ih o l' e' th n k := by
  cases o with
  | mv x => simp only [denOp]; rw [c_fetch h]
  | p1 c x => simp only [denOp]; rw [c_fetch h]
  | conv c x => simp only [denOp]; rw [c_fetch h]
  | fad c x => simp only [denOp]; rw [c_fetch h]
  | fld a b c x => simp only [denOp]; rw [c_fetch h]
  | ext c x => simp only [denOp]; rw [c_fetch h]
  | ldC c x => simp only [denOp]; rw [c_fetch h]
  | ld x => simp only [denOp]; rw [c_fetch h]
  | tas c q z x => simp only [denOp]; rw [c_fetch h]
  | mkI c x => simp only [denOp]; rw [c_fetch h]
  | b2s x => simp only [denOp]; rw [c_fetch h]
  | box x => simp only [denOp]; rw [c_fetch h]
  | s2b x => simp only [denOp]; rw [c_fetch h]
  | p2 c a b => simp only [denOp]; rw [c_fetch (SameR.left h), c_fetch (SameR.right h)]
  | iad c a b => simp only [denOp]; rw [c_fetch (SameR.left h), c_fetch (SameR.right h)]
  | look c d q a b => cases c <;> (simp only [denOp]; rw [c_fetch (SameR.left h), c_fetch (SameR.right h)])
  | eqA c d a b => cases c <;> (simp only [denOp]; rw [c_fetch (SameR.left h), c_fetch (SameR.right h)])
  | mkSl c d q a b => simp only [denOp]; rw [c_fetch (SameR.left h), c_fetch (SameR.right h)]
  | st c a b => simp only [denOp]; rw [c_fetch (SameR.left h), c_fetch (SameR.right h)]
  | app c d a b => simp only [denOp]; rw [c_fetch (SameR.left h), c_fetch (SameR.right h)]
  | appZ c d q a b => simp only [denOp]; rw [c_fetch (SameR.left h), c_fetch (SameR.right h)]
  | pick a b c => simp only [denOp]; rw [c_fetch (SameR.left h), c_fetch (SameR.left (SameR.right h)), c_fetch (SameR.right (SameR.right h))]
  | ixb a b => simp only [denOp]; rw [c_fetch (SameR.left h), c_fetch (SameR.right h)]
  | mapDel q a b => simp only [denOp]; rw [c_fetch (SameR.left h), c_fetch (SameR.right h)]
  | mapUpd q a b c => simp only [denOp]; rw [c_fetch (SameR.left h), c_fetch (SameR.left (SameR.right h)), c_fetch (SameR.right (SameR.right h))]
  | build z ps => simp only [denOp]; rw [c_parts h]
  | rowSl a b z ps => simp only [denOp]; rw [c_parts h]
  | slS x lo hi => simp only [denOp]; rw [c_fetch (SameR.left h), c_fetchO (SameR.left (SameR.right h)), c_fetchO (SameR.right (SameR.right h))]
  | slV s x lo hi mx => simp only [denOp]; rw [c_fetch (SameR.left h), c_fetchO (SameR.left (SameR.right h)), c_fetchO (SameR.left (SameR.right (SameR.right h))), c_fetchO (SameR.right (SameR.right (SameR.right h)))]
  | mkF f xs => simp only [denOp]; rw [c_fetchs h]
  | mkB f xs => simp only [denOp]; rw [c_fetchs h]
  | call f xs => simp only [denOp]; rw [c_fetchs h]
  | inv tb x xs => simp only [denOp]; rw [c_fetch (SameR.left h), c_fetchs (SameR.right h)]
  | callv x xs => simp only [denOp]; rw [c_fetch (SameR.left h), c_fetchs (SameR.right h)]
  | alloc z => rfl
  | mkMap => rfl
  | bad w => rfl
noncomputable def pickE (l e : T AV) : List Nat → T AV
  | [] => .leaf
  | i :: R => match lk l e i with
    | some v => (pickE l e R).set v i
    | none => pickE l e R
theorem pickE_get : ∀ (R : List Nat) (i : Nat), (pickE l e R).get i = if i ∈ R then lk l e i else none
  | [], i => by simp [pickE, T.get_leaf]
  | j :: R, i => by
    unfold pickE
    cases hj : lk l e j with
    | some v =>
      simp only
      rw [T.get_set_if, pickE_get R i]
      by_cases hij : j = i
      · subst hij; simp [hj]
      · have : ¬ i = j := fun h => hij h.symm
        simp [hij, this]
    | none =>
      simp only
      rw [pickE_get R i]
      by_cases hij : i = j
      · subst hij; simp [hj]
      · simp [hij]
theorem pickE_lk {R : List Nat} {i : Nat} (hi : i ∈ R) : lk .leaf (pickE l e R) i = lk l e i := by
  unfold lk
  rw [T.get_leaf, pickE_get, if_pos hi]; rfl
def gV (g : AV) (b : Bool) : Bool := match g with
  | .num q (.ofNat 0) => Nat.beq q 8 && !b
  | .num q (.ofNat (_ + 1)) => Nat.beq q 8 && b
  | _ => false
theorem gB_gV (g : AV) (b : Bool) (x z : Out) : gB g b x z = bO (gV g b) x z := by
  cases g with
  | num q i =>
    show bO (Nat.beq q 8) _ z = _
    cases i with
    | ofNat j =>
      cases j with
      | zero =>
        show bO (Nat.beq q 8) (Bool.rec (motive := fun _ => Out) x z b) z = bO (Nat.beq q 8 && !b) x z
        cases Nat.beq q 8 <;> cases b <;> rfl
      | succ j =>
        show bO (Nat.beq q 8) (Bool.rec (motive := fun _ => Out) z x b) z = bO (Nat.beq q 8 && b) x z
        cases Nat.beq q 8 <;> cases b <;> rfl
    | negSucc j => show bO (Nat.beq q 8) z z = z; cases Nat.beq q 8 <;> rfl
  | _ => rfl
theorem gV_ok {ι : Rn} {g : AV} {b : Bool} {V : Value} (hg : toV ι g = some V) : gV g b = true ↔ V = .bool b := by
  have h := gB_ok (r := gB g b (.err 0) (.err 1)) rfl hg
  rw [gB_gV] at h
  cases hb : gV g b <;> rw [hb] at h
  · rcases h with ⟨_, h⟩ | ⟨h, _⟩
    · cases h
    · exact ⟨fun h => (by cases h), fun hV => (h hV).elim⟩
  · rcases h with ⟨h, _⟩ | ⟨_, h⟩
    · exact ⟨fun _ => h, fun _ => rfl⟩
    · cases h
noncomputable def putL (d : Dst) (v : AV) (l : T AV) : T AV := match d with
  | .loc i => l.set v i
  | _ => l
noncomputable def putE (d : Dst) (v : AV) (e : T AV) : T AV := match d with
  | .env i => e.set v i
  | _ => e
theorem put_eq (d : Dst) (v : AV) (f : T AV → T AV → Out) : put d v l e f = f (putL d v l) (putE d v e) := by
  cases d with
  | no => rfl
  | loc i => rfl
  | env i => show T.seq _ _ = _; rw [T.seq_eq]; rfl
structure St where
  l : T AV
  e : T AV
  t : H
  n : Nat
  hs : List H
noncomputable def Wants (o : IOper) (s : St) : Bool := match o.guard with
  | none => true
  | some (q, b) => match lk s.l s.e q with
    | some g => gV g b
    | none => false
structure StepD (y : Yh) (ih : Ih) (o : IOper) (s : St) (v : AV) (s' : St) : Prop where
  hl : s'.l = putL o.dst v s.l
  he : s'.e = putE o.dst v s.e
  hh : s'.hs = if o.heavy = true then s'.t :: s.hs else s.hs
  hg : ∀ q b, o.guard = some (q, b) → ∃ g, lk s.l s.e q = some g
  on : Wants o s = true → denOp y ih o.op s.l s.e s.t s.n okK = .ok v s'.t s'.n
  off : Wants o s = false → v = unit ∧ s'.t = s.t ∧ s'.n = s.n
theorem denOperD_inv {o : IOper} {s : St} {f : AV → T AV → T AV → H → Nat → Out} (hr : NE r) (h : denOperD y ih o s.l s.e s.t s.n f = r) :
    ∃ v l' e' t' n', StepD y ih o s v ⟨l', e', t', n', if o.heavy = true then t' :: s.hs else s.hs⟩ ∧ f v l' e' t' n' = r := by
  unfold denOperD at h
  cases hg : o.guard with
  | none =>
    rw [hg] at h
    obtain ⟨v, t', n', h1, h2⟩ := B_inv hr h
    rw [put_eq] at h2
    exact ⟨v, _, _, t', n', ⟨rfl, rfl, rfl, fun q b h => (by rw [hg] at h; cases h), fun _ => h1, fun h => by simp [Wants, hg] at h⟩, h2⟩
  | some q =>
    obtain ⟨q, b⟩ := q
    rw [hg] at h
    simp only at h
    rw [fetch_lk] at h
    cases hq : lk s.l s.e q with
    | none => rw [hq] at h; exact absurd h.symm (hr _)
    | some g =>
      rw [hq] at h
      obtain ⟨v, t', n', h1, h2⟩ := B_inv hr h
      rw [put_eq] at h2
      have h1 : gB g b (denOp y ih o.op s.l s.e s.t s.n okK) (okK unit s.t s.n) = .ok v t' n' := h1
      rw [gB_gV] at h1
      refine ⟨v, _, _, t', n', ⟨rfl, rfl, rfl, fun q' b' h => ?_, fun hw => ?_, fun hw => ?_⟩, h2⟩
      · rw [hg] at h; injection h with h; injection h with h3 h4; exact ⟨g, by rw [← h3]; exact hq⟩
      · have : gV g b = true := by simpa [Wants, hg, hq] using hw
        rw [this] at h1; exact h1
      · have : gV g b = false := by simpa [Wants, hg, hq] using hw
        rw [this] at h1
        have h1 : Out.ok unit s.t s.n = .ok v t' n' := h1
        injection h1 with h3 h4 h5
        exact ⟨h3.symm, h4.symm, h5.symm⟩
theorem trace_ex : ∀ (os : List IOper) (s : St) (f : T AV → T AV → H → Nat → List H → Out), NE r → denOpsD y ih os s.l s.e s.t s.n s.hs f = r →
    ∃ (S : Nat → St) (V : Nat → AV), S 0 = s ∧ (∀ (j : Nat) o, os[j]? = some o → StepD y ih o (S j) (V j) (S (j + 1))) ∧ f (S os.length).l (S os.length).e (S os.length).t (S os.length).n (S os.length).hs = r
  | [], s, f, _, h => ⟨fun _ => s, fun _ => .nil, rfl, fun j o h => by simp at h, h⟩
  | o :: os, s, f, hr, h => by
    have h : denOperD y ih o s.l s.e s.t s.n (fun _ l e t n => denOpsD y ih os l e t n (match o.heavy with | true => t :: s.hs | false => s.hs) f) = r := h
    obtain ⟨v, l', e', t', n', h1, h2⟩ := denOperD_inv hr h
    have h2 : denOpsD y ih os l' e' t' n' (if o.heavy = true then t' :: s.hs else s.hs) f = r := by
      rw [← h2]; cases o.heavy <;> rfl
    obtain ⟨S, V, h3, h4, h5⟩ := trace_ex os ⟨l', e', t', n', if o.heavy = true then t' :: s.hs else s.hs⟩ f hr h2
    refine ⟨fun j => match j with | 0 => s | j + 1 => S j, fun j => match j with | 0 => v | j + 1 => V j, rfl, ?_, h5⟩
    intro j o' ho'
    cases j with
    | zero =>
      obtain rfl : o = o' := by simpa using ho'
      show StepD y ih o s v (S 0)
      rw [h3]; exact h1
    | succ j => exact h4 j o' (by simpa using ho')
end Ev
namespace Ev
open Go
variable [Told] [TokV] [ToldOK]
variable {P : Program} {L : List Nat} {ops : Array Oper} {y : Yh} {ih : Ih}
theorem inner_bit (acc : Array Nat) (x : Nat) : ∀ (es : List Edge) (s : Nat), (es.foldl (fun s e => if Region.binds .any e then s ||| 2 ^ e.on ||| acc.getD e.on 0 else s) s).testBit x = true →
    s.testBit x = true ∨ ∃ e ∈ es, Region.binds .any e = true ∧ (e.on = x ∨ (acc.getD e.on 0).testBit x = true)
  | [], s, h => .inl h
  | e :: es, s, h => by
    rw [List.foldl_cons] at h
    rcases inner_bit acc x es _ h with h1 | ⟨e', h1, h2, h3⟩
    · split at h1
      · rename_i hb
        rw [Nat.testBit_or, Nat.testBit_or, Nat.testBit_two_pow] at h1
        simp only [Bool.or_eq_true, decide_eq_true_eq] at h1
        rcases h1 with (h1 | h1) | h1
        · exact .inl h1
        · exact .inr ⟨e, .head _, hb, .inl h1⟩
        · exact .inr ⟨e, .head _, hb, .inr h1⟩
      · exact .inl h1
    · exact .inr ⟨e', .tail _ h1, h2, h3⟩
theorem pre_spec {i j : Nat} (h : pre (Region.before ops) i j = true) :
    ∃ o e, ops[j]? = some o ∧ e ∈ o.after ∧ Region.binds .any e = true ∧ (e.on = i ∨ (e.on < j ∧ pre (Region.before ops) i e.on = true)) := by
  have key : (Region.before ops).size = ops.size ∧ ∀ j, j < ops.size → ∀ x, ((Region.before ops).getD j 0).testBit x = true →
      ∃ o e, ops[j]? = some o ∧ e ∈ o.after ∧ Region.binds .any e = true ∧ (e.on = x ∨ (e.on < j ∧ ((Region.before ops).getD e.on 0).testBit x = true)) := by
    unfold Region.before
    refine Array.foldl_induction (motive := fun i (acc : Array Nat) => acc.size = i ∧ ∀ j, j < i → ∀ x, (acc.getD j 0).testBit x = true →
      ∃ o e, ops[j]? = some o ∧ e ∈ o.after ∧ Region.binds .any e = true ∧ (e.on = x ∨ (e.on < j ∧ (acc.getD e.on 0).testBit x = true))) ⟨rfl, fun j hj => by omega⟩ ?_
    rintro ⟨i, hi⟩ acc ⟨h1, h2⟩
    simp only at h1 h2 ⊢
    have old : ∀ (q : Nat) (k : Nat), k < i → (acc.push q).getD k 0 = acc.getD k 0 := fun q k hk => by
      simp only [Array.getD_eq_getD_getElem?, Array.getElem?_push]
      rw [if_neg (by omega)]
    refine ⟨by simp [h1], fun j hj x hx => ?_⟩
    rcases Nat.lt_or_ge j i with hlt | hge
    · rw [old _ _ hlt] at hx
      obtain ⟨o, e, g1, g2, g3, g4⟩ := h2 j hlt x hx
      refine ⟨o, e, g1, g2, g3, ?_⟩
      rcases g4 with g4 | ⟨g4, g5⟩
      · exact .inl g4
      · exact .inr ⟨g4, by rw [old _ _ (by omega)]; exact g5⟩
    · obtain rfl : j = i := by omega
      have hx : ((ops[j].after.foldl (fun s e => if Region.binds .any e then s ||| 2 ^ e.on ||| acc.getD e.on 0 else s) 0)).testBit x = true := by
        have : (acc.push (ops[j].after.foldl (fun s e => if Region.binds .any e then s ||| 2 ^ e.on ||| acc.getD e.on 0 else s) 0)).getD j 0 = ops[j].after.foldl (fun s e => if Region.binds .any e then s ||| 2 ^ e.on ||| acc.getD e.on 0 else s) 0 := by
          simp only [Array.getD_eq_getD_getElem?, Array.getElem?_push]
          rw [if_pos h1.symm]; rfl
        rw [← this]; exact hx
      rw [← Array.foldl_toList] at hx
      rcases inner_bit acc x _ _ hx with h3 | ⟨e, g2, g3, g4⟩
      · simp at h3
      · refine ⟨ops[j], e, by simp [hi], by simpa using g2, g3, ?_⟩
        rcases g4 with g4 | g4
        · exact .inl g4
        · have : e.on < j := by
            rcases Nat.lt_or_ge e.on j with h' | h'
            · exact h'
            · rw [Array.getD_eq_getD_getElem?, Array.getElem?_eq_none (by omega)] at g4; simp at g4
          exact .inr ⟨this, by rw [old _ _ this]; exact g4⟩
  have hj : j < ops.size := by
    rcases Nat.lt_or_ge j ops.size with h' | h'
    · exact h'
    · unfold pre at h
      rw [Array.getD_eq_getD_getElem?, Array.getElem?_eq_none (by omega)] at h; simp at h
  exact key.2 j hj i h
structure Dr (P : Program) (L : List Nat) (ops : Array Oper) : Prop where
  down : ∀ i, i < ops.size → ∀ e ∈ (ops.getD i default).after, Region.binds .any e = true → e.on < i
  c6 : ∀ i, i < ops.size → asked ops (Region.before ops) i = true → ∃ d, dstA ops i = some d
  ord : ∀ i j, i < ops.size → j < ops.size → hvA ops i = true → (hvA ops j = true ∨ alA ops j = true) → j < i → pre (Region.before ops) j i = true
  nodup : ∀ i j d, i < ops.size → j < ops.size → dstA ops j = some d → dstA ops i = some d → i = j
  c5 : ∀ i j d, i < ops.size → j < ops.size → dstA ops j = some d → d ∈ ioperS (cOper P L ops (ops.getD i default)) → pre (Region.before ops) j i = true ∨ (pre (Region.before ops) i j = true ∧ asked ops (Region.before ops) i = false)
theorem dr_of (h : drawOk P L ops (Region.before ops) = true) : Dr P L ops := by
  unfold drawOk at h
  simp only [List.all_eq_true, List.mem_range, Bool.and_eq_true, Array.all_eq_true_iff_forall_mem, Bool.or_eq_true, Bool.not_eq_true', decide_eq_true_eq] at h
  refine ⟨fun i hi e he hb => ?_, fun i hi ha => ?_, fun i j hi hj h1 h2 h3 => ?_, fun i j d hi hj h1 h2 => ?_, fun i j d hi hj h1 h2 => ?_⟩
  · rcases (h i hi).1.1 e he with h1 | h1
    · exact h1
    · rw [hb] at h1; cases h1
  · rcases (h i hi).1.2 with h1 | h1
    · rw [ha] at h1; cases h1
    · exact Option.isSome_iff_exists.1 h1
  · rcases ((h i hi).2 j hj).1 with h4 | h4
    · simp [h1, h3] at h4
      rcases h2 with h2 | h2
      · rw [h4.1] at h2; cases h2
      · rw [h4.2] at h2; cases h2
    · exact h4
  · have h4 := ((h i hi).2 j hj).2
    rw [h1] at h4
    simp only [Bool.and_eq_true, Bool.or_eq_true, beq_iff_eq, bne_iff_ne] at h4
    rcases h4.1 with h5 | h5
    · exact h5
    · exact absurd h2 h5
  · have h4 := ((h i hi).2 j hj).2
    rw [h1] at h4
    simp only [Bool.and_eq_true, Bool.or_eq_true, Bool.not_eq_true', List.contains_eq_mem, decide_eq_false_iff_not] at h4
    rcases h4.2 with (h5 | h5) | h5
    · exact absurd h2 h5
    · exact .inl h5
    · exact .inr h5
theorem getD_some {i : Nat} {o : Oper} (h : ops[i]? = some o) : ops.getD i default = o := by simp [Array.getD_eq_getD_getElem?, h]
theorem some_getD {i : Nat} (h : i < ops.size) : ops[i]? = some (ops.getD i default) := by simp [Array.getD_eq_getD_getElem?, h]
section
variable (D : Dr P L ops)
include D
theorem Dr.pre_lt : ∀ {j i : Nat}, pre (Region.before ops) i j = true → i < j := by
  intro j
  induction j using Nat.strongRecOn with
  | _ j ihj =>
    intro i h
    obtain ⟨o, e, h1, h2, h3, h4⟩ := pre_spec h
    have hj : j < ops.size := (Array.getElem?_eq_some_iff.1 h1).1
    have := D.down j hj e (by rw [getD_some h1]; exact h2) h3
    rcases h4 with h4 | ⟨h4, h5⟩
    · omega
    · have := ihj _ h4 h5; omega
end
def Cl (ops : Array Oper) (Q : Nat → Prop) : Prop := ∀ j, Q j → j < ops.size ∧ ∀ e ∈ (ops.getD j default).after, Region.binds .any e = true → Q e.on
theorem cl_ready {Q : Nat → Prop} (hQ : Cl ops Q) : ∀ {j i : Nat}, (∀ e ∈ (ops.getD j default).after, Region.binds .any e = true → Q e.on) → pre (Region.before ops) i j = true → Q i := by
  intro j
  induction j using Nat.strongRecOn with
  | _ j ihj =>
    intro i hj h
    obtain ⟨o, e, h1, h2, h3, h4⟩ := pre_spec h
    have he := hj e (by rw [getD_some h1]; exact h2) h3
    rcases h4 with h4 | ⟨h4, h5⟩
    · rw [← h4]; exact he
    · exact ihj _ h4 (hQ _ he).2 h5
theorem cl_pre {Q : Nat → Prop} (hQ : Cl ops Q) {j i : Nat} (hj : Q j) (h : pre (Region.before ops) i j = true) : Q i := cl_ready hQ (hQ j hj).2 h
theorem form {o : Oper} {s s' : St} {v : AV} (h : StepD y ih (cOper P L ops o) s v s') : (cOper P L ops o).dst = cDst L o.dst ∧ (cOper P L ops o).heavy = isHeavy o.op ∧ (cOper P L ops o).op = (cOp P o.op).getD (.bad 0) ∧
    ((o.guard = none ∧ (cOper P L ops o).guard = none) ∨ ∃ j b q, o.guard = some (j, b) ∧ gslot ops j = some q ∧ (cOper P L ops o).guard = some (q, b)) := by
  unfold cOper at *
  cases hg : o.guard with
  | none => exact ⟨rfl, rfl, rfl, .inl ⟨rfl, rfl⟩⟩
  | some q =>
    obtain ⟨j, b⟩ := q
    cases hs : gslot ops j with
    | none =>
      rw [hg] at h
      simp only [hs] at h
      have := h.on rfl
      cases this
    | some q => exact ⟨by simp only [hs], by simp only [hs], by simp only [hs], .inr ⟨j, b, q, rfl, hs, by simp only [hs]⟩⟩
theorem step_iop {o : Oper} {s s' : St} {v : AV} (h : StepD y ih (cOper P L ops o) s v s') (hw : Wants (cOper P L ops o) s = true) : ∃ iop, cOp P o.op = some iop ∧ (cOper P L ops o).op = iop ∧ denOp y ih iop s.l s.e s.t s.n okK = .ok v s'.t s'.n := by
  have h1 := h.on hw
  obtain ⟨_, _, h2, _⟩ := form h
  rw [h2] at h1 ⊢
  cases hc : cOp P o.op with
  | none => rw [hc] at h1; cases h1
  | some iop => rw [hc] at h1; exact ⟨iop, rfl, rfl, h1⟩
theorem cls_hv {op : Op} {iop : IOp} (hc : cOp P op = some iop) : ((cls iop < 2 ∧ isHeavy op = false) ∨ (cls iop = 2 ∧ isAlloc op = true ∧ isHeavy op = false) ∨ ((cls iop = 3 ∨ cls iop = 4) ∧ isHeavy op = true)) ∧ (cls iop = 1 → isRead op = true) := by
  have h := cls_of hc
  cases op with
  | call c =>
    obtain ⟨callee, args, tys⟩ := c
    cases callee with
    | builtin b => cases b <;> simp [clsOp, isHeavy, isAlloc, isRead] at h ⊢ <;> first | omega | (simp [cOp] at hc)
    | value X => simp [clsOp, isHeavy, isAlloc, isRead] at h ⊢; omega
    | invoke a b => simp [clsOp, isHeavy, isAlloc, isRead] at h ⊢; omega
  | _ => simp [clsOp, isHeavy, isAlloc, isRead] at h ⊢ <;> omega
theorem al_hv {op : Op} (h : isAlloc op = true) : isHeavy op = false := by
  cases op <;> simp [isAlloc, isHeavy] at h ⊢
end Ev
namespace Ev
open Go
variable [Told] [TokV] [ToldOK]
variable {P : Program} {L : List Nat} {ops : Array Oper} {y : Yh} {ih : Ih} {S : Nat → St} {V : Nat → AV}
structure Tr (P : Program) (L : List Nat) (ops : Array Oper) (y : Yh) (ih : Ih) (S : Nat → St) (V : Nat → AV) : Prop where
  step : ∀ j, j < ops.size → StepD y ih (cOper P L ops (ops.getD j default)) (S j) (V j) (S (j + 1))
  ym : YM y
  im : IM ih
def AS (ops : Array Oper) (S : Nat → St) (j : Nat) (ob : AO) : Prop := alA ops j = true ∧ (S (j + 1)).t = (S j).t.set ob (S j).n ∧ (S (j + 1)).n = (S j).n + 1
theorem filt_one (f : Nat → Bool) (i : Nat) : ([i].filter f).length = if f i = true then 1 else 0 := by
  rw [List.filter_cons]; split <;> rfl
theorem lnthH_append : ∀ (a b : List H) (i : Nat), i < a.length → lnthH (a ++ b) i = lnthH a i
  | [], _, i, h => by simp at h
  | t :: a, b, 0, _ => rfl
  | t :: a, b, i + 1, h => by
    show lnthH (a ++ b) i = lnthH a i
    exact lnthH_append a b i (by simpa using h)
theorem lnthH_last : ∀ (a : List H) (t : H), lnthH (a ++ [t]) a.length = some t
  | [], _ => rfl
  | _ :: a, t => by
    show lnthH (a ++ [t]) a.length = some t
    exact lnthH_last a t
section
variable (X : Tr P L ops y ih S V)
include X
theorem Tr.quiet {j : Nat} (hj : j < ops.size) (hh : hvA ops j = false) : ((S (j + 1)).t = (S j).t ∧ (S (j + 1)).n = (S j).n) ∨ ∃ ob, AS ops S j ob := by
  have h := X.step j hj
  cases hw : Wants (cOper P L ops (ops.getD j default)) (S j) with
  | false => exact .inl (h.off hw).2
  | true =>
    obtain ⟨iop, hc, _, h1⟩ := step_iop h hw
    rcases (cls_hv hc).1 with ⟨h2, _⟩ | ⟨h2, h3, _⟩ | ⟨_, h2⟩
    · obtain ⟨v, h3⟩ := o_pure h2 ok_ne h1
      injection h3 with _ h4 h5
      exact .inl ⟨h4.symm, h5.symm⟩
    · obtain ⟨v, ob, h4⟩ := o_alloc h2 ok_ne h1
      injection h4 with _ h4 h5
      exact .inr ⟨ob, h3, h4.symm, h5.symm⟩
    · unfold hvA at hh; rw [hh] at h2; cases h2
theorem Tr.n_step {j : Nat} (hj : j < ops.size) : (S j).n ≤ (S (j + 1)).n := by
  have h := X.step j hj
  cases hw : Wants (cOper P L ops (ops.getD j default)) (S j) with
  | false => rw [(h.off hw).2.2]; exact Nat.le_refl _
  | true =>
    obtain ⟨iop, hc, _, h1⟩ := step_iop h hw
    obtain ⟨v, t', n', h2, h3⟩ := o_denOp X.im X.ym ok_ne h1
    injection h3 with _ _ h3
    omega
theorem Tr.n_mono {i : Nat} : ∀ {j : Nat}, i ≤ j → j ≤ ops.size → (S i).n ≤ (S j).n := by
  intro j
  induction j with
  | zero => intro h _; obtain rfl : i = 0 := by omega
            exact Nat.le_refl _
  | succ j ihj =>
    intro h hj
    rcases Nat.lt_or_ge i (j + 1) with h1 | h1
    · exact Nat.le_trans (ihj (by omega) (by omega)) (X.n_step (by omega))
    · obtain rfl : i = j + 1 := by omega
      exact Nat.le_refl _
theorem Tr.as_lt {a i : Nat} {ob : AO} (h : AS ops S a ob) (hi : a < i) (hs : i ≤ ops.size) : (S a).n < (S i).n := by
  have := X.n_mono (i := a + 1) (j := i) (by omega) hs
  have := h.2.2
  omega
theorem Tr.q_ht {p : Nat} (h0 : HT (S p).t (S p).n) : ∀ {i : Nat}, p ≤ i → i ≤ ops.size → (∀ j, p ≤ j → j < i → hvA ops j = false) → HT (S i).t (S i).n := by
  intro i
  induction i with
  | zero => intro h _ _; obtain rfl : p = 0 := by omega
            exact h0
  | succ i ihi =>
    intro h hi hq
    rcases Nat.lt_or_ge p (i + 1) with h1 | h1
    · have h2 := ihi (by omega) (by omega) (fun j a b => hq j a (by omega))
      rcases X.quiet (j := i) (by omega) (hq i (by omega) (by omega)) with ⟨h3, h4⟩ | ⟨ob, _, h3, h4⟩
      · rw [h3, h4]; exact h2
      · rw [h3, h4]; exact h2.next
    · obtain rfl : p = i + 1 := by omega
      exact h0
theorem Tr.q_get1 {p b : Nat} {o : AO} : ∀ {i : Nat}, p ≤ i → i ≤ ops.size → (∀ j, p ≤ j → j < i → hvA ops j = false) → (S i).t.get b = some o → (S p).t.get b = some o ∨ ∃ a, p ≤ a ∧ a < i ∧ AS ops S a o ∧ (S a).n = b := by
  intro i
  induction i with
  | zero => intro h _ _ hg; obtain rfl : p = 0 := by omega
            exact .inl hg
  | succ i ihi =>
    intro h hi hq hg
    rcases Nat.lt_or_ge p (i + 1) with h1 | h1
    · have ih2 := ihi (by omega) (by omega) (fun j a b => hq j a (by omega))
      have old : (S i).t.get b = some o → (S p).t.get b = some o ∨ ∃ a, p ≤ a ∧ a < i + 1 ∧ AS ops S a o ∧ (S a).n = b := fun h => by
        rcases ih2 h with h | ⟨a, h1, h2, h3⟩
        · exact .inl h
        · exact .inr ⟨a, h1, by omega, h3⟩
      rcases X.quiet (j := i) (by omega) (hq i (by omega) (by omega)) with ⟨h3, h4⟩ | ⟨ob, hA⟩
      · rw [h3] at hg; exact old hg
      · rw [hA.2.1, M.get_set_if] at hg
        split at hg
        · rename_i hb
          injection hg with hg; subst hg
          exact .inr ⟨i, by omega, by omega, hA, hb⟩
        · exact old hg
    · obtain rfl : p = i + 1 := by omega
      exact .inl hg
theorem Tr.q_get2 {p b : Nat} {o : AO} (h0 : HT (S p).t (S p).n) (hg : (S p).t.get b = some o) : ∀ {i : Nat}, p ≤ i → i ≤ ops.size → (∀ j, p ≤ j → j < i → hvA ops j = false) → (S i).t.get b = some o := by
  intro i
  induction i with
  | zero => intro h _ _; obtain rfl : p = 0 := by omega
            exact hg
  | succ i ihi =>
    intro h hi hq
    rcases Nat.lt_or_ge p (i + 1) with h1 | h1
    · have h2 := ihi (by omega) (by omega) (fun j a b => hq j a (by omega))
      have h5 := X.q_ht h0 (i := i) (by omega) (by omega) (fun j a b => hq j a (by omega))
      rcases X.quiet (j := i) (by omega) (hq i (by omega) (by omega)) with ⟨h3, h4⟩ | ⟨ob, hA⟩
      · rw [h3]; exact h2
      · have := h5.lt h2
        rw [hA.2.1, M.get_set_ne _ _ _ _ (by omega)]; exact h2
    · obtain rfl : p = i + 1 := by omega
      exact hg
theorem Tr.q_get3 {p a : Nat} {o : AO} (h0 : HT (S p).t (S p).n) (hp : p ≤ a) (hA : AS ops S a o) {i : Nat} (hi : a < i) (hs : i ≤ ops.size) (hq : ∀ j, p ≤ j → j < i → hvA ops j = false) : (S i).t.get (S a).n = some o := by
  have h1 : HT (S (a + 1)).t (S (a + 1)).n := X.q_ht h0 (by omega) (by omega) (fun j x y => hq j x (by omega))
  refine X.q_get2 h1 ?_ (i := i) (by omega) hs (fun j x y => hq j (by omega) y)
  rw [hA.2.1]; exact M.get_set _ _ _
theorem Tr.el (h0 : ∀ d ∈ L, (S 0).e.get d = none) (h1 : ∀ d, d ∉ L → (S 0).l.get d = none) : ∀ i, i ≤ ops.size → (∀ d ∈ L, (S i).e.get d = none) ∧ ∀ d, d ∉ L → (S i).l.get d = none := by
  intro i
  induction i with
  | zero => exact fun _ => ⟨h0, h1⟩
  | succ i ihi =>
    intro hi
    obtain ⟨h2, h3⟩ := ihi (by omega)
    have h := X.step i (by omega)
    obtain ⟨hd, _⟩ := form h
    rw [h.hl, h.he, hd]
    unfold cDst
    cases (ops.getD i default).dst with
    | none => exact ⟨h2, h3⟩
    | some d =>
      simp only
      by_cases hL : L.contains d = true
      · rw [if_pos hL]
        have hL' : d ∈ L := by simpa using hL
        refine ⟨h2, fun q hq => ?_⟩
        show ((S i).l.set (V i) d).get q = none
        rw [T.get_set_ne _ _ _ _ (fun e => hq (by rw [← e]; exact hL'))]; exact h3 q hq
      · rw [if_neg hL]
        have hL' : d ∉ L := by simpa using hL
        refine ⟨fun q hq => ?_, h3⟩
        show ((S i).e.set (V i) d).get q = none
        rw [T.get_set_ne _ _ _ _ (fun e => hL' (by rw [e]; exact hq))]; exact h2 q hq
theorem Tr.lk_step (h0 : ∀ d ∈ L, (S 0).e.get d = none) (h1 : ∀ d, d ∉ L → (S 0).l.get d = none) {i : Nat} (hi : i < ops.size) (s : Nat) :
    lk (S (i + 1)).l (S (i + 1)).e s = if dstA ops i = some s then some (V i) else lk (S i).l (S i).e s := by
  obtain ⟨h2, h3⟩ := X.el h0 h1 i (by omega)
  have h := X.step i hi
  obtain ⟨hd, _⟩ := form h
  rw [h.hl, h.he, hd]
  unfold cDst dstA
  cases (ops.getD i default).dst with
  | none => simp [putL, putE]
  | some d =>
    simp only [Option.some.injEq]
    by_cases hL : L.contains d = true
    · rw [if_pos hL]
      show lk ((S i).l.set (V i) d) (S i).e s = _
      unfold lk
      rw [T.get_set_if]
      by_cases hds : d = s
      · rw [if_pos hds, if_pos hds]
      · rw [if_neg hds, if_neg hds]
    · rw [if_neg hL]
      have hL' : d ∉ L := by simpa using hL
      show lk (S i).l ((S i).e.set (V i) d) s = _
      unfold lk
      rw [T.get_set_if]
      by_cases hds : d = s
      · subst hds; rw [if_pos rfl, if_pos rfl, h3 d hL']
      · rw [if_neg hds, if_neg hds]
theorem Tr.tv (h0 : ∀ d ∈ L, (S 0).e.get d = none) (h1 : ∀ d, d ∉ L → (S 0).l.get d = none) {s : Nat} {v : AV} : ∀ {i : Nat}, i ≤ ops.size → lk (S i).l (S i).e s = some v →
    (∃ j, j < i ∧ dstA ops j = some s ∧ v = V j) ∨ ((∀ j, j < i → dstA ops j ≠ some s) ∧ lk (S 0).l (S 0).e s = some v) := by
  intro i
  induction i with
  | zero => exact fun _ h => .inr ⟨fun j hj => by omega, h⟩
  | succ i ihi =>
    intro hi h
    rw [X.lk_step h0 h1 (by omega)] at h
    split at h
    · rename_i hd
      injection h with h
      exact .inl ⟨i, by omega, hd, h.symm⟩
    · rename_i hd
      rcases ihi (by omega) h with ⟨j, h2, h3, h4⟩ | ⟨h2, h3⟩
      · exact .inl ⟨j, by omega, h3, h4⟩
      · refine .inr ⟨fun j hj => ?_, h3⟩
        rcases Nat.lt_or_ge j i with h4 | h4
        · exact h2 j h4
        · obtain rfl : j = i := by omega
          exact hd
theorem Tr.hs_len (hs0 : (S 0).hs = [(S 0).t]) : ∀ {i : Nat}, i ≤ ops.size → (S i).hs.length = ((List.range i).filter (hvA ops)).length + 1 := by
  intro i
  induction i with
  | zero => intro _; rw [hs0]; rfl
  | succ i ihi =>
    intro hi
    have h := X.step i (by omega)
    obtain ⟨_, hh, _⟩ := form h
    rw [h.hh, hh, List.range_succ, List.filter_append, List.length_append]
    have ih2 := ihi (by omega)
    by_cases hx : hvA ops i = true
    · have hx' : isHeavy (ops.getD i default).op = true := hx
      rw [if_pos hx', List.length_cons, ih2, filt_one, if_pos hx]
    · have hx' : ¬ isHeavy (ops.getD i default).op = true := hx
      rw [if_neg hx', ih2, filt_one, if_neg hx]
theorem Tr.stage (hs0 : (S 0).hs = [(S 0).t]) {p : Nat} (hp : p = 0 ∨ ∃ h, hvA ops h = true ∧ p = h + 1) : ∀ {i : Nat}, p ≤ i → i ≤ ops.size → lnthH (S i).hs.reverse ((List.range p).filter (hvA ops)).length = some (S p).t := by
  intro i
  induction i with
  | zero =>
    intro h _
    obtain rfl : p = 0 := by omega
    rw [hs0]; rfl
  | succ i ihi =>
    intro h hi
    have hst := X.step i (by omega)
    obtain ⟨_, hh, _⟩ := form hst
    have hlen := X.hs_len hs0 (i := i) (by omega)
    rcases Nat.lt_or_ge p (i + 1) with h1 | h1
    · have h2 := ihi (by omega) (by omega)
      rw [hst.hh]
      split
      · rw [List.reverse_cons, lnthH_append _ _ _ ?_]
        · exact h2
        · rw [List.length_reverse, hlen]
          have : ((List.range p).filter (hvA ops)).length ≤ ((List.range i).filter (hvA ops)).length := by
            have : (List.range i) = List.range p ++ List.range' p (i - p) := by
              have h5 := List.range'_append_1 (s := 0) (m := p) (n := i - p)
              rw [List.range_eq_range', List.range_eq_range']
              rw [Nat.zero_add] at h5
              rw [h5]; congr 1; omega
            rw [this, List.filter_append, List.length_append]; omega
          omega
      · exact h2
    · obtain rfl : p = i + 1 := by omega
      rcases hp with hp | ⟨hv, hp, he⟩
      · omega
      · obtain rfl : hv = i := by omega
        rw [hst.hh, hh]
        have hx : isHeavy (ops.getD hv default).op = true := hp
        rw [if_pos hx, List.reverse_cons, List.range_succ, List.filter_append, List.length_append]
        have : ((List.range hv).filter (hvA ops)).length + ([hv].filter (hvA ops)).length = (S hv).hs.reverse.length := by
          rw [List.length_reverse, hlen]; simp [hp]
        rw [this]
        exact lnthH_last _ _
end
end Ev
namespace Ev
open Go
variable [Told] [TokV] [ToldOK]
variable {P : Program} {tk : Tok} {L : List Nat} {ops : Array Oper} {y : Yh} {ih : Ih} {S : Nat → St} {V : Nat → AV} {ι ι0 : Rn} {w w0 : World} {ac ac0 : Act} {K0 : G} {N m p i : Nat} {ro : Option Nat} {g : G} {Dn : Nat → Prop}
theorem denSame_inv {o : IOper} {v : AV} {l e : T AV} {hs : List H} {r : Out} (hr : NE r) : ∀ {c lo : Nat} {q : Out}, denSame o v l e hs lo c q = r → q = r ∧ ∀ j, lo ≤ j → j < lo + c → ∃ t, lnthH hs j = some t ∧ ∃ t2 n2, denOp noY noIh o.op l e t 0 okK = .ok v t2 n2
  | 0, lo, q, h => ⟨h, fun j h1 h2 => by omega⟩
  | c + 1, lo, q, h => by
    unfold denSame at h
    cases hs' : lnthH hs lo with
    | none => rw [hs'] at h; exact absurd h.symm (hr _)
    | some t =>
      rw [hs'] at h
      obtain ⟨v', t2, n2, h1, h2⟩ := B_inv hr (show eqAt _ v _ = r from h)
      obtain ⟨h3, h4⟩ := bO_inv h2 hr
      obtain rfl : v' = v := of_decide_eq_true h3
      obtain ⟨h5, h6⟩ := denSame_inv hr h4
      refine ⟨h5, fun j h7 h8 => ?_⟩
      rcases Nat.eq_or_lt_of_le h7 with h9 | h9
      · subst h9; exact ⟨t, hs', t2, n2, h1⟩
      · exact h6 j (by omega) (by omega)
theorem denChk_inv {l e : T AV} {hs : List H} {r : Out} (hr : NE r) : ∀ {ch : List (Nat × Nat × IOper × Nat)} {q : Out}, denChk l e hs ch q = r → q = r ∧ ∀ lo c o d, (lo, c, o, d) ∈ ch →
    (∀ s b, o.guard = some (s, b) → ∀ g, lk l e s = some g → gV g b = true) → ∃ v, lk l e d = some v ∧ ∀ j, lo ≤ j → j < lo + c → ∃ t, lnthH hs j = some t ∧ ∃ t2 n2, denOp noY noIh o.op l e t 0 okK = .ok v t2 n2
  | [], q, h => ⟨h, fun _ _ _ _ hm => by cases hm⟩
  | (lo, c, o, d) :: ch, q, h => by
    have go : (fetch l e (.t d) fun v => denSame o v l e hs lo c (denChk l e hs ch q)) = r → q = r ∧ (∃ v, lk l e d = some v ∧ ∀ j, lo ≤ j → j < lo + c → ∃ t, lnthH hs j = some t ∧ ∃ t2 n2, denOp noY noIh o.op l e t 0 okK = .ok v t2 n2) ∧ denChk l e hs ch q = r := by
      intro h
      rw [fetch_lk] at h
      cases hd : lk l e d with
      | none => rw [hd] at h; exact absurd h.symm (hr _)
      | some v =>
        rw [hd] at h
        obtain ⟨h1, h2⟩ := denSame_inv hr h
        exact ⟨(denChk_inv hr h1).1, ⟨v, rfl, h2⟩, h1⟩
    unfold denChk at h
    cases hg : o.guard with
    | none =>
      rw [hg] at h
      obtain ⟨h1, h2, h3⟩ := go h
      refine ⟨h1, fun lo' c' o' d' hm hgd => ?_⟩
      rcases List.mem_cons.1 hm with hm | hm
      · injection hm with a1 a2; injection a2 with a2 a3; injection a3 with a3 a4
        subst a1; subst a2; subst a3; subst a4; exact h2
      · exact (denChk_inv hr h3).2 lo' c' o' d' hm hgd
    | some q' =>
      obtain ⟨s, b⟩ := q'
      rw [hg] at h
      simp only at h
      rw [fetch_lk] at h
      cases hs' : lk l e s with
      | none => rw [hs'] at h; exact absurd h.symm (hr _)
      | some g =>
        rw [hs'] at h
        simp only at h
        rw [gB_gV] at h
        rcases bO_cases h with ⟨h0, h⟩ | ⟨h0, h⟩
        · obtain ⟨h1, h2, h3⟩ := go h
          refine ⟨h1, fun lo' c' o' d' hm hgd => ?_⟩
          rcases List.mem_cons.1 hm with hm | hm
          · injection hm with a1 a2; injection a2 with a2 a3; injection a3 with a3 a4
            subst a1; subst a2; subst a3; subst a4; exact h2
          · exact (denChk_inv hr h3).2 lo' c' o' d' hm hgd
        · obtain ⟨h1, h3⟩ := denChk_inv hr h
          refine ⟨h1, fun lo' c' o' d' hm hgd => ?_⟩
          rcases List.mem_cons.1 hm with hm | hm
          · injection hm with a1 a2; injection a2 with a2 a3; injection a3 with a3 a4
            subst a1; subst a2; subst a3; subst a4
            have := hgd s b hg g hs'
            rw [this] at h0; cases h0
          · exact h3 lo' c' o' d' hm hgd
def GI (ops : Array Oper) (S : Nat → St) (K0 : G) (Dn : Nat → Prop) (p : Nat) (g : G) : Prop := ∀ b,
  (∀ o, (S p).t.get b = some o → g b = some o) ∧
  ((S p).t.get b = none → (∀ a ob, p ≤ a → a < ops.size → Dn a → AS ops S a ob → (S a).n = b → g b = some ob) ∧ ((∀ a ob, p ≤ a → a < ops.size → Dn a → AS ops S a ob → (S a).n ≠ b) → g b = K0 b))
structure Sy (ops : Array Oper) (S : Nat → St) (Dn : Nat → Prop) (p i : Nat) : Prop where
  le : p ≤ i
  no : ∀ j, p ≤ j → j < i → hvA ops j = false
  al : ∀ a ob, a < i → AS ops S a ob → Dn a
theorem gi_get (X : Tr P L ops y ih S V) (hg : GI ops S K0 Dn p g) (hs : Sy ops S Dn p i) (hi : i ≤ ops.size) (ht : HT (S p).t (S p).n) {b : Nat} {o : AO} (h : (S i).t.get b = some o) : g b = some o := by
  rcases X.q_get1 hs.le hi hs.no h with h1 | ⟨a, h1, h2, h3, h4⟩
  · exact (hg b).1 o h1
  · refine ((hg b).2 ?_).1 a o h1 (by omega) (hs.al a o h2 h3) h3 h4
    refine ht b ?_
    rw [← h4]; exact X.n_mono h1 (by omega)
theorem un_self {t : H} (h : ∀ b o, t.get b = some o → g b = some o) : un t g = g := by
  funext b
  unfold un
  cases hb : t.get b with
  | none => rfl
  | some o => exact (h b o hb).symm
def side (S : Nat → St) (i : Nat) (g : G) : G := fun b => if b < (S (i + 1)).n then none else g b
theorem side_kt : KT (side S i g) (S (i + 1)).n := fun b hb => if_pos hb
theorem side_un (X : Tr P L ops y ih S V) (hK : KT K0 (S ops.size).n) (hg : GI ops S K0 Dn p g) (hs : Sy ops S Dn p i) (hi : i < ops.size) (hh : hvA ops i = true) (ht : HT (S p).t (S p).n) : un (S i).t (side S i g) = g := by
  funext b
  unfold un
  cases hb : (S i).t.get b with
  | some o => exact (gi_get X hg hs (by omega) ht hb).symm
  | none =>
    show side S i g b = g b
    unfold side
    split
    · rename_i hlt
      have hpn : (S p).t.get b = none := by
        cases hb' : (S p).t.get b with
        | none => rfl
        | some o => rw [X.q_get2 ht hb' hs.le (by omega) hs.no] at hb; cases hb
      have h3 := ((hg b).2 hpn).2 (fun a ob h1 h2 h3 h4 h5 => by
        rcases Nat.lt_or_ge a i with h6 | h6
        · rw [← h5, X.q_get3 ht h1 h4 h6 (by omega) hs.no] at hb; cases hb
        · rcases Nat.eq_or_lt_of_le h6 with h7 | h7
          · subst h7
            have := al_hv (show isAlloc (ops.getD i default).op = true from h4.1)
            unfold hvA at hh; rw [this] at hh; cases hh
          · have := X.n_mono (i := i + 1) (j := a) (by omega) (by omega)
            omega)
      rw [h3]
      have := X.n_mono (i := i + 1) (j := ops.size) (by omega) (Nat.le_refl _)
      exact (hK b (by omega)).symm
    · rfl
theorem gi_heavy (X : Tr P L ops y ih S V) (hK : KT K0 (S ops.size).n) (hg : GI ops S K0 Dn p g) (hs : Sy ops S Dn p i) (hi : i < ops.size) (hh : hvA ops i = true) (ht : HT (S p).t (S p).n) :
    GI ops S K0 (fun j => Dn j ∨ j = i) (i + 1) (un (S (i + 1)).t (side S i g)) := by
  have hpi := X.n_mono hs.le (by omega)
  have hii := X.n_step hi
  intro b
  refine ⟨fun o ho => by simp [un, ho], fun hb => ?_⟩
  have hun : un (S (i + 1)).t (side S i g) b = side S i g b := by simp [un, hb]
  rw [hun]
  refine ⟨fun a ob h1 h2 h3 h4 h5 => ?_, fun hno => ?_⟩
  · have h6 := X.n_mono (i := i + 1) (j := a) h1 (by omega)
    unfold side
    rw [if_neg (by omega)]
    refine ((hg b).2 (ht b (by omega))).1 a ob (by have := hs.le; omega) h2 ?_ h4 h5
    rcases h3 with h3 | h3
    · exact h3
    · omega
  · unfold side
    split
    · have := X.n_mono (i := i + 1) (j := ops.size) (by omega) (Nat.le_refl _)
      exact (hK b (by omega)).symm
    · rename_i hge
      refine ((hg b).2 (ht b (by omega))).2 (fun a ob h1 h2 h3 h4 h5 => ?_)
      rcases Nat.lt_or_ge a (i + 1) with h6 | h6
      · have h7 := X.as_lt h4 h6 (by omega)
        omega
      · exact hno a ob h6 h2 (.inl h3) h4 h5
theorem gi_same (hg : GI ops S K0 Dn p g) (hn : ∀ ob, ¬ AS ops S i ob) : GI ops S K0 (fun j => Dn j ∨ j = i) p g := fun b =>
  ⟨(hg b).1, fun hb => ⟨fun a ob h1 h2 h3 h4 h5 => by
    rcases h3 with h3 | h3
    · exact ((hg b).2 hb).1 a ob h1 h2 h3 h4 h5
    · subst h3; exact absurd h4 (hn ob), fun h => ((hg b).2 hb).2 fun a ob h1 h2 h3 h4 => h a ob h1 h2 (.inl h3) h4⟩⟩
theorem gi_alloc (X : Tr P L ops y ih S V) (hg : GI ops S K0 Dn p g) (hi : i < ops.size) (hpi : p ≤ i) {ob : AO} (hA : AS ops S i ob) (hnd : ¬ Dn i) (ht : HT (S p).t (S p).n) (hK : KT K0 (S ops.size).n) :
    g (S i).n = none ∧ GI ops S K0 (fun j => Dn j ∨ j = i) p (upd g (S i).n ob) := by
  have hpn := X.n_mono hpi (by omega)
  have hu : ∀ a ob', a < ops.size → AS ops S a ob' → a ≠ i → (S a).n ≠ (S i).n := fun a ob' h1 h2 h3 => by
    rcases Nat.lt_or_ge a i with h4 | h4
    · have := X.as_lt h2 h4 (by omega); omega
    · have := X.as_lt hA (i := a) (by omega) (by omega); omega
  have h0 := ht (S i).n hpn
  refine ⟨?_, fun b => ⟨fun o ho => ?_, fun hb => ⟨fun a ob' h1 h2 h3 h4 h5 => ?_, fun h => ?_⟩⟩⟩
  · rw [((hg _).2 h0).2 (fun a ob' h1 h2 h3 h4 => hu a ob' h2 h4 (fun e => hnd (e ▸ h3)))]
    have := X.as_lt hA (i := ops.size) hi (Nat.le_refl _)
    exact hK _ this
  · unfold upd
    rw [if_neg (fun e => by rw [e] at h0; rw [h0] at ho; cases ho)]
    exact (hg b).1 o ho
  · unfold upd
    by_cases e : a = i
    · subst e
      rw [if_pos h5]
      have := h4.2.1.symm.trans hA.2.1
      have h6 : ((S a).t.set ob' (S a).n).get (S a).n = ((S a).t.set ob (S a).n).get (S a).n := by rw [this]
      rw [M.get_set, M.get_set] at h6
      exact h6.symm
    · have := hu a ob' h2 h4 e
      rw [if_neg (by omega)]
      rcases h3 with h3 | h3
      · exact ((hg b).2 hb).1 a ob' h1 h2 h3 h4 h5
      · exact absurd h3 e
  · have := h i ob hpi hi (.inr rfl) hA
    unfold upd
    rw [if_neg this]
    exact ((hg b).2 hb).2 fun a ob' h1 h2 h3 h4 => h a ob' h1 h2 (.inl h3) h4
end Ev
namespace Ev
open Go
variable [Told] [TokV] [ToldOK]
variable {P : Program} {tk : Tok} {L : List Nat} {ops : Array Oper} {y : Yh} {ih : Ih} {S : Nat → St} {V : Nat → AV} {ι ι0 : Rn} {w w0 : World} {ac ac0 : Act} {K0 : G} {N m p i : Nat} {ro : Option Nat} {g : G} {Dn : Nat → Prop}
structure DI (ops : Array Oper) (S : Nat → St) (V : Nat → AV) (ι0 : Rn) (w0 : World) (ac0 : Act) (K0 : G) (N : Nat) (Dn : Nat → Prop) (ι : Rn) (p : Nat) (ac : Act) (w : World) : Prop where
  cl : Cl ops Dn
  ext : ExtC w0.heap.size ι0 ι
  frm : Frm ι0 w0 w
  sl1 : ∀ j s, Dn j → dstA ops j = some s → ∃ x, toV ι (V j) = some x ∧ ac.tmps[s]? = some x
  sl2 : ∀ s v, (∀ j, Dn j → dstA ops j ≠ some s) → lk (S 0).l (S 0).e s = some v → ∃ x, toV ι v = some x ∧ ac.tmps[s]? = some x
  sz : ac.tmps.size = N
  df : ac.defers = ac0.defers
  pz : p ≤ ops.size
  hp : p = 0 ∨ ∃ h, hvA ops h = true ∧ p = h + 1
  hpd : ∀ h, h < ops.size → hvA ops h = true → (Dn h ↔ h < p)
  ht : HT (S p).t (S p).n
  yt : YT ι (S p).n
  rel : ∃ g, Rel ι g w ∧ GI ops S K0 Dn p g
structure Rd (ops : Array Oper) (Dn : Nat → Prop) (i : Nat) : Prop where
  lt : i < ops.size
  nd : ¬ Dn i
  rd : ∀ e ∈ (ops.getD i default).after, Region.binds .any e = true → Dn e.on
structure S0 (L : List Nat) (S : Nat → St) : Prop where
  e : ∀ d ∈ L, (S 0).e.get d = none
  l : ∀ d, d ∉ L → (S 0).l.get d = none
theorem wants_none {o : IOper} {s : St} (h : o.guard = none) : Wants o s = true := by simp [Wants, h]
theorem wants_some {o : IOper} {s : St} {q : Nat} {b : Bool} {g : AV} (h : o.guard = some (q, b)) (hg : lk s.l s.e q = some g) : Wants o s = gV g b := by simp [Wants, h, hg]
theorem mem_guard {o : IOper} {q : Nat} {b : Bool} (h : o.guard = some (q, b)) : q ∈ ioperS o := by simp [ioperS, h]
section
variable (X : Tr P L ops y ih S V) (D : Dr P L ops) (Z : S0 L S) (I : DI ops S V ι0 w0 ac0 K0 N Dn ι p ac w) (R : Rd ops Dn i)
include X D Z I R
theorem rd_slot {s : Nat} {v : AV} (hs : s ∈ ioperS (cOper P L ops (ops.getD i default))) (h : lk (S i).l (S i).e s = some v) : ∃ x, toV ι v = some x ∧ ac.tmps[s]? = some x := by
  have hi := R.lt
  rcases X.tv Z.e Z.l (by omega) h with ⟨j, h1, h2, rfl⟩ | ⟨h1, h2⟩
  · rcases D.c5 i j s hi (by omega) h2 hs with h3 | ⟨h3, _⟩
    · exact I.sl1 j s (cl_ready I.cl R.rd h3) h2
    · have := D.pre_lt h3; omega
  · refine I.sl2 s v (fun j hj hd => ?_) h2
    have hj' := (I.cl j hj).1
    rcases D.c5 i j s hi hj' hd hs with h3 | ⟨h3, _⟩
    · exact h1 j (D.pre_lt h3) hd
    · exact R.nd (cl_pre I.cl hj h3)
theorem rd_wanted : Region.wanted (ops.getD i default) (yielded ops ac.tmps) = Wants (cOper P L ops (ops.getD i default)) (S i) := by
  have h := X.step i R.lt
  obtain ⟨_, _, _, h1⟩ := form h
  rcases h1 with ⟨h1, h2⟩ | ⟨j, b, q, h1, h2, h3⟩
  · rw [wanted_none h1, wants_none h2]
  · obtain ⟨g, hg⟩ := h.hg q b h3
    obtain ⟨x, hx, ht⟩ := rd_slot X D Z I R (s := q) (v := g) (mem_guard h3) hg
    have h4 := wanted_some (ac := ac) h1 h2 ht
    have h5 : Wants (cOper P L ops (ops.getD i default)) (S i) = gV g b := wants_some h3 hg
    rw [h5]
    have h6 := gV_ok (b := b) hx
    cases hA : Region.wanted (ops.getD i default) (yielded ops ac.tmps) <;> cases hB : gV g b
    · rfl
    · have := h4.2 (h6.1 hB); rw [hA] at this; cases this
    · have := h6.2 (h4.1 hA); rw [hB] at this; cases this
    · rfl
theorem rd_env {iop : IOp} (ho : (cOper P L ops (ops.getD i default)).op = iop) : TR ι .leaf ac.tmps ∧ TR ι (pickE (S i).l (S i).e (iopS iop)) ac.tmps ∧ ∀ (y : Yh) (ih : Ih) (th : H) (n : Nat) (k : KH), denOp y ih iop (S i).l (S i).e th n k = denOp y ih iop .leaf (pickE (S i).l (S i).e (iopS iop)) th n k := by
  refine ⟨TR.leaf _ _, fun s v hv => ?_, fun y ih th n k => c_denOp fun s hs => (pickE_lk hs).symm⟩
  rw [pickE_get] at hv
  split at hv
  · rename_i hs
    exact rd_slot X D Z I R (by rw [ioperS, ho]; exact List.mem_append_right _ hs) hv
  · cases hv
omit X Z in
theorem di_next {ι' : Rn} {w' : World} {p' : Nat} {g' : G} {Vv : Value} (hN : ∀ d, dstA ops i = some d → d < N) (he : ExtC w.heap.size ι ι') (hf : Frm ι w w') (hV : toV ι' (V i) = some Vv)
    (hpz : p' ≤ ops.size) (hp : p' = 0 ∨ ∃ h, hvA ops h = true ∧ p' = h + 1) (hpd : ∀ h, h < ops.size → hvA ops h = true → ((Dn h ∨ h = i) ↔ h < p')) (ht : HT (S p').t (S p').n) (hy : YT ι' (S p').n)
    (hR : Rel ι' g' w') (hG : GI ops S K0 (fun j => Dn j ∨ j = i) p' g') : DI ops S V ι0 w0 ac0 K0 N (fun j => Dn j ∨ j = i) ι' p' (ac.put (ops.getD i default).dst Vv) w' := by
  have hi := R.lt
  have hput : ∀ s, dstA ops i ≠ some s → (ac.put (ops.getD i default).dst Vv).tmps[s]? = ac.tmps[s]? := fun s hs => by
    unfold dstA at hs
    cases hd : (ops.getD i default).dst with
    | none => rfl
    | some d =>
      rw [hd] at hs
      exact Array.getElem?_setIfInBounds_ne (fun e => hs (by rw [e]))
  refine ⟨?_, I.ext.trans he I.frm.size, I.frm.trans I.ext hf, ?_, ?_, ?_, ?_, hpz, hp, hpd, ht, hy, g', hR, hG⟩
  · rintro j (hj | hj)
    · exact ⟨(I.cl j hj).1, fun e h1 h2 => .inl ((I.cl j hj).2 e h1 h2)⟩
    · subst hj; exact ⟨hi, fun e h1 h2 => .inl (R.rd e h1 h2)⟩
  · rintro j s (hj | hj) hd
    · obtain ⟨x, hx, hg⟩ := I.sl1 j s hj hd
      refine ⟨x, toV_mono he.le _ _ hx, ?_⟩
      rw [hput s (fun h => R.nd (by rw [D.nodup i j s hi (I.cl j hj).1 hd h]; exact hj))]; exact hg
    · subst hj
      refine ⟨Vv, hV, ?_⟩
      have hlt := hN s hd
      have hd : (ops.getD j default).dst = some s := hd
      rw [hd]
      show (ac.tmps.setIfInBounds s Vv)[s]? = _
      have : s < ac.tmps.size := by rw [I.sz]; exact hlt
      simp [this]
  · intro s v hno hv
    obtain ⟨x, hx, hg⟩ := I.sl2 s v (fun j hj => hno j (.inl hj)) hv
    exact ⟨x, toV_mono he.le _ _ hx, by rw [hput s (hno i (.inr rfl))]; exact hg⟩
  · rw [← I.sz]; cases (ops.getD i default).dst <;> simp [Act.put]
  · rw [← I.df]; cases (ops.getD i default).dst <;> rfl
omit X Z D in
theorem sync_of (hc : ∀ h, h < ops.size → hvA ops h = true → h < i → pre (Region.before ops) h i = true) (hc' : ∀ h, h < ops.size → hvA ops h = true → i ≤ h → h ≠ i → pre (Region.before ops) i h = true)
    (ha : ∀ a, a < i → alA ops a = true → pre (Region.before ops) a i = true) : Sy ops S Dn p i := by
  have hi := R.lt
  refine ⟨?_, fun j h1 h2 => ?_, fun a ob h1 h2 => cl_ready I.cl R.rd (ha a h1 h2.1)⟩
  · rcases I.hp with h | ⟨h, h1, h2⟩
    · omega
    · have h3 : h < ops.size := by have := I.pz; omega
      have h4 : Dn h := (I.hpd h h3 h1).2 (by omega)
      rcases Nat.lt_or_ge h i with h5 | h5
      · omega
      · have : h ≠ i := fun e => R.nd (e ▸ h4)
        exact absurd (cl_pre I.cl h4 (hc' h h3 h1 h5 this)) R.nd
  · cases hh : hvA ops j with
    | false => rfl
    | true =>
      have h3 := cl_ready I.cl R.rd (hc j (by omega) hh h2)
      have := (I.hpd j (by omega) hh).1 h3
      omega
omit X Z in
theorem sync_heavy (hh : hvA ops i = true) : Sy ops S Dn p i :=
  sync_of I R (fun h h1 h2 h3 => D.ord i h R.lt h1 hh (.inl h2) h3) (fun h h1 h2 h3 h4 => D.ord h i h1 R.lt h2 (.inl hh) (by omega)) (fun a h1 h2 => D.ord i a R.lt (by have := R.lt; omega) hh (.inr h2) h1)
omit X Z in
theorem sync_read (hr : isRead (ops.getD i default).op = true) (hna : asked ops (Region.before ops) i = false) (hh : hvA ops i = false) : Sy ops S Dn p i := by
  unfold asked at hna
  rw [hr, Bool.true_and, List.any_eq_false] at hna
  have h0 : ∀ h, h < ops.size → hvA ops h = true → pre (Region.before ops) h i = true ∨ pre (Region.before ops) i h = true := fun h h1 h2 => by
    have := hna h (List.mem_range.2 h1)
    simp only [h2, Bool.true_and, Bool.or_eq_true, Bool.and_eq_true, Bool.not_eq_true'] at this
    cases h3 : pre (Region.before ops) h i
    · cases h4 : pre (Region.before ops) i h
      · exact absurd (.inl ⟨h3, h4⟩) this
      · exact .inr rfl
    · exact .inl rfl
  refine sync_of I R (fun h h1 h2 h3 => ?_) (fun h h1 h2 h3 h4 => ?_) (fun a h1 h2 => ?_)
  · rcases h0 h h1 h2 with h4 | h4
    · exact h4
    · have := D.pre_lt h4; omega
  · rcases h0 h h1 h2 with h5 | h5
    · have := D.pre_lt h5; omega
    · exact h5
  · have := hna a (List.mem_range.2 (by have := R.lt; omega))
    simp only [h2, h1, Bool.true_and, Bool.or_eq_true, Bool.and_eq_true, Bool.not_eq_true', decide_true] at this
    cases h3 : pre (Region.before ops) a i
    · exact absurd (.inr h3) this
    · rfl
omit X Z D R in
theorem hpd_quiet (hh : hvA ops i = false) : ∀ h, h < ops.size → hvA ops h = true → ((Dn h ∨ h = i) ↔ h < p) := fun h h1 h2 => by
  rw [← I.hpd h h1 h2]
  refine ⟨fun h3 => ?_, .inl⟩
  rcases h3 with h3 | h3
  · exact h3
  · subst h3; rw [hh] at h2; cases h2
omit X Z in
theorem hpd_heavy (hh : hvA ops i = true) : ∀ h, h < ops.size → hvA ops h = true → ((Dn h ∨ h = i) ↔ h < i + 1) := fun h h1 h2 => by
  have hs := sync_heavy D I R hh
  constructor
  · rintro (h3 | h3)
    · have h4 := (I.hpd h h1 h2).1 h3
      have := hs.le; omega
    · omega
  · intro h3
    rcases Nat.eq_or_lt_of_le (show h ≤ i by omega) with h4 | h4
    · exact .inr h4
    · exact .inl (cl_ready I.cl R.rd (D.ord i h R.lt h1 hh (.inl h2) h4))
end
end Ev
namespace Ev
open Go
variable [Told] [TokV] [ToldOK]
variable {P : Program} {tk : Tok} {L : List Nat} {ops : Array Oper} {y : Yh} {ih : Ih} {S : Nat → St} {V : Nat → AV} {ι ι0 : Rn} {w w0 : World} {ac ac0 : Act} {K0 : G} {N m p i : Nat} {ro : Option Nat} {g : G} {Dn : Nat → Prop} {Q : Exit → Act → World → Prop}
theorem cnt_le (f g : Nat → Bool) : ∀ (l : List Nat), (∀ h ∈ l, f h = true → g h = true) → (l.filter f).length ≤ (l.filter g).length
  | [], _ => Nat.le_refl _
  | a :: l, h => by
    have ih2 := cnt_le f g l (fun x hx => h x (.tail _ hx))
    rw [List.filter_cons, List.filter_cons]
    cases hf : f a with
    | true => rw [if_pos rfl, if_pos (h a (.head _) hf)]; simp only [List.length_cons]; omega
    | false =>
      rw [if_neg (by simp)]
      split
      · simp only [List.length_cons]; omega
      · exact ih2
theorem cnt_below (f : Nat → Bool) {p n : Nat} (hp : p ≤ n) : ((List.range n).filter fun h => f h && decide (h < p)).length = ((List.range p).filter f).length := by
  have h5 := List.range'_append_1 (s := 0) (m := p) (n := n - p)
  rw [Nat.zero_add] at h5
  have : List.range n = List.range p ++ List.range' p (n - p) := by
    rw [List.range_eq_range', List.range_eq_range', h5]; congr 1; omega
  rw [this, List.filter_append, List.length_append]
  have h1 : (List.range p).filter (fun h => f h && decide (h < p)) = (List.range p).filter f := List.filter_congr fun x hx => by simp [List.mem_range.1 hx]
  have h2 : (List.range' p (n - p)).filter (fun h => f h && decide (h < p)) = [] := by
    rw [List.filter_eq_nil_iff]
    intro x hx
    have := List.mem_range'_1.1 hx
    simp; omega
  rw [h1, h2]; rfl
section
variable (X : Tr P L ops y ih S V) (D : Dr P L ops) (Z : S0 L S) (I : DI ops S V ι0 w0 ac0 K0 N Dn ι p ac w) (R : Rd ops Dn i)
include X D Z I R
omit I in
theorem end_same (ha : asked ops (Region.before ops) i = true) {s : Nat} (hs : s ∈ ioperS (cOper P L ops (ops.getD i default))) : ∀ {j : Nat}, i ≤ j → j ≤ ops.size → lk (S j).l (S j).e s = lk (S i).l (S i).e s := by
  intro j
  induction j with
  | zero => intro h _; obtain rfl : i = 0 := by omega
            rfl
  | succ j ihj =>
    intro h hj
    rcases Nat.lt_or_ge i (j + 1) with h1 | h1
    · rw [X.lk_step Z.e Z.l (by omega)]
      split
      · rename_i hd
        rcases D.c5 i j s R.lt (by omega) hd hs with h3 | ⟨_, h3⟩
        · have := D.pre_lt h3; omega
        · rw [ha] at h3; cases h3
      · exact ihj (by omega) (by omega)
    · obtain rfl : i = j + 1 := by omega
      rfl
theorem asked_read (hs0 : (S 0).hs = [(S 0).t]) (hch : ∀ lo c o d, (lo, c, o, d) ∈ drawChk P L ops (Region.before ops) → (∀ s b, o.guard = some (s, b) → ∀ g, lk (S ops.size).l (S ops.size).e s = some g → gV g b = true) →
      ∃ v, lk (S ops.size).l (S ops.size).e d = some v ∧ ∀ j, lo ≤ j → j < lo + c → ∃ t, lnthH (S ops.size).hs.reverse j = some t ∧ ∃ t2 n2, denOp noY noIh o.op (S ops.size).l (S ops.size).e t 0 okK = .ok v t2 n2)
    (ha : asked ops (Region.before ops) i = true) (hw : Wants (cOper P L ops (ops.getD i default)) (S i) = true) {iop : IOp} (ho : (cOper P L ops (ops.getD i default)).op = iop) :
    ∃ t2 n2, denOp noY noIh iop (S i).l (S i).e (S p).t 0 okK = .ok (V i) t2 n2 := by
  obtain ⟨d, hd⟩ := D.c6 i R.lt ha
  have hes : ∀ {s : Nat}, s ∈ ioperS (cOper P L ops (ops.getD i default)) → lk (S ops.size).l (S ops.size).e s = lk (S i).l (S i).e s := fun hs => end_same X D Z R ha hs (Nat.le_of_lt R.lt) (Nat.le_refl _)
  have hm : (kmin ops (Region.before ops) i, kmax ops (Region.before ops) i + 1 - kmin ops (Region.before ops) i, cOper P L ops (ops.getD i default), d) ∈ drawChk P L ops (Region.before ops) := by
    unfold drawChk
    rw [List.mem_filterMap]
    exact ⟨i, List.mem_range.2 R.lt, by rw [if_pos ha, hd]; rfl⟩
  obtain ⟨v, hv, hj⟩ := hch _ _ _ _ hm (fun s b hg g hlk => by
    rw [hes (mem_guard hg)] at hlk
    rw [wants_some hg hlk] at hw; exact hw)
  have hvV : v = V i := by
    have hvi : lk (S (i + 1)).l (S (i + 1)).e d = some (V i) := by rw [X.lk_step Z.e Z.l R.lt, if_pos hd]
    rcases X.tv Z.e Z.l (Nat.le_refl _) hv with ⟨j, h1, h2, h3⟩ | ⟨h1, _⟩
    · rw [h3, D.nodup i j d R.lt h1 h2 hd]
    · exact absurd hd (h1 i R.lt)
  subst hvV
  have hdone : ∀ h, h < ops.size → hvA ops h = true → pre (Region.before ops) h i = true → h < p := fun h h1 h2 h3 => (I.hpd h h1 h2).1 (cl_ready I.cl R.rd h3)
  have hlow : kmin ops (Region.before ops) i ≤ ((List.range p).filter (hvA ops)).length := by
    rw [← cnt_below (hvA ops) I.pz]
    refine cnt_le _ _ _ fun h hh hf => ?_
    simp only [Bool.and_eq_true, decide_eq_true_eq] at hf ⊢
    exact ⟨hf.1, hdone h (List.mem_range.1 hh) hf.1 hf.2⟩
  have hhigh : ((List.range p).filter (hvA ops)).length ≤ kmax ops (Region.before ops) i := by
    rw [← cnt_below (hvA ops) I.pz]
    refine cnt_le _ _ _ fun h hh hf => ?_
    simp only [Bool.and_eq_true, decide_eq_true_eq, Bool.not_eq_true'] at hf ⊢
    refine ⟨hf.1, ?_⟩
    cases h3 : pre (Region.before ops) i h with
    | false => rfl
    | true => exact absurd (cl_pre I.cl ((I.hpd h (List.mem_range.1 hh) hf.1).2 hf.2) h3) R.nd
  obtain ⟨t, h1, t2, n2, h2⟩ := hj _ hlow (by omega)
  rw [X.stage hs0 I.hp I.pz (Nat.le_refl _)] at h1
  injection h1 with h1; subst h1
  rw [ho] at h2
  refine ⟨t2, n2, ?_⟩
  rw [← h2]
  exact c_denOp fun s hs => (hes (by rw [ioperS, ho]; exact List.mem_append_right _ hs)).symm
theorem draw_step (hyo : YOK P tk y ι w) (hih : IhOK P tk ih) (hK : KT K0 (S ops.size).n) (hs0 : (S 0).hs = [(S 0).t]) (hch : ∀ lo c o d, (lo, c, o, d) ∈ drawChk P L ops (Region.before ops) → (∀ s b, o.guard = some (s, b) → ∀ g, lk (S ops.size).l (S ops.size).e s = some g → gV g b = true) →
      ∃ v, lk (S ops.size).l (S ops.size).e d = some v ∧ ∀ j, lo ≤ j → j < lo + c → ∃ t, lnthH (S ops.size).hs.reverse j = some t ∧ ∃ t2 n2, denOp noY noIh o.op (S ops.size).l (S ops.size).e t 0 okK = .ok v t2 n2)
    (hN : ∀ d, dstA ops i = some d → d < N) {next : Act → World → Prop} (hn : ∀ ι' p' w' Vv, DI ops S V ι0 w0 ac0 K0 N (fun j => Dn j ∨ j = i) ι' p' (ac.put (ops.getD i default).dst Vv) w' → next (ac.put (ops.getD i default).dst Vv) w') :
    wpG ro m P ops (ops.getD i default) ac w next Q := by
  have hi := R.lt
  have hst := X.step i hi
  obtain ⟨g, hR, hG⟩ := I.rel
  have hgp : un (S p).t g = g := un_self fun b o => (hG b).1 o
  cases hw : Wants (cOper P L ops (ops.getD i default)) (S i) with
  | false =>
    have hw' : ¬ Region.wanted (ops.getD i default) (yielded ops ac.tmps) = true := by rw [rd_wanted X D Z I R, hw]; simp
    rw [wpG, if_neg hw']
    obtain ⟨h1, h2, h3⟩ := hst.off hw
    have hV : toV ι (V i) = some undef := by rw [h1]; exact unit_ok
    cases hh : hvA ops i with
    | false =>
      exact hn ι p w undef (di_next D I R hN (.refl _ _) (.refl _ _) hV I.pz I.hp (hpd_quiet I hh) I.ht I.yt hR (gi_same hG fun ob h => by have := h.2.2; omega))
    | true =>
      have hs := sync_heavy D I R hh
      have hti := X.q_ht I.ht hs.le (Nat.le_of_lt hi) hs.no
      have hni := X.n_mono hs.le (Nat.le_of_lt hi)
      have hG' := gi_heavy X hK hG hs hi hh I.ht
      rw [h2, side_un X hK hG hs hi hh I.ht] at hG'
      exact hn ι (i + 1) w undef (di_next D I R hN (.refl _ _) (.refl _ _) hV hi (.inr ⟨i, hh, rfl⟩) (hpd_heavy D I R hh) (by rw [h2, h3]; exact hti) (I.yt.mono (by rw [h3]; exact hni)) hR hG')
  | true =>
    have hw' : Region.wanted (ops.getD i default) (yielded ops ac.tmps) = true := by rw [rd_wanted X D Z I R, hw]
    rw [wpG, if_pos hw']
    obtain ⟨iop, hc, ho, h1⟩ := step_iop hst hw
    obtain ⟨hl, he, henv⟩ := rd_env X D Z I R ho
    have hd := not_defer hc
    have hcls := cls_hv hc
    have quiet_fin : ∀ {Vv : Value}, isHeavy (ops.getD i default).op = false → cls iop < 2 → toV ι (V i) = some Vv → next (ac.put (ops.getD i default).dst Vv) w := fun hh hc2 hV => by
      refine hn ι p w _ (di_next D I R hN (.refl _ _) (.refl _ _) hV I.pz I.hp (hpd_quiet I hh) I.ht I.yt hR (gi_same hG fun ob h => ?_))
      obtain ⟨v, h3⟩ := o_pure hc2 ok_ne h1
      injection h3 with _ _ h3
      have := h.2.2; omega
    have run1 : OkV ι P w ac.eval (ops.getD i default) (fun v => okK v (S p).t 0) (.ok (V i) (S p).t 0) → isHeavy (ops.getD i default).op = false → cls iop < 2 → (ops.getD i default).wpIn (Fr ro) m P ac w next Q := by
      rintro ⟨v, Vv, h2, h3, h4⟩ hh hc2
      have h2 : Out.ok v (S p).t 0 = .ok (V i) (S p).t 0 := h2
      injection h2 with h2 _ _
      subst h2
      exact wp_value hd h4 (quiet_fin hh hc2 h3)
    rcases hcls.1 with ⟨h2, hh⟩ | ⟨h2, h3, hh⟩ | ⟨h2, hh⟩
    · rcases (by omega : cls iop = 0 ∨ cls iop = 1) with h0 | h0
      · obtain ⟨v, Vv, h3, h4, h5⟩ := dPure (ι := ι) (w := w) (ac := ac) hc h0 hl he ok_ne (by rw [← henv]; exact h1)
        have h3 : Out.ok v (S i).t (S i).n = .ok (V i) (S (i + 1)).t (S (i + 1)).n := h3
        injection h3 with h3 _ _
        subst h3
        exact wp_value hd h5 (quiet_fin hh h2 h4)
      · have fin : ∀ {th : H}, un th g = g → (∃ t2 n2, denOp noY noIh iop (S i).l (S i).e th 0 okK = .ok (V i) t2 n2) ∨ (∃ t2 n2, denOp y ih iop (S i).l (S i).e th (S i).n okK = .ok (V i) t2 n2) → (ops.getD i default).wpIn (Fr ro) m P ac w next Q := by
          intro th hu h
          rcases h with ⟨t2, n2, h⟩ | ⟨t2, n2, h⟩
          · obtain ⟨v, Vv, h3, h4, h5⟩ := dRead (ι := ι) (w := w) (ac := ac) (KK := g) hc h0 (by rw [hu]; exact hR) hl he ok_ne (by rw [← henv]; exact h)
            have h3 : Out.ok v th 0 = .ok (V i) t2 n2 := h3
            injection h3 with h3 _ _
            subst h3
            exact wp_value hd h5 (quiet_fin hh h2 h4)
          · obtain ⟨v, Vv, h3, h4, h5⟩ := dRead (ι := ι) (w := w) (ac := ac) (KK := g) hc h0 (by rw [hu]; exact hR) hl he ok_ne (by rw [← henv]; exact h)
            have h3 : Out.ok v th (S i).n = .ok (V i) t2 n2 := h3
            injection h3 with h3 _ _
            subst h3
            exact wp_value hd h5 (quiet_fin hh h2 h4)
        cases ha : asked ops (Region.before ops) i with
        | true => exact fin hgp (.inl (asked_read X D Z I R hs0 hch ha hw ho))
        | false =>
          have hs := sync_read D I R (hcls.2 h0) ha hh
          exact fin (un_self fun b o hb => gi_get X hG hs (Nat.le_of_lt hi) I.ht hb) (.inr ⟨_, _, h1⟩)
    · have hpi : p ≤ i := by
        rcases I.hp with h4 | ⟨h, h4, h5⟩
        · omega
        · have h6 : h < ops.size := by have := I.pz; omega
          have h7 : Dn h := (I.hpd h h6 h4).2 (by omega)
          rcases Nat.lt_or_ge h i with h8 | h8
          · omega
          · have : h ≠ i := fun e => by subst e; unfold hvA at h4; rw [hh] at h4; cases h4
            exact absurd (cl_pre I.cl h7 (D.ord h i h6 hi h4 (.inr h3) (by omega))) R.nd
      obtain ⟨v, ob, h4⟩ := o_alloc h2 ok_ne h1
      injection h4 with _ h4 h5
      have hA : AS ops S i ob := ⟨h3, h4.symm, h5.symm⟩
      obtain ⟨h6, h7⟩ := gi_alloc X hG hi hpi hA R.nd I.ht hK
      obtain ⟨v', ob', h8, Vv, w', ι', h9, h10, h11, h12, h13⟩ := dAlloc (ι := ι) (w := w) (ac := ac) (g := g) hc h2 hR h6 hl he ok_ne (by rw [← henv]; exact h1)
      have h8 : Out.ok v' ((S i).t.set ob' (S i).n) ((S i).n + 1) = .ok (V i) (S (i + 1)).t (S (i + 1)).n := h8
      injection h8 with h8 h14 _
      subst h8
      have hob : ob' = ob := by
        have : ((S i).t.set ob' (S i).n).get (S i).n = ((S i).t.set ob (S i).n).get (S i).n := by rw [h14, hA.2.1]
        rw [M.get_set, M.get_set] at this; injection this
      subst hob
      refine wp_value hd h9 (hn ι' p w' Vv (di_next D I R hN h12.toExtC h13 h10 I.pz I.hp (hpd_quiet I hh) I.ht ?_ h11 h7))
      intro b hb; rw [h12.yl]; exact I.yt b hb
    · have hs := sync_heavy D I R hh
      have hti := X.q_ht I.ht hs.le (Nat.le_of_lt hi) hs.no
      have hni := X.n_mono hs.le (Nat.le_of_lt hi)
      have hun := side_un X hK hG hs hi hh I.ht
      refine op_ok (KK := side S i g) (n := (S i).n) (th := (S i).t) hc X.ym X.im hyo hih (by rw [hun]; exact hR) hti (I.yt.mono hni) hl he ok_ne (by rw [← henv]; exact h1) (fun v t' n' h3 => ?_) (fun v t' n' ι' w' Vv h3 h4 h5 h6 => ?_)
      · have h3 : Out.ok v t' n' = .ok (V i) (S (i + 1)).t (S (i + 1)).n := h3
        injection h3 with _ _ h3
        subst h3; exact side_kt
      · have h3 : Out.ok v t' n' = .ok (V i) (S (i + 1)).t (S (i + 1)).n := h3
        injection h3 with h3 h7 h8
        subst h3; subst h7; subst h8
        exact hn ι' (i + 1) w' Vv (di_next D I R hN h5.ext h5.frm h4 hi (.inr ⟨i, hh, rfl⟩) (hpd_heavy D I R hh) h5.ht h5.yt h5.rel (gi_heavy X hK hG hs hi hh I.ht))
end
end Ev
namespace Ev
open Go
variable [Told] [TokV] [ToldOK]
variable {P : Program} {tk : Tok} {L : List Nat} {ops : Array Oper} {y : Yh} {ih : Ih} {S : Nat → St} {V : Nat → AV} {ι ι0 : Rn} {w w0 : World} {ac ac0 : Act} {K0 KK : G} {N m p i n : Nat} {ro : Option Nat} {g : G} {Dn : Nat → Prop} {Q : Exit → Act → World → Prop} {r : Out} {e : T AV} {t : H}
theorem cnt_lt (f g : Nat → Bool) : ∀ (l : List Nat), (∀ h ∈ l, f h = true → g h = true) → (∃ x ∈ l, g x = true ∧ f x = false) → (l.filter f).length < (l.filter g).length
  | [], _, h => by obtain ⟨x, hx, _⟩ := h; cases hx
  | a :: l, h, hx => by
    obtain ⟨x, hx, h1, h2⟩ := hx
    rw [List.filter_cons, List.filter_cons]
    have ih1 := cnt_le f g l (fun x hx => h x (.tail _ hx))
    rcases List.mem_cons.1 hx with rfl | hx
    · rw [if_pos h1, if_neg (by simp [h2])]; simp only [List.length_cons]; omega
    · have ih2 := cnt_lt f g l (fun x hx => h x (.tail _ hx)) ⟨x, hx, h1, h2⟩
      cases hf : f a with
      | true => rw [if_pos rfl, if_pos (h a (.head _) hf)]; simp only [List.length_cons]; omega
      | false =>
        rw [if_neg (by simp)]
        split
        · simp only [List.length_cons]; omega
        · exact ih2
def Ld (listed : Array Bool) : Nat → Prop := fun j => listed.getD j false = true
def unl (ops : Array Oper) (listed : Array Bool) : Nat := ((List.range ops.size).filter fun j => !listed.getD j false).length
theorem ld_set {listed : Array Bool} (hi : i < listed.size) : Ld (listed.setIfInBounds i true) = fun j => Ld listed j ∨ j = i := by
  funext j
  refine propext ⟨fun h => ?_, fun h => ?_⟩
  · by_cases hij : i = j
    · exact .inr hij.symm
    · unfold Ld at h; rw [getD_set_ne false hij] at h; exact .inl h
  · rcases h with h | h
    · exact getD_set_true h
    · subst h; simp [Ld, hi]
theorem getD_tf {listed : Array Bool} {j : Nat} (hj : j < listed.size) : listed.getD j true = listed.getD j false := by simp [Array.getD_eq_getD_getElem?, hj]
theorem all_ld {listed : Array Bool} (hs : listed.size = ops.size) (hd : ∀ i, i < ops.size → ∀ e ∈ (ops.getD i default).after, Region.binds .any e = true → e.on < i) (h : Region.ready .any ops listed = []) : ∀ j, j < ops.size → Ld listed j := by
  intro j
  induction j using Nat.strongRecOn with
  | _ j ihj =>
    intro hj
    cases hl : listed.getD j false with
    | true => exact hl
    | false =>
      have : j ∈ Region.ready .any ops listed := mem_ready.2 ⟨by rw [getD_tf (by omega)]; exact hl, ops.getD j default, some_getD hj, fun e he hb => ihj e.on (hd j hj e he hb) (by have := hd j hj e he hb; omega)⟩
      rw [h] at this; cases this
theorem ld_ready {listed : Array Bool} (hs : listed.size = ops.size) (h : ∀ j, j < ops.size → Ld listed j) : Region.ready .any ops listed = [] := by
  apply List.eq_nil_iff_forall_not_mem.2
  intro j hj
  obtain ⟨h1, o, h2, _⟩ := mem_ready.1 hj
  have hlt := (Array.getElem?_eq_some_iff.1 h2).1
  have := h j hlt
  unfold Ld at this
  rw [getD_tf (by omega), this] at h1; cases h1
section
variable (X : Tr P L ops y ih S V) (D : Dr P L ops) (Z : S0 L S)
include X D Z
theorem any_ok (hyo : YOK P tk y ι0 w0) (hih : IhOK P tk ih) (hK : KT K0 (S ops.size).n) (hs0 : (S 0).hs = [(S 0).t]) (hch : ∀ lo c o d, (lo, c, o, d) ∈ drawChk P L ops (Region.before ops) → (∀ s b, o.guard = some (s, b) → ∀ g, lk (S ops.size).l (S ops.size).e s = some g → gV g b = true) →
      ∃ v, lk (S ops.size).l (S ops.size).e d = some v ∧ ∀ j, lo ≤ j → j < lo + c → ∃ t, lnthH (S ops.size).hs.reverse j = some t ∧ ∃ t2 n2, denOp noY noIh o.op (S ops.size).l (S ops.size).e t 0 okK = .ok v t2 n2)
    (hN : ∀ i d, i < ops.size → dstA ops i = some d → d < N)
    (hQ : ∀ ι p ac w, DI ops S V ι0 w0 ac0 K0 N (fun j => j < ops.size) ι p ac w → Q .normal ac w) : ∀ (fuel : Nat) (listed : Array Bool) (ι : Rn) (p : Nat) (ac : Act) (w : World), listed.size = ops.size → DI ops S V ι0 w0 ac0 K0 N (Ld listed) ι p ac w → unl ops listed ≤ fuel →
      wpAnyIn (Fr ro) m P .any ops Q fuel listed ac w := by
  have fin : ∀ (listed : Array Bool) (ι : Rn) (p : Nat) (ac : Act) (w : World), listed.size = ops.size → DI ops S V ι0 w0 ac0 K0 N (Ld listed) ι p ac w → (∀ j, j < ops.size → Ld listed j) → Q .normal ac w := by
    intro listed ι p ac w hs I h
    refine hQ ι p ac w ?_
    have : Ld listed = fun j => j < ops.size := by
      funext j
      exact propext ⟨fun hj => (I.cl j hj).1, h j⟩
    rw [← this]; exact I
  intro fuel
  induction fuel with
  | zero =>
    intro listed ι p ac w hs I hu
    have hall : ∀ j, j < ops.size → Ld listed j := fun j hj => by
      unfold unl at hu
      have h0 : (List.range ops.size).filter (fun j => !listed.getD j false) = [] := List.eq_nil_of_length_eq_zero (by omega)
      have := (List.filter_eq_nil_iff.1 h0) j (List.mem_range.2 hj)
      unfold Ld
      cases hl : listed.getD j false with
      | true => rfl
      | false => rw [hl] at this; simp at this
    exact ⟨ld_ready hs hall, fin listed ι p ac w hs I hall⟩
  | succ fuel ihf =>
    intro listed ι p ac w hs I hu
    refine ⟨fun h => fin listed ι p ac w hs I (all_ld hs D.down h), fun i hi => ?_⟩
    obtain ⟨h1, o, h2, h3⟩ := mem_ready.1 hi
    have hlt := (Array.getElem?_eq_some_iff.1 h2).1
    have hnl : listed.getD i false = false := by rw [← getD_tf (by omega)]; exact h1
    have R : Rd ops (Ld listed) i := ⟨hlt, fun h => (by unfold Ld at h; rw [hnl] at h; cases h), fun e he hb => h3 e (by rw [getD_some h2] at he; exact he) hb⟩
    have key := draw_step (ro := ro) (m := m) (Q := Q) X D Z I R (hyo.mono I.ext I.frm) hih hK hs0 hch (fun d hd => hN i d hlt hd) (next := wpAnyIn (Fr ro) m P .any ops Q fuel (listed.setIfInBounds i true)) (fun ι' p' w' Vv I' => by
      refine ihf _ ι' p' _ w' (by simp [hs]) (by rw [ld_set (by omega)]; exact I') ?_
      have : unl ops (listed.setIfInBounds i true) < unl ops listed := by
        refine cnt_lt _ _ _ (fun j _ hj => ?_) ⟨i, List.mem_range.2 hlt, by simp only [hnl]; rfl, ?_⟩
        · cases hl : listed.getD j false with
          | false => rfl
          | true => rw [getD_set_true hl] at hj; cases hj
        · have : Ld (listed.setIfInBounds i true) i := by rw [ld_set (by omega)]; exact .inr rfl
          unfold Ld at this; rw [this]; rfl
      omega)
    rw [getD_some h2] at key
    unfold wpOpIn
    rw [h2]
    unfold wpG at key
    simp only
    split
    · rename_i hw; rw [if_pos hw] at key; exact key
    · rename_i hw; rw [if_neg hw] at key; exact ⟨fun f _ => fr_fn ro f, key⟩
omit D in
theorem di_end (I : DI ops S V ι0 w0 ac0 K0 N (fun j => j < ops.size) ι p ac w) :
    Rel ι (un (S ops.size).t K0) w ∧ HT (S ops.size).t (S ops.size).n ∧ YT ι (S ops.size).n ∧ RI L N ι (S ops.size).l (S ops.size).e ac.tmps := by
  obtain ⟨g, hR, hG⟩ := I.rel
  have hs : Sy ops S (fun j => j < ops.size) p ops.size := ⟨I.pz, fun j h1 h2 => by
    cases hh : hvA ops j with
    | false => rfl
    | true => have := (I.hpd j h2 hh).1 h2; omega, fun a ob h1 _ => h1⟩
  have hgu : g = un (S ops.size).t K0 := by
    funext b
    unfold un
    cases hb : (S ops.size).t.get b with
    | some o => exact gi_get X hG hs (Nat.le_refl _) I.ht hb
    | none =>
      refine ((hG b).2 ?_).2 fun a ob h1 h2 _ h4 h5 => ?_
      · cases hb' : (S p).t.get b with
        | none => rfl
        | some o => rw [X.q_get2 I.ht hb' I.pz (Nat.le_refl _) hs.no] at hb; cases hb
      · rw [← h5, X.q_get3 I.ht h1 h4 h2 (Nat.le_refl _) hs.no] at hb; cases hb
  have hlk : ∀ s v, lk (S ops.size).l (S ops.size).e s = some v → ∃ x, toV ι v = some x ∧ ac.tmps[s]? = some x := fun s v h => by
    rcases X.tv Z.e Z.l (Nat.le_refl _) h with ⟨j, h1, h2, rfl⟩ | ⟨h1, h2⟩
    · exact I.sl1 j s h1 h2
    · exact I.sl2 s v (fun j hj => h1 j hj) h2
  obtain ⟨hel, hll⟩ := X.el Z.e Z.l ops.size (Nat.le_refl _)
  refine ⟨by rw [← hgu]; exact hR, X.q_ht I.ht I.pz (Nat.le_refl _) hs.no, I.yt.mono (X.n_mono I.pz (Nat.le_refl _)), fun s v h => hlk s v (by simp [lk, h]), fun s v h => hlk s v ?_, hel, hll, I.sz⟩
  have : (S ops.size).l.get s = none := hll s fun hL => by rw [hel s hL] at h; cases h
  simp [lk, this, h]
end
theorem drawn_ok {chk : List (Nat × Nat × IOper × Nat)} {k : KD} (hc : cDraw P L ops = some chk) (hYM : YM y) (hI : IM ih) (hyo : YOK P tk y ι w) (hih : IhOK P tk ih) (hR : Rel ι (un t KK) w) (hH : HT t n) (hY : YT ι n)
    (hi : RI L N ι .leaf e ac.tmps) (hd : ∀ o ∈ ops, ∀ d, o.dst = some d → d < N) (hr : NE r) (h : cDrawn (ops.toList.map (cOper P L ops)) chk y ih e t n k = r) (hk : ∀ e' t' n', k e' t' n' = r → KT KK n')
    (hQ : ∀ l' e' t' n' ι' ac' w', k e' t' n' = r → n ≤ n' → PC KK ι w t' n' ι' w' → RI L N ι' l' e' ac'.tmps → ac'.defers = ac.defers → Q .normal ac' w') :
    wpAnyIn (Fr ro) m P .any ops Q ops.size (Array.replicate ops.size false) ac { w with drawn := w.drawn + 1 } := by
  unfold cDraw at hc
  split at hc
  · rename_i hok
    injection hc with hc
    have D := dr_of hok
    obtain ⟨S, V, h0, h1, h2⟩ := trace_ex _ ⟨.leaf, e, t, n, [t]⟩ _ hr h
    obtain ⟨h3, h4⟩ := denChk_inv hr h2
    have hlen : (ops.toList.map (cOper P L ops)).length = ops.size := by simp
    rw [hlen] at h3 h4
    have X : Tr P L ops y ih S V := ⟨fun j hj => h1 j _ (by rw [List.getElem?_map, Array.getElem?_toList, some_getD hj]; rfl), hYM, hI⟩
    have Z : S0 L S := ⟨fun d hd => by rw [h0]; exact hi.el d hd, fun d _ => by rw [h0]; exact T.get_leaf d⟩
    have hN : ∀ i d, i < ops.size → dstA ops i = some d → d < N := fun i d h1 h2 => hd (ops.getD i default) (Array.mem_of_getElem? (some_getD h1)) d h2
    refine any_ok (ι0 := ι) (w0 := w.drew) (ac0 := ac) (K0 := KK) (N := N) X D Z (hyo.mono (.refl _ _) Frm.drew) hih (hk _ _ _ h3) (by rw [h0]) (by rw [hc]; exact h4) hN (fun ι' p ac' w' I => ?_) ops.size _ ι 0 ac _ (by simp) ?_ ?_
    · obtain ⟨g1, g2, g3, g4⟩ := di_end X Z I
      have hn0 : n ≤ (S ops.size).n := by
        have := X.n_mono (i := 0) (j := ops.size) (Nat.zero_le _) (Nat.le_refl _)
        rw [h0] at this; exact this
      exact hQ _ _ _ _ ι' ac' w' h3 hn0 ⟨g1, I.ext, I.frm.of_drew, g2, g3⟩ g4 I.df
    · have hnl : ∀ j, ¬ Ld (Array.replicate ops.size false) j := fun j h => by
        unfold Ld at h
        rw [Array.getD_eq_getD_getElem?, Array.getElem?_replicate] at h
        split at h <;> simp at h
      refine ⟨fun j hj => absurd hj (hnl j), .refl _ _, .refl _ _, fun j s hj => absurd hj (hnl j), fun s v _ hv => ?_, hi.sz, rfl, Nat.zero_le _, .inl rfl, fun h _ _ => ⟨fun hj => absurd hj (hnl h), fun hj => by omega⟩, by rw [h0]; exact hH, by rw [h0]; exact hY, un t KK, hR.drew, ?_⟩
      · rw [h0] at hv
        have hv : lk .leaf e s = some v := hv
        unfold lk at hv
        rw [T.get_leaf] at hv
        exact hi.te s v hv
      · intro b
        rw [h0]
        refine ⟨fun o ho => un_get ho, fun hb => ⟨fun a ob _ _ hj => absurd hj (hnl a), fun _ => ?_⟩⟩
        have hb : t.get b = none := hb
        simp [un, hb]
    · unfold unl
      have : ((List.range ops.size).filter fun j => !(Array.replicate ops.size false).getD j false).length ≤ (List.range ops.size).length := List.length_filter_le _ _
      simpa using this
  · cases hc
end Ev
namespace Ev
open Go
variable [Told] [TokV] [ToldOK]
variable {P : Program} {tk : Tok} {L : List Nat} {y : Yh} {ih : Ih} {ι ι' : Rn} {w w' : World} {ac : Act} {KK : G} {N M m n : Nat} {ro : Option Nat} {g : G} {Q : Exit → Act → World → Prop} {r : Out} {e : T AV} {t : H}
structure Un (ι : Rn) (r : Nat) : Prop where
  blk : ∀ b e x, ι.blk b e = some x → x.1 ≠ r
  mp : ∀ b q, ι.mp b = some q → q ≠ r
theorem Un.mono {r : Nat} (h : Un ι r) (he : ExtC w.heap.size ι ι') (hr : r < w.heap.size) : Un ι' r :=
  ⟨fun b e x hx => by
    rcases he.nblk b e x hx with ⟨b0, e0, x0, h1, h2⟩ | h1
    · rw [← h2]; exact h.blk b0 e0 x0 h1
    · omega, fun b q hq => by
    rcases he.nmp b q hq with h1 | h1
    · exact h.mp b q h1
    · omega⟩
theorem Un.new (hR : Rel ι g w) {r : Nat} (hr : w.heap.size ≤ r) : Un ι r :=
  ⟨fun b e x hx => by have := blk_lt hR hx; omega, fun b q hq => by have := mp_lt hR hq; omega⟩
theorem Frm.at {r : Nat} {ob : Obj} (h : Frm ι w w') (hu : Un ι r) (ho : w.heap[r]? = some ob) : w'.heap[r]? = some ob := by
  rw [h.block r (Array.getElem?_eq_some_iff.1 ho).1 hu.blk hu.mp]; exact ho
theorem Rel.setO {r : Nat} {ob : Obj} (hR : Rel ι g w) (hu : Un ι r) (hno : ∀ cs ty fz, w.heap[r]? ≠ some (.cells cs ty fz)) : Rel ι g { w with heap := w.heap.setIfInBounds r ob } := by
  have oth : ∀ r', r' ≠ r → (w.heap.setIfInBounds r ob)[r']? = w.heap[r']? := fun r' h => Array.getElem?_setIfInBounds_ne (fun e => h e.symm)
  refine ⟨fun b o hb => ?_, hR.non, hR.inj, hR.injm, hR.arg.keep (fun rb cs ty fz h1 _ => oth rb fun e => by subst e; exact hno _ _ _ h1) fun b e x hx => .inl ⟨b, e, x, hx, rfl⟩⟩
  have h := hR.obj b o hb
  cases o with
  | row sz c n ep =>
    obtain ⟨g1, g2, g3, g4⟩ := h
    refine ⟨g1, g2, g3, fun e he => ?_⟩
    obtain ⟨rb, cap, cs0, k1, ⟨ty, fz, q1, q2⟩, k3, k4⟩ := g4 e he
    exact ⟨rb, cap, cs0, k1, ⟨ty, fz, by rw [oth rb (hu.blk _ _ _ k1)]; exact q1, q2⟩, k3, k4⟩
  | mp es0 ver0 =>
    obtain ⟨g1, g1v, r2, ents2, clock2, g2, g2v, g3, g4⟩ := h
    exact ⟨g1, g1v, r2, ents2, clock2, g2, g2v, by show (w.heap.setIfInBounds r ob)[r2]? = _; rw [oth r2 (hu.mp _ _ g2)]; exact g3, g4⟩
theorem Rel.push {ob : Obj} (hR : Rel ι g w) : Rel ι g (w.alloc ob) :=
  ⟨fun b o hb => objOk_push (.refl ι) (fun _ => rfl) rfl (fun _ => rfl) (hR.obj b o hb), hR.non, hR.inj, hR.injm, hR.argKeep (frm_push _) (.refl _ _)⟩
def mark (r : Nat) : Deferred := { target := .collected r, args := #[] }
def Mk (M : Nat) (ι : Rn) (w : World) (ds : List Deferred) : Prop := ∃ rs : List Nat, ds = rs.map mark ∧ rs.Nodup ∧ ∀ r ∈ rs, M ≤ r ∧ w.heap[r]? = some (.deferred (some [])) ∧ Un ι r
theorem Mk.nil : Mk M ι w [] := ⟨[], rfl, .nil, fun r h => by cases h⟩
theorem Mk.mono {ds : List Deferred} (h : Mk M ι w ds) (he : ExtC w.heap.size ι ι') (hf : Frm ι w w') : Mk M ι' w' ds := by
  obtain ⟨rs, h1, h2, h3⟩ := h
  refine ⟨rs, h1, h2, fun r hr => ?_⟩
  obtain ⟨h4, h5, h6⟩ := h3 r hr
  exact ⟨h4, hf.at h6 h5, h6.mono he (Array.getElem?_eq_some_iff.1 h5).1⟩
structure Iv (L : List Nat) (N M : Nat) (ι : Rn) (e : T AV) (ac : Act) (w : World) : Prop where
  tr : TR ι e ac.tmps
  el : ∀ d ∈ L, e.get d = none
  sz : ac.tmps.size = N
  mks : Mk M ι w ac.defers
  hm : M ≤ w.heap.size
theorem Iv.ri (h : Iv L N M ι e ac w) : RI L N ι .leaf e ac.tmps := ⟨TR.leaf _ _, h.tr, h.el, fun d _ => T.get_leaf d, h.sz⟩
theorem RI.inv {l : T AV} {ac' : Act} (h : RI L N ι' l e ac'.tmps) (h0 : ac'.defers = ac.defers) (hk : Mk M ι w ac.defers) (hm : M ≤ w.heap.size) (he : ExtC w.heap.size ι ι') (hf : Frm ι w w') : Iv L N M ι' e ac' w' :=
  ⟨h.te, h.el, h.sz, by rw [h0]; exact hk.mono he hf, Nat.le_trans hm hf.size⟩
def Lv (r : Out) (x : Exit) (e : T AV) (t : H) (n : Nat) : Prop := (∃ i, r = .exit i e t n ∧ x = .exit i) ∨ (∃ i, r = .goto i e t n ∧ x = .goto i) ∨ (r = .ret e t n ∧ x = .ret)
def CodeOK (P : Program) (tk : Tok) (L : List Nat) (N : Nat) (nb : Bool) (c : Code) (d : DC) : Prop := ∀ (ro : Option Nat) (m M : Nat) (y : Yh) (ih : Ih) (e : T AV) (t : H) (n : Nat) (k : KD) (r : Out) (KK : G) (ι : Rn) (w : World) (ac : Act) (Q : Exit → Act → World → Prop),
  (ro = none ∨ nb = true) → YM y → IM ih → IhOK P tk ih → YOK P tk y ι w → NE r → d y ih e t n k = r → (∀ e t n, k e t n = r → n ≤ top r) → KT KK (top r) → Rel ι (un t KK) w → HT t n → YT ι n → Iv L N M ι e ac w →
  (∀ e' t' n' ι' ac' w', k e' t' n' = r → PC KK ι w t' n' ι' w' → Iv L N M ι' e' ac' w' → Q .normal ac' w') →
  (∀ x e' t' n' ι' ac' w', Lv r x e' t' n' → PC KK ι w t' n' ι' w' → Iv L N M ι' e' ac' w' → Q x ac' w') → c.wpIn (Fr ro) m P Q ac w
theorem stepR_scope {b : Frame} {a : Act} {k : List Item} {cs : List Frame} {c : Code} : step P (lone (b.atR a (.code (.scope c) :: k)) cs w) = .next (lone (b.atR a (.code c :: .inScope c :: k)) cs w) :=
  step_lone_go (by simp [stepG, stepG.exec, Frame.atR])
theorem stepR_inScope {b : Frame} {a : Act} {k : List Item} {cs : List Frame} {c : Code} : step P (lone (b.atR a (.inScope c :: k)) cs w) = .next (lone (b.atR a k) cs w) :=
  step_lone_go (by simp [stepG, stepG.exec, Frame.atR])
def jump (c : Code) (J : Code → Act → World → Prop) (Q : Exit → Act → World → Prop) : Exit → Act → World → Prop
  | .goto l, a, w => match findLabel c l with
    | some rest => J rest a w
    | none => Q (.goto l) a w
  | x, a, w => Q x a w
def scopeIn (F : Fence) (m : Nat) (P : Program) (c : Code) (Q : Exit → Act → World → Prop) : Nat → Code → Act → World → Prop
  | 0, _, _, _ => False
  | f + 1, d, a, w => d.wpIn F m P (jump c (scopeIn F m P c Q f) Q) a w
theorem wpIn_scope_n {F : Fence} {c : Code} (f : Nat) (h : scopeIn F m P c Q f c ac w) : (Code.scope c).wpIn F m P Q ac w := by
  intro b k cs hro hb hr
  have key : ∀ f (d : Code) a w, scopeIn F m P c Q f d a w →
      ∃ e a' w', Q e a' w' ∧ ArrivesIn (Machine.fenced P F) P (lone (b.atR a (.code d :: .inScope c :: k)) cs w) b k cs e a' w' := by
    intro f
    induction f with
    | zero => intro d a w h; exact h.elim
    | succ f ih =>
      intro d a w h
      obtain ⟨e, a₁, w₁, hq, harr⟩ := h b (.inScope c :: k) cs hro hb hr
      cases e with
      | normal => exact ⟨.normal, a₁, w₁, hq, StepsIn.trans harr (.one (fenced_calm hb hr rfl) stepR_inScope)⟩
      | exit id =>
        have hx : exitTo id (.inScope c :: k) = exitTo id k := by simp [exitTo]
        exact ⟨.exit id, a₁, w₁, hq, fun k' hk => harr.1 k' (by rw [hx]; exact hk), fun hr' hk => harr.2 hr' (by rw [hx]; exact hk)⟩
      | goto l =>
        cases hf : findLabel c l with
        | some rest =>
          simp only [jump, hf] at hq
          obtain ⟨e₂, a₂, w₂, hq₂, harr₂⟩ := ih rest a₁ w₁ hq
          exact ⟨e₂, a₂, w₂, hq₂, .of_steps (harr.1 _ (by simp [gotoIn, hf])) harr₂⟩
        | none =>
          simp only [jump, hf] at hq
          have hx : gotoIn l (.inScope c :: k) = gotoIn l k := by simp [gotoIn, hf]
          exact ⟨.goto l, a₁, w₁, hq, fun k' hk => harr.1 k' (by rw [hx]; exact hk), fun hr' hk => harr.2 hr' (by rw [hx]; exact hk)⟩
      | ret => exact ⟨_, a₁, w₁, hq, harr⟩
      | panic ch => exact ⟨_, a₁, w₁, hq, harr⟩
      | outgrown => exact ⟨_, a₁, w₁, hq, harr⟩
  obtain ⟨e, a', w', hq, harr⟩ := key f c ac w h
  exact ⟨e, a', w', hq, .of_steps (.one (fenced_calm hb hr rfl) stepR_scope) harr⟩
end Ev
namespace Ev
open Go
section
variable [Told] [TokV] [ToldOK]
variable {F : Fence} {m : Nat} {P : Program} {ops : Array Oper} {Q : Exit → Act → World → Prop} {o : List Nat}
structure LayP (o : List Nat) (n : Nat) : Prop where
  len : o.length = n
  lt : ∀ j, j < n → o.getD j n < n
  inv : ∀ j, j < n → o.idxOf (o.getD j n) = j
  all : ∀ i, i < n → o.idxOf i < n
theorem layP_of {n : Nat} (h : layOk o n = true) : LayP o n := by
  unfold layOk at h
  simp only [Bool.and_eq_true, List.all_eq_true, List.mem_range, decide_eq_true_eq] at h
  exact ⟨Nat.eq_of_beq_eq_true h.1, fun j hj => (h.2 j hj).1.1, fun j hj => Nat.eq_of_beq_eq_true (h.2 j hj).1.2, fun i hi => (h.2 i hi).2⟩
variable (L : LayP o ops.size)
include L
theorem LayP.size : (layBy o ops).size = ops.size := by simp [layBy, L.len]
theorem LayP.out {i : Nat} (hi : ¬ i < ops.size) : ¬ o.idxOf i < ops.size := by
  intro h
  have h1 : o.idxOf i < o.length := by rw [L.len]; exact h
  have h2 : i ∈ o := List.idxOf_lt_length_iff.1 h1
  obtain ⟨k, hk, h3⟩ := List.mem_iff_getElem.1 h2
  have := L.lt k (by rw [← L.len]; exact hk)
  rw [List.getD_eq_getElem?_getD, List.getElem?_eq_getElem hk, h3] at this
  exact hi this
theorem LayP.at {j : Nat} (hj : j < ops.size) : (layBy o ops)[j]? = some (layE o (ops.getD (o.getD j ops.size) default)) := by
  have hk : j < o.length := by rw [L.len]; exact hj
  simp [layBy, List.getD_eq_getElem?_getD, List.getElem?_eq_getElem hk]
theorem LayP.back {i : Nat} (hi : i < ops.size) : o.getD (o.idxOf i) ops.size = i := by
  have h1 : o.idxOf i < o.length := by rw [L.len]; exact L.all i hi
  rw [List.getD_eq_getElem?_getD, List.getElem?_eq_getElem h1]
  exact List.getElem_idxOf h1
theorem LayP.of {i : Nat} (hi : i < ops.size) : (layBy o ops)[o.idxOf i]? = some (layE o (ops.getD i default)) := by
  rw [L.at (L.all i hi), L.back hi]
theorem LayP.yie (ts : Array Value) (j : Nat) : yielded (layBy o ops) ts (o.idxOf j) = yielded ops ts j := by
  unfold yielded
  by_cases h : j < ops.size
  · rw [L.of h, some_getD h]; rfl
  · have h1 : ops[j]? = none := by simp; omega
    have h2 : (layBy o ops)[o.idxOf j]? = none := by
      have := L.out h
      have hs := L.size
      simp; omega
    rw [h1, h2]
theorem LayP.wnt (ts : Array Value) (x : Oper) : Region.wanted (layE o x) (yielded (layBy o ops) ts) = Region.wanted x (yielded ops ts) := by
  unfold Region.wanted
  cases hg : x.guard with
  | none => simp [layE, hg]
  | some q => obtain ⟨j, b⟩ := q; simp [layE, hg, L.yie]
def Lst (o : List Nat) (l' l : Array Bool) : Prop := ∀ i, i < l.size → l'.getD (o.idxOf i) false = l.getD i false
theorem LayP.ready1 {l' l : Array Bool} (hs : l.size = ops.size) (hs' : l'.size = ops.size) (hl : Lst o l' l) {i : Nat} (h : i ∈ Region.ready .any ops l) : o.idxOf i ∈ Region.ready .any (layBy o ops) l' := by
  obtain ⟨h1, x, h2, h3⟩ := mem_ready.1 h
  have hi := (Array.getElem?_eq_some_iff.1 h2).1
  refine mem_ready.2 ⟨?_, _, L.of hi, fun e he hb => ?_⟩
  · rw [getD_tf (by rw [hs']; exact L.all i hi), hl i (by omega), ← getD_tf (by omega)]; exact h1
  · rw [getD_some h2] at he
    simp only [layE, Array.mem_map] at he
    obtain ⟨e0, h4, rfl⟩ := he
    have h5 := h3 e0 h4 hb
    by_cases h6 : e0.on < l.size
    · show l'.getD (o.idxOf e0.on) false = true
      rw [hl _ h6]; exact h5
    · simp [Array.getD_eq_getD_getElem?, h6] at h5
theorem LayP.ready2 {l' l : Array Bool} (hs : l.size = ops.size) (hs' : l'.size = ops.size) (hl : Lst o l' l) (h : Region.ready .any ops l = []) : Region.ready .any (layBy o ops) l' = [] := by
  apply List.eq_nil_iff_forall_not_mem.2
  intro j hj
  obtain ⟨h1, x, h2, h3⟩ := mem_ready.1 hj
  have hj' := (Array.getElem?_eq_some_iff.1 h2).1
  rw [L.size] at hj'
  have hi := L.lt j hj'
  have hji := L.inv j hj'
  rw [L.at hj'] at h2
  injection h2 with h2
  have : o.getD j ops.size ∈ Region.ready .any ops l := by
    refine mem_ready.2 ⟨?_, _, some_getD hi, fun e he hb => ?_⟩
    · rw [getD_tf (by omega), ← hl _ (by omega), hji, ← getD_tf (by omega)]; exact h1
    · have h4 := h3 { e with on := o.idxOf e.on } (by rw [← h2]; simp only [layE, Array.mem_map]; exact ⟨e, he, rfl⟩) hb
      have h4 : l'.getD (o.idxOf e.on) false = true := h4
      by_cases h6 : e.on < l.size
      · rw [← hl _ h6]; exact h4
      · have := L.out (i := e.on) (by omega)
        simp [Array.getD_eq_getD_getElem?, show ¬ o.idxOf e.on < l'.size by omega] at h4
  rw [h] at this; cases this
theorem LayP.op {i : Nat} (hi : i < ops.size) {K K' : Act → World → Prop} {a : Act} {w : World} (hK : ∀ a w, K' a w → K a w) (h : wpOpIn F m P (layBy o ops) Q (o.idxOf i) K' a w) : wpOpIn F m P ops Q i K a w := by
  have h := wpOpIn_mono hK h
  unfold wpOpIn at h ⊢
  rw [L.of hi] at h
  rw [some_getD hi]
  have h : if Region.wanted (layE o (ops.getD i default)) (yielded (layBy o ops) a.tmps) = true then _ else _ := h
  rw [L.wnt] at h
  exact h
theorem LayP.any : ∀ (fuel : Nat) (l' l : Array Bool) (a : Act) (w : World), l.size = ops.size → l'.size = ops.size → Lst o l' l → wpAnyIn F m P .any (layBy o ops) Q fuel l' a w → wpAnyIn F m P .any ops Q fuel l a w := by
  intro fuel
  induction fuel with
  | zero =>
    intro l' l a w hs hs' hl h
    refine ⟨?_, h.2⟩
    apply List.eq_nil_iff_forall_not_mem.2
    intro i hi
    have := L.ready1 hs hs' hl hi
    rw [h.1] at this; cases this
  | succ fuel ih =>
    intro l' l a w hs hs' hl h
    refine ⟨fun h0 => h.1 (L.ready2 hs hs' hl h0), fun i hi => ?_⟩
    have hlt : i < ops.size := by
      obtain ⟨_, x, h2, _⟩ := mem_ready.1 hi
      exact (Array.getElem?_eq_some_iff.1 h2).1
    refine L.op hlt (fun a w hh => ih _ _ a w (by simp [hs]) (by simp [hs']) ?_ hh) (h.2 _ (L.ready1 hs hs' hl hi))
    intro k hk
    have hk : k < l.size := by simpa using hk
    by_cases hki : k = i
    · subst hki
      simp [Array.getD_eq_getD_getElem?, L.all k hlt, hs, hs', hlt]
    · have hne : o.idxOf i ≠ o.idxOf k := fun e => hki (by
        have h1 := L.back hlt
        have h2 := L.back (i := k) (by omega)
        rw [e] at h1; rw [← h1, h2])
      rw [getD_set_ne false hne, getD_set_ne false (fun e => hki e.symm)]
      exact hl k hk
omit L
theorem lay_any {ops' : Array Oper} (h : layO ops = some ops') {a : Act} {w : World} (hw : wpAnyIn F m P .any ops' Q ops'.size (Array.replicate ops'.size false) a w) : wpAnyIn F m P .any ops Q ops.size (Array.replicate ops.size false) a w := by
  unfold layO at h
  simp only at h
  split at h
  · rename_i hc
    injection h with h; subst h
    have L := layP_of hc
    rw [L.size] at hw
    exact L.any _ _ _ a w (by simp) (by simp) (fun i hi => by
      have hi : i < ops.size := by simpa using hi
      simp [Array.getD_eq_getD_getElem?, hi, L.all i hi]) hw
  · cases h
theorem lay_dst {ops' : Array Oper} (h : layO ops = some ops') {N : Nat} (hd : ∀ x ∈ ops, ∀ d, x.dst = some d → d < N) : ∀ x ∈ ops', ∀ d, x.dst = some d → d < N := by
  unfold layO at h
  simp only at h
  split at h
  · rename_i hc
    injection h with h; subst h
    have L := layP_of hc
    intro x hx d hxd
    obtain ⟨j, hj, hx⟩ := Array.mem_iff_getElem.1 hx
    have h1 := L.at (by rw [← L.size]; exact hj)
    rw [Array.getElem?_eq_getElem hj, hx] at h1
    injection h1 with h1
    subst h1
    exact hd _ (Array.mem_of_getElem? (some_getD (L.lt j (by rw [← L.size]; exact hj)))) d hxd
  · cases h
end
end Ev
namespace Ev
open Go
variable [Told] [TokV] [ToldOK]
variable {P : Program} {tk : Tok} {L : List Nat} {N : Nat} {nb nb' : Bool} {c c' : Code} {d d' : DC}
theorem ok_skip : CodeOK P tk L N nb .skip cSkip := fun _ _ _ _ _ _ _ _ _ _ _ _ _ _ _ _ _ _ _ _ _ h _ _ hR hH hY hi hQ _ => wpIn_skip (hQ _ _ _ _ _ _ h (.refl hR hH hY) hi)
theorem ok_label {l : Nat} : CodeOK P tk L N nb (.label l) cSkip := fun _ _ _ _ _ _ _ _ _ _ _ _ _ _ _ _ _ _ _ _ _ h _ _ hR hH hY hi hQ _ => wpIn_label (hQ _ _ _ _ _ _ h (.refl hR hH hY) hi)
theorem ok_exit {i : Nat} : CodeOK P tk L N nb (.exit i) (cExit i) := fun _ _ _ _ _ _ _ _ _ _ _ _ _ _ _ _ _ _ _ _ _ h _ _ hR hH hY hi _ hL => wpIn_exit (hL _ _ _ _ _ _ _ (.inl ⟨_, h.symm, rfl⟩) (.refl hR hH hY) hi)
theorem ok_goto {i : Nat} : CodeOK P tk L N nb (.goto i) (cGoto i) := fun _ _ _ _ _ _ _ _ _ _ _ _ _ _ _ _ _ _ _ _ _ h _ _ hR hH hY hi _ hL => wpIn_goto (hL _ _ _ _ _ _ _ (.inr (.inl ⟨_, h.symm, rfl⟩)) (.refl hR hH hY) hi)
theorem ok_ret : CodeOK P tk L N nb .ret cRet := fun _ _ _ _ _ _ _ _ _ _ _ _ _ _ _ _ _ _ _ _ _ h _ _ hR hH hY hi _ hL => wpIn_ret (hL _ _ _ _ _ _ _ (.inr (.inr ⟨h.symm, rfl⟩)) (.refl hR hH hY) hi)
theorem ok_bad {q : Nat} : CodeOK P tk L N nb c (cBad q) := fun _ _ _ _ _ _ _ _ _ _ _ _ _ _ _ _ _ _ _ _ hr h _ _ _ _ _ _ _ _ => absurd h.symm (hr _)
theorem ok_ops {id : Nat} {ops : Array Oper} (hd : ∀ o ∈ ops, ∀ d, o.dst = some d → d < N) : CodeOK P tk L N nb (.region id ops false) (cOps (ops.toList.map (cOper P L ops))) := by
  intro ro m M y ih e t n k r KK ι w ac Q _ hYM hI hih hyo hr h hk hK hR hH hY hi hQ _
  refine wpIn_region ?_
  have := opsIn_ok (ro := ro) (m := m) (Q := Q) (KK := KK) (L := L) (N := N) (r := r) ops.toList 0 .leaf e t n ι ac w k rfl hYM hI hyo hih hR hH hY hi.ri (fun o ho => hd o (by simpa using ho)) hr h (fun e' t' n' h1 => hK.mono (hk _ _ _ h1))
    (fun l' e' t' n' ι' ac' w' h1 _ h2 h3 h4 => hQ _ _ _ _ _ _ h1 h2 (h3.inv h4 hi.mks hi.hm h2.ext h2.frm))
  rw [List.range_eq_range']
  simpa using this
theorem ok_draw {id : Nat} {ops : Array Oper} {chk : List (Nat × Nat × IOper × Nat)} (hm : P.follows .mixedOrders = true) (hc : cDraw P L ops = some chk) (hd : ∀ o ∈ ops, ∀ d, o.dst = some d → d < N) : CodeOK P tk L N nb (.region id ops true) (cDrawn (ops.toList.map (cOper P L ops)) chk) := by
  intro ro m M y ih e t n k r KK ι w ac Q _ hYM hI hih hyo hr h hk hK hR hH hY hi hQ _
  exact wpIn_region_any hm (drawn_ok hc hYM hI hyo hih hR hH hY hi.ri hd hr h (fun e' t' n' h1 => hK.mono (hk _ _ _ h1))
    (fun l' e' t' n' ι' ac' w' h1 _ h2 h3 h4 => hQ _ _ _ _ _ _ h1 h2 (h3.inv h4 hi.mks hi.hm h2.ext h2.frm)))
theorem ok_lay {id : Nat} {ops ops' : Array Oper} {chk : List (Nat × Nat × IOper × Nat)} (hm : P.follows .mixedOrders = true) (hl : layO ops = some ops') (hc : cDraw P L ops' = some chk) (hd : ∀ o ∈ ops, ∀ d, o.dst = some d → d < N) : CodeOK P tk L N nb (.region id ops true) (cDrawn (ops'.toList.map (cOper P L ops')) chk) := by
  intro ro m M y ih e t n k r KK ι w ac Q _ hYM hI hih hyo hr h hk hK hR hH hY hi hQ _
  exact wpIn_region_any hm (lay_any hl (drawn_ok hc hYM hI hyo hih hR hH hY hi.ri (lay_dst hl hd) hr h (fun e' t' n' h1 => hK.mono (hk _ _ _ h1))
    (fun l' e' t' n' ι' ac' w' h1 _ h2 h3 h4 => hQ _ _ _ _ _ _ h1 h2 (h3.inv h4 hi.mks hi.hm h2.ext h2.frm))))
theorem top_of {d : DC} (hd : DM d) {y : Yh} {ih : Ih} {e : T AV} {t : H} {n : Nat} {k : KD} {r : Out} (hYM : YM y) (hI : IM ih) (hr : NE r) (hk : ∀ e t n, k e t n = r → n ≤ top r) (h : d y ih e t n k = r) : n ≤ top r := by
  rcases hd _ _ _ _ _ _ _ hYM hI hr h with ⟨e', t', n', h1, h2⟩ | h1
  · exact Nat.le_trans h1 (hk _ _ _ h2)
  · exact h1.top
theorem ok_seq (hm : DM d') (h1 : CodeOK P tk L N nb c d) (h2 : CodeOK P tk L N nb' c' d') : CodeOK P tk L N (nb && nb') (.seq c c') (cSeq d d') := by
  intro ro m M y ih e t n k r KK ι w ac Q hb hYM hI hih hyo hr h hk hK hR hH hY hi hQ hL
  have hb1 : ro = none ∨ nb = true := hb.imp id fun h => by simp at h; exact h.1
  have hb2 : ro = none ∨ nb' = true := hb.imp id fun h => by simp at h; exact h.2
  refine wpIn_seq (h1 ro m M y ih e t n (fun e t n => d' y ih e t n k) r KK ι w ac _ hb1 hYM hI hih hyo hr h (fun e t n h3 => top_of hm hYM hI hr hk h3) hK hR hH hY hi ?_ ?_)
  · intro e' t' n' ι' ac' w' h3 h4 h5
    refine h2 ro m M y ih e' t' n' k r KK ι' w' ac' _ hb2 hYM hI hih (hyo.mono h4.ext h4.frm) hr h3 hk hK h4.rel h4.ht h4.yt h5 ?_ ?_
    · exact fun e2 t2 n2 ι2 ac2 w2 g1 g2 g3 => hQ _ _ _ _ _ _ g1 (h4.trans g2) g3
    · exact fun x e2 t2 n2 ι2 ac2 w2 g1 g2 g3 => hL _ _ _ _ _ _ _ g1 (h4.trans g2) g3
  · intro x e' t' n' ι' ac' w' h3 h4 h5
    have := hL x _ _ _ _ _ _ h3 h4 h5
    rcases h3 with ⟨i, _, rfl⟩ | ⟨i, _, rfl⟩ | ⟨_, rfl⟩ <;> exact this
theorem ok_if {X : Operand} {x : Opd} (hc : cOpd X = some x) (h1 : CodeOK P tk L N nb c d) (h2 : CodeOK P tk L N nb' c' d') : CodeOK P tk L N (nb && nb') (.cond X c c') (cIf x d d') := by
  intro ro m M y ih e t n k r KK ι w ac Q hb hYM hI hih hyo hr h hk hK hR hH hY hi hQ hL
  have hb1 : ro = none ∨ nb = true := hb.imp id fun h => by simp at h; exact h.1
  have hb2 : ro = none ∨ nb' = true := hb.imp id fun h => by simp at h; exact h.2
  obtain ⟨v, hv, h⟩ := fetch_inv hc (TR.leaf ι ac.tmps) hi.tr (show fetch .leaf e x _ = r from h) hr
  rcases bool_val h hr hv with ⟨hX, h⟩ | ⟨hX, h⟩
  · exact wpIn_cond_false hX (h2 ro m M y ih e t n k r KK ι w ac Q hb2 hYM hI hih hyo hr h hk hK hR hH hY hi hQ hL)
  · exact wpIn_cond_true hX (h1 ro m M y ih e t n k r KK ι w ac Q hb1 hYM hI hih hyo hr h hk hK hR hH hY hi hQ hL)
theorem nor_top {r : Out} : ∀ e t n, nor e t n = r → n ≤ top r := fun e t n h => by rw [← h]; exact Nat.le_refl _
theorem ok_block {id : Nat} (h1 : CodeOK P tk L N nb c d) : CodeOK P tk L N nb (.block id c) (cBlock id d) := by
  intro ro m M y ih e t n k r KK ι w ac Q hb hYM hI hih hyo hr h hk hK hR hH hY hi hQ hL
  have h : Out.rec (motive := fun _ => Out) (fun _ _ _ => .err 7) k (fun i e t n => bO (Nat.beq i id) (k e t n) (.exit i e t n)) (fun i e t n => .goto i e t n) (fun e t n => .ret e t n) (fun c => .err c) (d y ih e t n nor) = r := h
  generalize hx : d y ih e t n nor = x at h
  have hne : NE x := fun c hc => by subst hc; exact absurd h.symm (hr _)
  have htop : top x ≤ top r := by
    cases x with
    | ok _ _ _ => exact absurd h.symm (hr _)
    | err c => exact absurd rfl (hne c)
    | nor e1 t1 n1 => exact hk _ _ _ h
    | exit i e1 t1 n1 =>
      rcases bO_cases (show bO (Nat.beq i id) (k e1 t1 n1) (.exit i e1 t1 n1) = r from h) with ⟨_, h⟩ | ⟨_, h⟩
      · exact hk _ _ _ h
      · rw [← h]; exact Nat.le_refl _
    | goto i e1 t1 n1 => rw [← h]; exact Nat.le_refl _
    | ret e1 t1 n1 => rw [← h]; exact Nat.le_refl _
  refine wpIn_block (h1 ro m M y ih e t n nor x KK ι w ac _ hb hYM hI hih hyo hne hx nor_top (hK.mono htop) hR hH hY hi ?_ ?_)
  · intro e' t' n' ι' ac' w' h3 h4 h5
    subst h3
    exact hQ _ _ _ _ _ _ h h4 h5
  · intro q e' t' n' ι' ac' w' h3 h4 h5
    rcases h3 with ⟨i, rfl, rfl⟩ | ⟨i, rfl, rfl⟩ | ⟨rfl, rfl⟩
    · show (if i = id then Q .normal ac' w' else Q (.exit i) ac' w')
      rcases bO_cases (show bO (Nat.beq i id) (k e' t' n') (.exit i e' t' n') = r from h) with ⟨hq, h⟩ | ⟨hq, h⟩
      · rw [if_pos (beq_nat hq)]; exact hQ _ _ _ _ _ _ h h4 h5
      · rw [if_neg (beq_ff hq)]; exact hL _ _ _ _ _ _ _ (.inl ⟨i, h.symm, rfl⟩) h4 h5
    · exact hL _ _ _ _ _ _ _ (.inr (.inl ⟨i, h.symm, rfl⟩)) h4 h5
    · exact hL _ _ _ _ _ _ _ (.inr (.inr ⟨h.symm, rfl⟩)) h4 h5
theorem ok_loop (hm : DM d) (h1 : CodeOK P tk L N nb c d) : CodeOK P tk L N nb (.loop c) (cLoop d) := by
  intro ro m M y ih e t n k r KK ι w ac Q hb hYM hI hih hyo hr h _ hK hR hH hY hi _ hL
  have h : (Nat.rec (motive := fun _ => T AV → H → Nat → Out) (fun _ _ _ => .err 8) (fun _ rec e t n => d y ih e t n rec) fuelL : T AV → H → Nat → Out) e t n = r := h
  generalize fuelL = fu at h
  refine wpIn_loop_rounds fu ?_
  have key : ∀ (f : Nat) (e : T AV) (t : H) (n : Nat) (ι' : Rn) (w' : World) (ac' : Act), (Nat.rec (motive := fun _ => T AV → H → Nat → Out) (fun _ _ _ => .err 8) (fun _ rec e t n => d y ih e t n rec) f : T AV → H → Nat → Out) e t n = r →
      PC KK ι w t n ι' w' → Iv L N M ι' e ac' w' → Code.roundsIn (Fr ro) m P c Q f ac' w' := by
    intro f
    induction f with
    | zero => intro e t n ι' w' ac' h _ _; exact absurd h.symm (hr _)
    | succ f ihf =>
      intro e t n ι' w' ac' h hp hi
      rw [roundsIn_succ]
      refine h1 ro m M y ih e t n _ r KK ι' w' ac' _ hb hYM hI hih (hyo.mono hp.ext hp.frm) hr h (fun e t n h3 => (dm_loop_n hm hYM hI hr f e t n h3).top) hK hp.rel hp.ht hp.yt hi ?_ ?_
      · exact fun e2 t2 n2 ι2 ac2 w2 g1 g2 g3 => ihf _ _ _ _ _ _ g1 (hp.trans g2) g3
      · intro x e2 t2 n2 ι2 ac2 w2 g1 g2 g3
        have := hL x _ _ _ _ _ _ g1 (hp.trans g2) g3
        rcases g1 with ⟨i, _, rfl⟩ | ⟨i, _, rfl⟩ | ⟨_, rfl⟩ <;> exact this
  exact key fu e t n ι w ac h (.refl hR hH hY) hi
def LabOK (P : Program) (tk : Tok) (L : List Nat) (N : Nat) (c : Code) (l : Nat) : List (Nat × IC) → Prop
  | [] => findLabel c l = none
  | (l', r) :: ls => if l' = l then ∃ rest, findLabel c l = some rest ∧ CodeOK P tk L N (noBack r) rest (den r) else LabOK P tk L N c l ls
theorem ok_scope {l1 l2 : Nat} {r1 r2 : IC} (hm : DM d) (h0 : CodeOK P tk L N nb c d) (h1 : ∃ rest, findLabel c l1 = some rest ∧ CodeOK P tk L N (noBack r1) rest (den r1)) (h2 : ∃ rest, findLabel c l2 = some rest ∧ CodeOK P tk L N (noBack r2) rest (den r2))
    (h3 : ∀ l, l ≠ l1 → l ≠ l2 → findLabel c l = none) : CodeOK P tk L N (nb && (noBack r1 && noBack r2)) (.scope c) (cScope d l1 (den r1) l2 (den r2)) := by
  intro ro m M y ih e t n k r KK ι w ac Q hb hYM hI hih hyo hr h hk hK hR hH hY hi hQ hL
  have hb0 : ro = none ∨ nb = true := hb.imp id fun h => by simp at h; exact h.1
  have hb1 : ro = none ∨ noBack r1 = true := hb.imp id fun h => by simp at h; exact h.2.1
  have hb2 : ro = none ∨ noBack r2 = true := hb.imp id fun h => by simp at h; exact h.2.2
  obtain ⟨rest1, hf1, hk1⟩ := h1
  obtain ⟨rest2, hf2, hk2⟩ := h2
  have h : scGo y ih l1 (den r1) l2 (den r2) k fuelL (d y ih e t n nor) = r := h
  generalize fuelL = fu at h
  have err0 : ∀ (f : Nat) (q : Nat), scGo y ih l1 (den r1) l2 (den r2) k f (.err q) = r → False := fun f q hf => by cases f <;> exact absurd hf.symm (hr _)
  have key : ∀ (f : Nat) (nb : Bool) (c' : Code) (d : DC) (e : T AV) (t : H) (n : Nat) (ι' : Rn) (w' : World) (ac' : Act), (ro = none ∨ nb = true) → CodeOK P tk L N nb c' d → DM d → scGo y ih l1 (den r1) l2 (den r2) k f (d y ih e t n nor) = r →
      PC KK ι w t n ι' w' → Iv L N M ι' e ac' w' → scopeIn (Fr ro) m P c Q f c' ac' w' := by
    intro f
    induction f with
    | zero => intro nb c' d e t n ι' w' ac' _ _ _ h _ _; exact absurd h.symm (hr _)
    | succ f ihf =>
      intro nb c' d e t n ι' w' ac' hnb hc hm h hp hi
      generalize hx : d y ih e t n nor = x at h
      have hne : NE x := fun q hq => by subst hq; exact err0 _ _ h
      have htop : top x ≤ top r := by
        have := dm_scope_n (k := k) (dm r1) (dm r2) hYM hI hr (f + 1) x h
        rcases this with ⟨e', t', n', g1, g2⟩ | g1
        · exact Nat.le_trans g1 (hk _ _ _ g2)
        · exact g1.top
      refine hc ro m M y ih e t n nor x KK ι' w' ac' _ hnb hYM hI hih (hyo.mono hp.ext hp.frm) hne hx nor_top (hK.mono htop) hp.rel hp.ht hp.yt hi ?_ ?_
      · intro e2 t2 n2 ι2 ac2 w2 g1 g2 g3
        subst g1
        exact hQ _ _ _ _ _ _ h (hp.trans g2) g3
      · intro q e2 t2 n2 ι2 ac2 w2 g1 g2 g3
        rcases g1 with ⟨i, rfl, rfl⟩ | ⟨i, rfl, rfl⟩ | ⟨rfl, rfl⟩
        · exact hL _ _ _ _ _ _ _ (.inl ⟨i, h.symm, rfl⟩) (hp.trans g2) g3
        · rcases bO_cases (show bO (Nat.beq i l1) (scGo y ih l1 (den r1) l2 (den r2) k f (den r1 y ih e2 t2 n2 nor)) (bO (Nat.beq i l2) (scGo y ih l1 (den r1) l2 (den r2) k f (den r2 y ih e2 t2 n2 nor)) (.goto i e2 t2 n2)) = r from h) with ⟨hq, h⟩ | ⟨hq, h⟩
          · obtain rfl := beq_nat hq
            simp only [jump, hf1]
            exact ihf _ _ _ _ _ _ _ _ _ hb1 hk1 (dm r1) h (hp.trans g2) g3
          · rcases bO_cases h with ⟨hq2, h⟩ | ⟨hq2, h⟩
            · obtain rfl := beq_nat hq2
              simp only [jump, hf2]
              exact ihf _ _ _ _ _ _ _ _ _ hb2 hk2 (dm r2) h (hp.trans g2) g3
            · simp only [jump, h3 i (beq_ff hq) (beq_ff hq2)]
              exact hL _ _ _ _ _ _ _ (.inr (.inl ⟨i, h.symm, rfl⟩)) (hp.trans g2) g3
        · exact hL _ _ _ _ _ _ _ (.inr (.inr ⟨h.symm, rfl⟩)) (hp.trans g2) g3
  exact wpIn_scope_n fu (key fu nb c d e t n ι w ac hb0 h0 hm h (.refl hR hH hY) hi)
end Ev
namespace Ev
open Go
variable [Told] [TokV] [ToldOK]
variable {P : Program} {tk : Tok} {L : List Nat} {N : Nat} {ι ι' : Rn} {w w' : World} {g : G}
theorem run_getLoop {l : Nat} {R : Loop} (h : w.heap[l]? = some (.loop R)) : (Instr.getLoop l).run P w = .ok R w := by
  simp [Instr.getLoop, getObj, Sem.run, h]
theorem run_setO {l : Nat} {R : Loop} {ob : Obj} (h : w.heap[l]? = some (.loop R)) : (setObj l ob).run P w = .ok () { w with heap := w.heap.setIfInBounds l ob } := by
  simp [setObj, Sem.run, h]
def Rn.addY (ι : Rn) (n l : Nat) : Rn := ⟨ι.blk, ι.mp, fun b => if b = n then some l else ι.yl b, ι.tok, ι.mpv⟩
theorem addY_le {n l : Nat} (h : ι.yl n = none) : ι.le (ι.addY n l) := ⟨fun _ _ _ h => h, fun _ _ h => h, fun b r hb => by
  show (if b = n then some l else ι.yl b) = some r
  rw [if_neg (fun e => by subst e; rw [h] at hb; cases hb)]; exact hb, fun _ _ h => h, fun _ _ _ h => h⟩
theorem ext_addY {n l M : Nat} (h : ι.yl n = none) : ExtC M ι (ι.addY n l) := ⟨addY_le h, fun b e x hx => .inl ⟨b, e, x, hx, rfl⟩, fun _ _ h => .inl h⟩
theorem Rel.addY {n l : Nat} (hR : Rel ι g w) (h : ι.yl n = none) : Rel (ι.addY n l) g w := by
  refine ⟨fun b o hb => ?_, hR.non, hR.inj, hR.injm, hR.arg⟩
  have h0 := hR.obj b o hb
  cases o with
  | row sz c n ep =>
    obtain ⟨g1, g2, g3, g4⟩ := h0
    refine ⟨g1, g2, g3, fun e he => ?_⟩
    obtain ⟨rb, cap, cs0, k1, k2, k3, k4⟩ := g4 e he
    exact ⟨rb, cap, cs0, k1, k2, k3, fun k tg v hk ht => let ⟨x, hx, hc, hi⟩ := k4 k tg v hk ht; ⟨x, toV_mono (addY_le h) _ _ hx, hc, hi⟩⟩
  | mp es0 ver0 =>
    obtain ⟨g1, g1v, r2, ents2, clock2, g2, g2v, g3, g4⟩ := h0
    exact ⟨g1, g1v, r2, ents2, clock2, g2, g2v, g3, MapOk.mono (addY_le h) _ _ g4⟩
theorem heap_push1 {ob : Obj} : (w.alloc ob).heap[w.heap.size]? = some ob := by show (w.heap.push ob)[w.heap.size]? = _; simp
theorem heap_push0 {ob o : Obj} {r : Nat} (h : w.heap[r]? = some o) : (w.alloc ob).heap[r]? = some o := by
  have hlt := (Array.getElem?_eq_some_iff.1 h).1
  show (w.heap.push ob)[r]? = _
  rw [Array.getElem?_push, if_neg (by omega)]; exact h
theorem alloc_size {ob : Obj} : (w.alloc ob).heap.size = w.heap.size + 1 := by show (w.heap.push ob).size = _; simp
theorem toT_two {a : AV} {xs : List Value} (h : toT ι a = some xs) {x z r : AV} (ha : a = .cons x (.cons z r)) (hr : llen r = 0) : ∃ X Z, toV ι x = some X ∧ toV ι z = some Z ∧ xs = [X, Z] := by
  subst ha
  simp only [toT, Option.bind_eq_some_iff, Option.map_eq_some_iff] at h
  obtain ⟨X, hX, r1, ⟨Z, hZ, r2, h2, rfl⟩, rfl⟩ := h
  have h3 := (toT_some h2).2.1
  have : r2 = [] := by
    have h4 := toT_length h2
    rw [hr] at h4
    exact List.eq_nil_of_length_eq_zero h4.symm
  subst this
  exact ⟨X, Z, hX, hZ, rfl⟩
theorem Frm.setO {l : Nat} {ob : Obj} (h : Frm ι w w') (hl : w.heap.size ≤ l) : Frm ι w { w' with heap := w'.heap.setIfInBounds l ob } :=
  ⟨h.os, h.tape, h.output, by simpa using h.size, fun rb hrb h1 h2 => by
    show (w'.heap.setIfInBounds l ob)[rb]? = _
    rw [Array.getElem?_setIfInBounds_ne (by omega)]; exact h.block rb hrb h1 h2⟩
theorem round_ok {ι0 : Rn} {w0 : World} {asg body : Code} {da db : DC} {i v l n : Nat} {e : T AV} {y : Yh} {ih : Ih} {ps : Array Tmp} {tmps : Array Value} {R : Loop} (hps : ps.toList = [i, v]) (hiL : i ∉ L) (hvL : v ∉ L) (hiN : i < N) (hvN : v < N)
    (ha : CodeOK P tk L N true asg da) (hb : CodeOK P tk L N true body db) (hma : DM da) (hmb : DM db) (hYM : YM y) (hI : IM ih) (hih : IhOK P tk ih) (hyo : YOK P tk y ι0 w0) (he0 : ExtC w0.heap.size ι0 ι) (hf0 : Frm ι0 w0 w) (hl0 : w0.heap.size ≤ l) (hu : Un ι l) (hl : w.heap[l]? = some (.loop R)) (hyl : ι.yl n = some l)
    (hR : R.state = .ready) (hRp : R.pending = none) (hRt : R.tmps = tmps) (hRps : R.params = ps) (hRa : R.assign = asg) (hRb : R.body = body) (htr : TR ι e tmps) (hel : ∀ d ∈ L, e.get d = none) (hsz : tmps.size = N) : YOK P tk (round y ih n i v da db e) ι w := by
  refine ⟨fun b x hb => he0.le.tok b x (hyo.1 b x hb), ?_⟩
  intro id a t2 n2 v2 t3 n3 h
  unfold round at h
  obtain ⟨h1, h3⟩ := bO_inv h ok_ne
  clear h
  obtain rfl := beq_nat h1
  obtain ⟨x, rr, hax, h4⟩ := lcons_inv h3 ok_ne
  obtain ⟨z, rr2, hrr, h5⟩ := lcons_inv h4 ok_ne
  obtain ⟨h2, h⟩ := bO_inv h5 ok_ne
  clear h3 h4 h5
  subst hrr
  rw [T.seq_eq] at h
  generalize hx : da y ih _ t2 n2 _ = q at h
  cases q with
  | nor e3 t4 n4 =>
    have h : Out.ok tt t4 n4 = .ok v2 t3 n3 := h
    injection h with h4 h5 h6
    subst h4; subst h5; subst h6
    refine ⟨l, hyl, fun K ι1 w1 args he1 hf1 hK hR1 hH1 hY1 harg => ?_⟩
    obtain ⟨X, Z, hX, hZ, hargs⟩ := toT_two harg hax (beq_nat h2)
    have hl1 := hf1.at hu hl
    have hu1 : Un ι1 l := hu.mono he1 (Array.getElem?_eq_some_iff.1 hl).1
    have hps' : ps = #[i, v] := by rw [← Array.toArray_toList (xs := ps), hps]
    have hargs' : args = #[X, Z] := by rw [← Array.toArray_toList (xs := args), hargs]
    refine ⟨R.fn, (tmps.setIfInBounds i X).setIfInBounds v Z, asg, body, ?_, ?_⟩
    · simp only [Instr.yield, Sem.run_bind, run_getLoop hl1, Result.andThen_ok, hRps, hRt, hRa, hRb]
      rw [hps', hargs']
      simp
    · refine roundIn_of_wpIn trivial ?_
      have he01 := he0.trans he1 hf0.size
      have hf01 := hf0.trans he0 hf1
      have hi1 : Iv L N 0 ι1 ((e.set x i).set z v) { tmps := (tmps.setIfInBounds i X).setIfInBounds v Z, defers := [] } w1 := by
        refine ⟨?_, fun d hd => ?_, by simp [hsz], .nil, Nat.zero_le _⟩
        · exact ((htr.mono he1.le).set hX (by omega)).set hZ (by simp; omega)
        · rw [T.get_set_ne _ _ _ _ (fun e => hvL (by rw [e]; exact hd)), T.get_set_ne _ _ _ _ (fun e => hiL (by rw [e]; exact hd))]
          exact hel d hd
      have hne : NE (Out.nor e3 t4 n4) := fun c h => by cases h
      refine ha (some l) 0 0 y ih _ t2 n2 _ (.nor e3 t4 n4) K ι1 w1 _ _ (.inr rfl) hYM hI hih (hyo.mono he01 hf01) hne hx (fun e t n h => top_of hmb hYM hI hne nor_top h) hK hR1 hH1 hY1 hi1 ?_ ?_
      · intro e5 t5 n5 ι5 ac5 w5 h5 hp5 hi5
        have hl5 := hp5.frm.at hu1 hl1
        have hlt1 := (Array.getElem?_eq_some_iff.1 hl1).1
        have hlt5 := (Array.getElem?_eq_some_iff.1 hl5).1
        have hu5 : Un ι5 l := hu1.mono hp5.ext hlt1
        have he05 := he01.trans hp5.ext hf01.size
        have hf05 := (hf01.trans he01 hp5.frm)
        generalize hw6 : ({ w5 with heap := w5.heap.setIfInBounds l (.loop { R with state := .busy }) } : World) = w6
        have hl6 : w6.heap[l]? = some (.loop { R with state := .busy }) := by rw [← hw6]; simp [hlt5]
        have hs6 : w6.heap.size = w5.heap.size := by rw [← hw6]; simp
        have ho6 : ∀ rb, rb ≠ l → w6.heap[rb]? = w5.heap[rb]? := fun rb h => by
          rw [← hw6]; exact Array.getElem?_setIfInBounds_ne (fun e => h e.symm)
        have hR6 : Rel ι5 (un t5 K) w6 := by rw [← hw6]; exact hp5.rel.setO hu5 fun _ _ _ e => by rw [hl5] at e; cases e
        have hos6 : w6.os = w5.os ∧ w6.tape = w5.tape ∧ w6.output = w5.output := by rw [← hw6]; exact ⟨rfl, rfl, rfl⟩
        refine ⟨w6, ?_, ?_⟩
        · simp only [Instr.beginRound, Sem.run_bind, run_getLoop hl5, Result.andThen_ok, run_setO hl5, hR, ← hw6]
          rfl
        · have hi6 : Iv L N 0 ι5 e5 ac5 w6 := by
            refine ⟨hi5.tr, hi5.el, hi5.sz, ?_, Nat.zero_le _⟩
            obtain ⟨rs, k1, k2, k3⟩ := hi5.mks
            refine ⟨rs, k1, k2, fun r hr => ?_⟩
            obtain ⟨k4, k5, k6⟩ := k3 r hr
            refine ⟨k4, ?_, k6⟩
            rw [ho6 r (fun e => by subst e; rw [hl5] at k5; cases k5)]; exact k5
          refine hb (some l) 0 0 y ih e5 t5 n5 nor (.nor e3 t4 n4) K ι5 w6 ac5 _ (.inr rfl) hYM hI hih (hyo.mono he05 (by rw [← hw6]; exact hf05.setO hl0)) hne h5 nor_top hK hR6 hp5.ht hp5.yt hi6 ?_ ?_
          · intro e7 t7 n7 ι7 ac7 w7 h7 hp7 _
            have hl7 := hp7.frm.at hu5 hl6
            have hlt6 := (Array.getElem?_eq_some_iff.1 hl6).1
            have hlt7 := (Array.getElem?_eq_some_iff.1 hl7).1
            have hu7 : Un ι7 l := hu5.mono hp7.ext hlt6
            injection h7 with h8 h9 h10
            subst h9; subst h10
            have hRR : ({ R with state := .ready, pending := none } : Loop) = R := by
              cases R; simp at hR hRp; subst hR; subst hRp; rfl
            refine ⟨.bool true, { w7 with heap := w7.heap.setIfInBounds l (.loop R) }, ?_, .bool true, ι7, rfl, by simp [tt, toV, numV], ?_⟩
            · simp only [Instr.endRound, Sem.run_bind, run_getLoop hl7, Result.andThen_ok, Option.isNone_none, if_true, run_setO hl7, Sem.run_pure]
              rw [← hRR]
            · refine ⟨hp7.rel.setO hu7 (fun _ _ _ e => by rw [hl7] at e; cases e), hp5.ext.trans (by rw [← hs6]; exact hp7.ext) hp5.frm.size, ⟨?_, ?_, ?_, ?_, fun rb hrb k1 k2 => ?_⟩, hp7.ht, hp7.yt⟩
              · exact hp7.frm.os.trans (hos6.1.trans hp5.frm.os)
              · exact hp7.frm.tape.trans (hos6.2.1.trans hp5.frm.tape)
              · exact hp7.frm.output.trans (hos6.2.2.trans hp5.frm.output)
              · have := hp7.frm.size
                have := hp5.frm.size
                simp only [Array.size_setIfInBounds]
                omega
              · show (w7.heap.setIfInBounds l (.loop R))[rb]? = _
                by_cases hrl : rb = l
                · subst hrl
                  rw [hl1]; simp [hlt7]
                · rw [Array.getElem?_setIfInBounds_ne (fun e => hrl e.symm)]
                  have hun : Un ι1 rb := ⟨k1, k2⟩
                  have hu5' := hun.mono hp5.ext hrb
                  have hlt : rb < w6.heap.size := by have := hp5.frm.size; omega
                  rw [hp7.frm.block rb hlt hu5'.blk hu5'.mp, ho6 rb hrl]
                  exact hp5.frm.block rb hrb k1 k2
          · intro x e' t' n' ι' ac' w' hlv _ _
            rcases hlv with ⟨_, h, _⟩ | ⟨_, h, _⟩ | ⟨h, _⟩ <;> cases h
      · intro x e' t' n' ι' ac' w' hlv _ _
        rcases hlv with ⟨_, h, _⟩ | ⟨_, h, _⟩ | ⟨h, _⟩ <;> cases h
  | _ => cases h
end Ev
namespace Ev
open Go
variable [Told] [TokV] [ToldOK]
variable {P : Program} {tk : Tok} {L : List Nat} {N : Nat}
structure Ent (P : Program) (ac : Act) (ps : Array Tmp) (asg body : Code) (ι : Rn) (KK : G) (t : H) (w w2 : World) (RR : Loop) : Prop where
  sta : RR.state = .ready
  pen : RR.pending = none
  tmp : RR.tmps = ac.tmps
  par : RR.params = ps
  ass : RR.assign = asg
  bod : RR.body = body
  run : (Instr.enterLoop RR.fn ac.tmps ps asg body none).run P w = .ok (w.heap.size + 1, [mark w.heap.size]) w2
  size : w2.heap.size = w.heap.size + 2
  loop : w2.heap[w.heap.size + 1]? = some (.loop RR)
  defer : w2.heap[w.heap.size]? = some (.deferred (some []))
  frm : Frm ι w w2
  rel : Rel ι (un t KK) w2
theorem ent_ok {ac : Act} {ps : Array Tmp} {asg body : Code} {ι : Rn} {KK : G} {t : H} {w : World} (fn : FuncId) (hR : Rel ι (un t KK) w) : ∃ w2 RR, RR.fn = fn ∧ Ent P ac ps asg body ι KK t w w2 RR := by
  refine ⟨(w.alloc (.deferred (some []))).alloc (.loop { state := .ready, pending := none, fn := fn, tmps := ac.tmps, params := ps, assign := asg, body := body, defers := w.heap.size }), { state := .ready, pending := none, fn := fn, tmps := ac.tmps, params := ps, assign := asg, body := body, defers := w.heap.size }, rfl, rfl, rfl, rfl, rfl, rfl, rfl, ?_, ?_, ?_, ?_, ?_, ?_⟩
  · simp only [Instr.enterLoop, Sem.run_bind, run_newObj_alloc, Result.andThen_ok, Sem.run_pure, alloc_size, mark]
  · rw [alloc_size, alloc_size]
  · generalize ({ state := .ready, pending := none, fn := fn, tmps := ac.tmps, params := ps, assign := asg, body := body, defers := w.heap.size } : Loop) = RR
    have := heap_push1 (w := w.alloc (.deferred (some []))) (ob := .loop RR)
    rwa [alloc_size] at this
  · exact heap_push0 heap_push1
  · exact (frm_push _).trans (.refl _ _) (frm_push _)
  · exact hR.push.push
theorem back_post {ac : Act} {ps : Array Tmp} {asg body : Code} {ι ι3 : Rn} {KK : G} {t t1 : H} {w w2 w3 : World} {RR : Loop} {n n1 m M : Nat} {e : T AV} {Q : Exit → Act → World → Prop} {V : Value} (E : Ent P ac ps asg body ι KK t w w2 RR) (hyn : ι.yl n = none) (hi : Iv L N M ι e ac w)
    (hul : Un (ι.addY n (w.heap.size + 1)) (w.heap.size + 1)) (hud : Un (ι.addY n (w.heap.size + 1)) w.heap.size) (hp3 : PC KK (ι.addY n (w.heap.size + 1)) w2 t1 n1 ι3 w3)
    (hQ : ∀ ι' ac' w', PC KK ι w t1 n1 ι' w' → Iv L N M ι' e ac' w' → Q .normal ac' w') : rangePost (Fr none) m P (w.heap.size + 1) Q { ac with defers := [mark w.heap.size] ++ ac.defers } (.returned V) w3 := by
  have hs2 := E.size
  have hl3 := hp3.frm.at hul E.loop
  have hd3 := hp3.frm.at hud E.defer
  have hu3 : Un ι3 (w.heap.size + 1) := hul.mono hp3.ext (by omega)
  have hud3 : Un ι3 w.heap.size := hud.mono hp3.ext (by omega)
  have hext : ExtC w.heap.size ι ι3 := (ext_addY hyn).trans hp3.ext E.frm.size
  have hfrm3 : Frm ι w w3 := E.frm.trans (ext_addY hyn) ⟨hp3.frm.os, hp3.frm.tape, hp3.frm.output, hp3.frm.size, hp3.frm.block⟩
  have hfrm : Frm ι w { w3 with heap := w3.heap.setIfInBounds (w.heap.size + 1) (.loop { RR with state := .exhausted }) } := hfrm3.setO (by omega)
  refine ⟨none, { w3 with heap := w3.heap.setIfInBounds (w.heap.size + 1) (.loop { RR with state := .exhausted }) }, ?_, ?_⟩
  · have hbusy : (RR.state == LoopState.busy) = false := by rw [E.sta]; rfl
    simp only [Instr.endLoop, Sem.run_bind, run_getLoop hl3, Result.andThen_ok, hbusy, Bool.false_eq_true, if_false, Sem.run_pure, run_setO hl3, E.pen]
  · refine hQ ι3 _ _ ⟨hp3.rel.setO hu3 (fun _ _ _ e => by rw [hl3] at e; cases e), hext, hfrm, hp3.ht, hp3.yt⟩ ⟨hi.tr.mono hext.le, hi.el, hi.sz, ?_, Nat.le_trans hi.hm hfrm.size⟩
    obtain ⟨rs, k1, k2, k3⟩ := hi.mks
    refine ⟨w.heap.size :: rs, ?_, ?_, fun r hr => ?_⟩
    · simp [k1]
    · refine List.nodup_cons.2 ⟨fun hm => ?_, k2⟩
      have := (Array.getElem?_eq_some_iff.1 (k3 _ hm).2.1).1
      omega
    · rcases List.mem_cons.1 hr with rfl | hr
      · refine ⟨hi.hm, ?_, hud3⟩
        show (w3.heap.setIfInBounds _ _)[w.heap.size]? = _
        rw [Array.getElem?_setIfInBounds_ne (by omega)]; exact hd3
      · obtain ⟨k4, k5, k6⟩ := k3 r hr
        have hlt := (Array.getElem?_eq_some_iff.1 k5).1
        refine ⟨k4, ?_, k6.mono hext hlt⟩
        show (w3.heap.setIfInBounds _ _)[r]? = _
        rw [Array.getElem?_setIfInBounds_ne (by omega)]; exact hfrm3.at k6 k5
theorem ok_back {X : Operand} {f : Opd} {ps : Array Tmp} {i v : Nat} {asg body : Code} {da db : DC} (hc : cOpd X = some f) (hps : ps.toList = [i, v]) (hiL : i ∉ L) (hvL : v ∉ L) (hiN : i < N) (hvN : v < N)
    (ha : CodeOK P tk L N true asg da) (hb : CodeOK P tk L N true body db) (hma : DM da) (hmb : DM db) : CodeOK P tk L N false (.rangeFunc X ps asg body) (cBack f i v da db) := by
  intro ro m M y ih e t n k r KK ι w ac Q hro hYM hI hih hyo hr h hk hK hR hH hY hi hQ _
  obtain rfl : ro = none := by
    rcases hro with h | h
    · exact h
    · cases h
  unfold cBack at h
  obtain ⟨x, hx, h⟩ := fetch_inv hc (TR.leaf ι ac.tmps) hi.tr h hr
  obtain ⟨gf, caps, hxv, h⟩ := vfn_inv h hr
  rw [forceN_eq] at h
  generalize hcall : ih _ gf _ t _ = o at h
  cases o with
  | ok w1 t1 n1 =>
    have hfin : k e t1 n1 = r := h
    clear h
    subst hxv
    simp only [toV, Option.bind_eq_some_iff] at hx
    obtain ⟨vs, hvs, hX⟩ := hx
    simp only [comV, Option.some.injEq] at hX
    have hyn : ι.yl n = none := hY n (Nat.le_refl _)
    refine wpIn_rangeFunc fun fn _ => ?_
    obtain ⟨w2, RR, hfn, E⟩ := ent_ok (P := P) (ac := ac) (ps := ps) (asg := asg) (body := body) fn hR
    have hs2 := E.size
    have hu0 : Un ι w.heap.size := Un.new hR (Nat.le_refl _)
    have hu1 : Un ι (w.heap.size + 1) := Un.new hR (by omega)
    have hul : Un (ι.addY n (w.heap.size + 1)) (w.heap.size + 1) := ⟨hu1.blk, hu1.mp⟩
    have hud : Un (ι.addY n (w.heap.size + 1)) w.heap.size := ⟨hu0.blk, hu0.mp⟩
    have hyk : YOK P tk (round y ih n i v da db e) (ι.addY n (w.heap.size + 1)) w2 :=
      round_ok (ι0 := ι) (w0 := w) (tmps := ac.tmps) (ps := ps) hps hiL hvL hiN hvN ha hb hma hmb hYM hI hih hyo (ext_addY hyn) ⟨E.frm.os, E.frm.tape, E.frm.output, E.frm.size, E.frm.block⟩ (by omega) hul E.loop (by simp [Rn.addY]) E.sta E.pen E.tmp E.par E.ass E.bod
        (hi.tr.mono (addY_le hyn)) hi.el hi.sz
    obtain ⟨hE, hcalls⟩ := hih _ _ _ _ _ _ _ _ (round_m hma hmb hYM hI) hcall
    have hcalls := hcalls KK (ι.addY n (w.heap.size + 1)) w2 (#[.func (.yield (w.heap.size + 1)) #[] #[]] ++ vs.toArray) hyk (hK.mono (hk _ _ _ hfin)) (E.rel.addY hyn) (fun b hb => hH b (by omega)) (fun b hb => by
        show (if b = n then _ else ι.yl b) = none
        rw [if_neg (by omega)]; exact hY b (by omega)) (by
        have := toT_mono (addY_le hyn (l := w.heap.size + 1)) _ _ hvs
        simp [toT, toV, refV, Rn.addY] at this ⊢
        exact this)
    have hpost := fun (x : Ending) (w3 : World) (h : ∃ V ι', x = .returned V ∧ toV ι' w1 = some V ∧ PC KK (ι.addY n (w.heap.size + 1)) w2 t1 n1 ι' w3) => (show rangePost (Fr none) m P (w.heap.size + 1) Q { ac with defers := [mark w.heap.size] ++ ac.defers } x w3 by
      obtain ⟨V, ι3, rfl, _, hp3⟩ := h
      exact back_post E hyn hi hul hud hp3 fun ι' ac' w' h1 h2 => hQ _ _ _ _ _ _ hfin h1 h2)
    have hcl : CallsIn (Fr none) (m - 1) P gf (#[.func (.yield (w.heap.size + 1)) #[] #[]] ++ vs.toArray) w2 (rangePost (Fr none) m P (w.heap.size + 1) Q { ac with defers := [mark w.heap.size] ++ ac.defers }) := callsIn_fr (ro := none) (CallsIn.mono hcalls hpost)
    have hres : (resolve ac.eval (rangeCall X (w.heap.size + 1)) 0).run P w2 = .ok { target := .fn (.func gf) vs.toArray, args := #[.func (.yield (w.heap.size + 1)) #[] #[]] } w2 := by
      simp only [resolve, rangeCall, ← hX, Deferred.ofValue, Sem.run_bind, Sem.run_pure, Result.andThen_ok]
      simp [Act.eval]
    have hinv : (invoke (.fn (.func gf) vs.toArray) #[.func (.yield (w.heap.size + 1)) #[] #[]]).run P w2 = .ok (.enter gf (#[.func (.yield (w.heap.size + 1)) #[] #[]] ++ vs.toArray)) w2 := by
      simp only [invoke]
      exact hE _ _
    exact ⟨w.heap.size + 1, [mark w.heap.size], w2, _, w2, gf, _, w2, by rw [← hfn]; exact E.run, hres, fun f' _ => fr_fn none f', hinv, (fun h => by rw [fr_depth] at h; cases h), hcl⟩
  | _ => exact absurd h.symm (hr _)
theorem LabOK.congr {c c' : Code} {l : Nat} (h : findLabel c l = findLabel c' l) : ∀ {ls : List (Nat × IC)}, LabOK P tk L N c l ls → LabOK P tk L N c' l ls
  | [], h0 => by rw [LabOK] at h0 ⊢; rw [← h]; exact h0
  | (l', r) :: ls, h0 => by
    rw [LabOK] at h0 ⊢
    rw [← h]
    split
    · rename_i he; rw [if_pos he] at h0; exact h0
    · rename_i he; rw [if_neg he] at h0; exact LabOK.congr h h0
theorem lab_seq {a b : Code} {l : Nat} (hb : CodeOK P tk L N (noBack (cCode P L b)) b (den (cCode P L b))) {l2 : List (Nat × IC)} (h2 : LabOK P tk L N b l l2) : ∀ {ls : List (Nat × IC)}, LabOK P tk L N a l ls →
    LabOK P tk L N (.seq a b) l (ls.map (fun x => (x.1, .seq x.2 (cCode P L b))) ++ l2)
  | [], h0 => by
    have h0 : findLabel a l = none := h0
    exact LabOK.congr (by simp [findLabel, h0]) h2
  | (l', r) :: ls, h0 => by
    rw [LabOK] at h0
    rw [List.map_cons, List.cons_append, LabOK]
    split
    · rename_i he
      rw [if_pos he] at h0
      obtain ⟨rest, h1, h3⟩ := h0
      exact ⟨.seq rest b, by simp [findLabel, h1], (show CodeOK P tk L N (noBack r && noBack (cCode P L b)) (.seq rest b) (cSeq (den r) (den (cCode P L b))) from ok_seq (d := den r) (d' := den (cCode P L b)) (dm _) h3 hb)⟩
    · rename_i he; rw [if_neg he] at h0; exact lab_seq hb h2 h0
mutual
theorem code_ok (hm : P.follows .mixedOrders = true) : ∀ c : Code, (∀ d ∈ dsts c, d < N) → CodeOK P tk L N (noBack (cCode P L c)) c (den (cCode P L c))
  | .skip, _ => by rw [cCode]; exact ok_skip
  | .label _, _ => by rw [cCode]; exact ok_label
  | .region _ ops draw, hd => by
    have hd' : ∀ o ∈ ops, ∀ d, o.dst = some d → d < N := fun o ho d h => hd d (by simp only [dsts, List.mem_filterMap]; exact ⟨o, by simpa using ho, h⟩)
    cases draw with
    | false => rw [cCode]; exact ok_ops hd'
    | true =>
      rw [cCode]
      split
      · rename_i chk hc; exact ok_draw hm hc hd'
      · split
        · exact ok_bad
        · rename_i ops' hl
          split
          · rename_i chk hc; exact ok_lay hm hl hc hd'
          · exact ok_bad
  | .seq a b, hd => by
    rw [cCode]
    show CodeOK P tk L N (noBack (cCode P L a) && noBack (cCode P L b)) (.seq a b) (cSeq (den (cCode P L a)) (den (cCode P L b)))
    exact ok_seq (d := den (cCode P L a)) (d' := den (cCode P L b)) (dm _) (code_ok hm a (fun d h => hd d (by simp only [dsts, List.mem_append]; exact .inl h))) (code_ok hm b (fun d h => hd d (by simp only [dsts, List.mem_append]; exact .inr h)))
  | .cond c a b, hd => by
    rw [cCode]
    split
    · rename_i x hc
      exact ok_if hc (code_ok hm a (fun d h => hd d (by simp only [dsts, List.mem_append]; exact .inl h))) (code_ok hm b (fun d h => hd d (by simp only [dsts, List.mem_append]; exact .inr h)))
    · exact ok_bad
  | .block _ b, hd => by rw [cCode]; exact ok_block (code_ok hm b hd)
  | .loop b, hd => by rw [cCode]; exact ok_loop (dm _) (code_ok hm b hd)
  | .scope b, hd => by
    have hl := labs_ok hm b hd
    rw [cCode]
    split
    · rename_i l1 r1 he
      have h1 := hl l1
      rw [he, LabOK, if_pos rfl] at h1
      refine ok_scope (dm _) (code_ok hm b hd) h1 h1 (fun l h2 _ => ?_)
      have h3 := hl l
      rw [he, LabOK, if_neg (fun e => h2 e.symm)] at h3
      exact h3
    · rename_i l1 r1 l2 r2 he
      split
      · exact ok_bad
      · rename_i hne
        have h1 := hl l1
        rw [he, LabOK, if_pos rfl] at h1
        have h2 := hl l2
        rw [he, LabOK, if_neg hne, LabOK, if_pos rfl] at h2
        refine ok_scope (dm _) (code_ok hm b hd) h1 h2 (fun l h4 h5 => ?_)
        have h3 := hl l
        rw [he, LabOK, if_neg (fun e => h4 e.symm), LabOK, if_neg (fun e => h5 e.symm)] at h3
        exact h3
    · exact ok_bad
  | .exit _, _ => by rw [cCode]; exact ok_exit
  | .goto _, _ => by rw [cCode]; exact ok_goto
  | .ret, _ => by rw [cCode]; exact ok_ret
  | .rangeFunc f ps asg b, hd => by
    rw [cCode]
    split
    · rename_i x i v hc hps
      split
      · exact ok_bad
      · rename_i hn
        simp only [Bool.or_eq_true, List.contains_eq_mem, decide_eq_true_eq, Bool.not_eq_true', not_or, Bool.not_eq_false] at hn
        have ha := code_ok hm asg (fun d h => hd d (by simp only [dsts, List.mem_append]; exact .inl (.inr h)))
        have hb := code_ok hm b (fun d h => hd d (by simp only [dsts, List.mem_append]; exact .inr h))
        have hin : ∀ d ∈ [i, v], d < N := fun d h => hd d (by simp only [dsts, List.mem_append]; rw [hps]; exact .inl (.inl h))
        rw [hn.1.2] at ha
        rw [hn.2] at hb
        exact ok_back hc hps hn.1.1.1.1 hn.1.1.1.2 (hin i (.head _)) (hin v (.tail _ (.head _))) ha hb (dm _) (dm _)
    · exact ok_bad
  | .refuse _, _ => by rw [cCode]; exact ok_bad
theorem labs_ok (hm : P.follows .mixedOrders = true) : ∀ c : Code, (∀ d ∈ dsts c, d < N) → ∀ l, LabOK P tk L N c l (labs P L c)
  | .seq a b, hd, l => by
    rw [labs]
    exact lab_seq (code_ok hm b (fun d h => hd d (by simp only [dsts, List.mem_append]; exact .inr h))) (labs_ok hm b (fun d h => hd d (by simp only [dsts, List.mem_append]; exact .inr h)) l) (labs_ok hm a (fun d h => hd d (by simp only [dsts, List.mem_append]; exact .inl h)) l)
  | .label q, _, l => by
    rw [labs, LabOK]
    split
    · rename_i h; subst h; exact ⟨.skip, by simp [findLabel], ok_skip⟩
    · rename_i h; rw [LabOK]; simp [findLabel, h]
  | .skip, _, l => by simp [labs, LabOK, findLabel]
  | .region _ _ _, _, l => by simp [labs, LabOK, findLabel]
  | .cond _ _ _, _, l => by simp [labs, LabOK, findLabel]
  | .block _ _, _, l => by simp [labs, LabOK, findLabel]
  | .loop _, _, l => by simp [labs, LabOK, findLabel]
  | .scope _, _, l => by simp [labs, LabOK, findLabel]
  | .exit _, _, l => by simp [labs, LabOK, findLabel]
  | .goto _, _, l => by simp [labs, LabOK, findLabel]
  | .ret, _, l => by simp [labs, LabOK, findLabel]
  | .rangeFunc _ _ _ _, _, l => by simp [labs, LabOK, findLabel]
  | .refuse _, _, l => by simp [labs, LabOK, findLabel]
end
end Ev
namespace Ev
open Go
variable [Told] [TokV] [ToldOK]
variable {P : Program} {tk : Tok} {L : List Nat} {N : Nat} {ι : Rn} {w w' : World} {g : G} {KK : G}
theorem fillE_get : ∀ (l : AV) (i : Nat) (c : T AV) (k : Nat), (fillE l i c).get k = if i ≤ k then (match (toL l)[k - i]? with | some a => some a | none => c.get k) else c.get k := by
  intro l
  induction l with
  | cons a b _ ih =>
    intro i c k
    show (fillE b (i + 1) (c.set a i)).get k = _
    rw [ih]
    by_cases h1 : i + 1 ≤ k
    · rw [if_pos h1, if_pos (by omega)]
      have : k - i = (k - (i + 1)) + 1 := by omega
      rw [this]
      show _ = match (toL b)[k - (i + 1)]? with | some a => some a | none => c.get k
      cases (toL b)[k - (i + 1)]? with
      | some v => rfl
      | none => exact T.get_set_ne _ _ _ _ (by omega)
    · rw [if_neg h1]
      by_cases h2 : i ≤ k
      · obtain rfl : i = k := by omega
        rw [if_pos h2, Nat.sub_self]
        show _ = some a
        exact T.get_set _ _ _
      · rw [if_neg h2]; exact T.get_set_ne _ _ _ _ (by omega)
  | _ => intro i c k; show c.get k = _; split <;> first | rfl | (simp [toL])
theorem args_tr {a : AV} {args : Array Value} {nt : Nat} (ha : toT ι a = some args.toList) : TR ι (fillE a 0 .leaf) (args ++ Array.replicate nt undef) := by
  intro i v h
  rw [fillE_get, if_pos (Nat.zero_le _), Nat.sub_zero, T.get_leaf] at h
  split at h
  · rename_i u hu
    injection h with h; subst h
    obtain ⟨V, hV, hi⟩ := (toT_some ha).2.2 _ _ hu
    refine ⟨V, hV, ?_⟩
    have hlt := (List.getElem?_eq_some_iff.1 hi).1
    rw [Array.getElem?_append_left (by simpa using hlt)]
    simpa using hi
  · cases h
def resS (tm : Array Value) : ResultVar → Sem Value
  | .tmp t => pure (tm.getD t undef)
  | .cell a t => do loadVar t (← asAddr (tm.getD a undef))
theorem res_ok {e : T AV} {t : H} {tm : Array Value} (he : TR ι e tm) (hR : Rel ι (un t KK) w) : ∀ {l : List ResultVar} {rs : List IRes} {K : K} {r : Out}, cRes P l = some rs → NE r → denRes e t rs K = r →
    ∃ v vs, toT ι v = some vs ∧ K v = r ∧ (l.mapM (resS tm)).run P w = .ok vs w
  | [], rs, K, r, hc, hr, h => by
    simp only [cRes, Option.some.injEq] at hc
    subst hc
    exact ⟨.nil, [], rfl, h, rfl⟩
  | .tmp i :: l, rs, K, r, hc, hr, h => by
    simp only [cRes, Option.map_eq_some_iff] at hc
    obtain ⟨rs', hc, rfl⟩ := hc
    obtain ⟨v, hv, h⟩ := V_inv (show V i e _ = r from h) hr
    obtain ⟨x, hx, hi⟩ := he i v hv
    obtain ⟨v2, vs, h1, h2, h3⟩ := res_ok he hR hc hr h
    refine ⟨.cons v v2, x :: vs, by simp [toT, hx, h1], h2, ?_⟩
    have hg : tm.getD i undef = x := by simp [Array.getD_eq_getD_getElem?, hi]
    simp only [List.mapM_cons, resS, Sem.run_bind, Sem.run_pure, Result.andThen_ok, hg, h3]
  | .cell a ty :: l, rs, K, r, hc, hr, h => by
    simp only [cRes] at hc
    split at hc
    · rename_i sz rs' hs ha hc'
      injection hc with hc; subst hc
      obtain ⟨p, hp, h⟩ := V_inv (show V a e _ = r from h) hr
      obtain ⟨x, hx, hi⟩ := he a p hp
      have hg : tm.getD a undef = x := by simp [Array.getD_eq_getD_getElem?, hi]
      obtain ⟨l1, vs1, A, rfl, h2, h4, h5, h6⟩ := ldC_val hR hr hx h
      obtain ⟨v2, vs, h7, h8, h9⟩ := res_ok he hR hc' hr h6
      have hld := h5 P
      refine ⟨_, .agg vs1.toArray :: vs, by rw [toT, toV_agg h2 h4 0, Option.bind_some, h7, Option.map_some], h8, ?_⟩
      simp only [List.mapM_cons, resS, Sem.run_bind, Sem.run_pure, Result.andThen_ok, hg, asAddr, loadVar, run_aggOf ha, run_szOf hs, hld, if_true, h9]
    · rename_i sz rs' hs ha hc'
      injection hc with hc; subst hc
      obtain ⟨p, hp, h⟩ := V_inv (show V a e _ = r from h) hr
      obtain ⟨x, hx, hi⟩ := he a p hp
      have hg : tm.getD a undef = x := by simp [Array.getD_eq_getD_getElem?, hi]
      obtain ⟨v, V', A, rfl, h6, hV', hcell⟩ := ld_val hR hr hx h
      obtain ⟨v2, vs, h7, h8, h9⟩ := res_ok he hR hc' hr h6
      refine ⟨.cons v v2, V' :: vs, by rw [toT, hV', Option.bind_some, h7, Option.map_some], h8, ?_⟩
      simp [List.mapM_cons, resS, hg, asAddr, loadVar, run_aggOf ha, hcell, h9]
    · cases hc
theorem one_ok {v : AV} {vs : List Value} (h : toT ι v = some vs) : toV ι (one v) = some (if h : vs.toArray.size = 1 then vs.toArray[0] else .tuple vs.toArray) := by
  cases v with
  | nil => simp [toT] at h; subst h; simp [one, toV, toT, comV]
  | cons a b =>
    simp only [toT, Option.bind_eq_some_iff, Option.map_eq_some_iff] at h
    obtain ⟨x, hx, r, hr, rfl⟩ := h
    cases b with
    | nil => simp [toT] at hr; subst hr; simpa [one] using hx
    | cons c d =>
      simp only [toT, Option.bind_eq_some_iff, Option.map_eq_some_iff] at hr
      obtain ⟨y, hy, r2, hr2, rfl⟩ := hr
      simp [one, toV, toT, comV, hx, hy, hr2]
    | _ => simp [toT] at hr
  | _ => simp [toT] at h
theorem leaves_ok {fn : Func} {tm : Array Value} {R : Ending → World → Prop} {M m : Nat} {w0 : World} : ∀ (rs : List Nat) (w : World), rs.Nodup → (∀ r ∈ rs, M ≤ r ∧ w.heap[r]? = some (.deferred (some [])) ∧ Un ι r) → M = w0.heap.size → (∃ ι0, Frm ι0 w0 w) → Rel ι g w →
    (∀ w', Rel ι g w' → (∀ ι0, Frm ι0 w0 w → Frm ι0 w0 w') → ∃ v, (results fn tm).run P w' = .ok v w' ∧ R (.returned v) w') → LeavesInM Fence.wide m P fn tm R (rs.map mark) .returning w
  | [], w, _, _, _, _, hR, hk => hk w hR (fun _ h => h)
  | r :: rs, w, hn, hrs, hM, hF, hR, hk => by
    obtain ⟨h1, h2, h3⟩ := hrs r (.head _)
    obtain ⟨hn1, hn2⟩ := List.nodup_cons.1 hn
    have hrun : (Instr.takeDeferred r).run P w = .ok [] { w with heap := w.heap.setIfInBounds r (.deferred none) } := by
      simp [Instr.takeDeferred, getObj, setObj, Sem.run, h2]
    refine ⟨by simp, .inl ⟨r, { w with heap := w.heap.setIfInBounds r (.deferred none) }, rfl, hrun, ?_⟩⟩
    have hset : ∀ ι0, Frm ι0 w0 w → Frm ι0 w0 { w with heap := w.heap.setIfInBounds r (.deferred none) } := fun ι0 h => h.setO (by omega)
    refine leaves_ok rs _ hn2 (fun q hq => ?_) hM (hF.imp hset) (hR.setO h3 fun _ _ _ e => by rw [h2] at e; cases e) (fun w' h4 h5 => hk w' h4 (fun ι0 h => h5 ι0 (hset ι0 h)))
    obtain ⟨h4, h5, h6⟩ := hrs q (.tail _ hq)
    refine ⟨h4, ?_, h6⟩
    show (w.heap.setIfInBounds r _)[q]? = _
    rw [Array.getElem?_setIfInBounds_ne (fun e => hn1 (by rw [e]; exact hq))]; exact h5
end Ev
namespace Ev
open Go
variable [Told] [TokV] [ToldOK]
variable {P : Program} {tk : Tok} {L : List Nat}
theorem results_ok {fn : Func} {rs : List IRes} {e : T AV} {t : H} {n n' : Nat} {tm : Array Value} {ι : Rn} {KK : G} {w : World} {v : AV} {t' : H} (hc : cRes P fn.results.toList = some rs) (he : TR ι e tm) (hR : Rel ι (un t KK) w) (h : denRes e t rs (fun l => .ok (one l) t n) = .ok v t' n') :
    t' = t ∧ n' = n ∧ ∃ V, toV ι v = some V ∧ (results fn tm).run P w = .ok V w := by
  obtain ⟨l, vs, h1, h2, h3⟩ := res_ok he hR hc ok_ne h
  have h2 : Out.ok (one l) t n = .ok v t' n' := h2
  injection h2 with h4 h5 h6
  subst h4
  refine ⟨h5.symm, h6.symm, _, one_ok h1, ?_⟩
  have h4 : (fn.results.mapM (resS tm)).run P w = .ok vs.toArray w := by
    simp [Array.mapM_eq_mapM_toList, h3]
  have h5 : results fn tm = (do let vs ← fn.results.mapM (resS tm); pure (if h : vs.size = 1 then vs[0] else .tuple vs)) := by
    unfold results
    congr 1
  rw [h5, Sem.run_bind, h4]
  rfl
theorem fn_ok {f : FuncId} {fn : Func} {ifn : IFn} (hm : P.follows .mixedOrders = true) (hf : P.funcs[f]? = some fn) (hc : cFn P L fn = some ifn) {y : Yh} {ih : Ih} {a : AV} {t : H} {n : Nat} {v : AV} {t' : H} {n' : Nat} (hYM : YM y) (hI : IM ih) (hih : IhOK P tk ih)
    (h : denF ifn y ih a t n = .ok v t' n') (K : G) (ι : Rn) (w : World) (args : Array Value) (hyo : YOK P tk y ι w) (hK : KT K n') (hR : Rel ι (un t K) w) (hH : HT t n) (hY : YT ι n) (ha : toT ι a = some args.toList) :
    CallsIn Fence.wide 0 P f args w fun x w' => ∃ V ι', x = .returned V ∧ toV ι' v = some V ∧ PC K ι w t' n' ι' w' := by
  unfold cFn at hc
  split at hc
  · rename_i c rs hb hrs
    split at hc
    · rename_i hcond
      injection hc with hc
      subst hc
      simp only [Bool.and_eq_true, List.all_eq_true, decide_eq_true_eq] at hcond
      obtain ⟨⟨hL, hds⟩, hnp⟩ := hcond
      unfold denF func at h
      obtain ⟨h1, h⟩ := bO_inv h ok_ne
      have h1 : llen a = nparams fn := beq_nat h1
      rw [toT_length ha] at h1
      have h1 : args.size = nparams fn := by simpa using h1
      refine callsIn_of_wp_marks hf hb trivial ?_
      generalize hx : den (cCode P L c) y ih (fillE a 0 .leaf) t n nor = x at h
      have hne : NE x := fun q hq => by subst hq; cases h
      have hi : Iv L fn.ntmps w.heap.size ι (fillE a 0 .leaf) { tmps := args ++ Array.replicate (fn.ntmps - args.size) undef, defers := [] } w := by
        refine ⟨args_tr ha, fun d hd => ?_, ?_, .nil, Nat.le_refl _⟩
        · rw [fillE_get, if_pos (Nat.zero_le _), Nat.sub_zero, T.get_leaf]
          have hlen := (toT_some ha).2.1
          have := hL d hd
          rw [List.getElem?_eq_none (by rw [← hlen]; simp; omega)]
        · simp; omega
      have fin : ∀ {e1 : T AV} {t1 : H} {n1 : Nat}, denRes e1 t1 rs (fun l => .ok (one l) t1 n1) = .ok v t' n' → n' = n1 ∧ ∀ ι' ac' w', PC K ι w t1 n1 ι' w' → Iv L fn.ntmps w.heap.size ι' e1 ac' w' →
          LeavesInM Fence.wide 0 P fn ac'.tmps (fun x w' => ∃ V ι', x = .returned V ∧ toV ι' v = some V ∧ PC K ι w t' n' ι' w') ac'.defers .returning w' := by
        intro e1 t1 n1 h3
        have hn1 : n' = n1 := by
          obtain ⟨l, h4⟩ := h_denRes ok_ne h3
          injection h4 with _ _ h4
          exact h4.symm
        refine ⟨hn1, fun ι' ac' w' hp hi' => ?_⟩
        obtain ⟨rs', k1, k2, k3⟩ := hi'.mks
        rw [k1]
        refine leaves_ok rs' w' k2 k3 rfl ⟨ι, hp.frm⟩ hp.rel fun w'' h5 h6 => ?_
        obtain ⟨rfl, rfl, V, g1, g2⟩ := results_ok hrs hi'.tr h5 h3
        exact ⟨V, g2, V, ι', rfl, g1, h5, hp.ext, h6 ι hp.frm, hp.ht, hp.yt⟩
      have htop : KT K (top x) := by
        cases x with
        | nor e1 t1 n1 => exact (fin h).1 ▸ hK
        | ret e1 t1 n1 => exact (fin h).1 ▸ hK
        | _ => cases h
      refine code_ok (L := L) (N := fn.ntmps) hm c (fun d hd => hds d hd) none 0 w.heap.size y ih (fillE a 0 .leaf) t n nor x K ι w _ _ (.inl rfl) hYM hI hih hyo hne hx nor_top htop hR hH hY hi ?_ ?_
      · intro e1 t1 n1 ι' ac' w' h3 hp hi'
        subst h3
        exact (fin h).2 ι' ac' w' hp hi'
      · intro q e1 t1 n1 ι' ac' w' h3 hp hi'
        rcases h3 with ⟨i, rfl, rfl⟩ | ⟨i, rfl, rfl⟩ | ⟨rfl, rfl⟩
        · cases h
        · cases h
        · exact (fin h).2 ι' ac' w' hp hi'
    · cases hc
  · cases hc
structure EntOK (P : Program) (tk : Tok) (f : FuncId) (d : FnD) : Prop where
  mono : DMono d
  calls : ∀ (y : Yh) (ih : Ih) (a : AV) (t : H) (n : Nat) (v : AV) (t' : H) (n' : Nat), YM y → IM ih → IhOK P tk ih → d y ih a t n = .ok v t' n' → Enters P f ∧ ∀ (K : G) (ι : Rn) (w : World) (args : Array Value), YOK P tk y ι w → KT K n' → Rel ι (un t K) w → HT t n → YT ι n → toT ι a = some args.toList →
    CallsIn Fence.wide 0 P f args w fun x w' => ∃ V ι', x = .returned V ∧ toV ι' v = some V ∧ PC K ι w t' n' ι' w'
theorem ent_fn {f : FuncId} {fn : Func} {ifn : IFn} (hm : P.follows .mixedOrders = true) (h1 : P.funcs[f]? = some fn) (h2 : (fn.name != "runtime.NumGoroutine") = true) (h3 : cFn P L fn = some ifn) : EntOK P tk f (denF ifn) :=
  ⟨fun y ih a t n v t' n' hY hI h => fn_m ifn hY hI h, fun y ih a t n v t' n' hYM hI hih h => ⟨enters_of h1 (by
    unfold cFn at h3
    split at h3
    · rename_i c rs hb _; rw [hb]; rfl
    · cases h3) h2, fun K ι w args => fn_ok hm h1 h3 hYM hI hih h K ι w args⟩⟩
theorem ent_eq {f : FuncId} {fn : Func} {d : FnD} (hm : P.follows .mixedOrders = true) (h1 : P.funcs[f]? = some fn) (h2 : (fn.name != "runtime.NumGoroutine") = true) (h3 : (cFn P L fn).map denF = some d) : EntOK P tk f d := by
  obtain ⟨ifn, h4, rfl⟩ := Option.map_eq_some_iff.1 h3
  exact ent_fn hm h1 h2 h4
def TabOK (P : Program) (tk : Tok) (tab : Bt FnD) : Prop := ∀ f d, tab.get f = some d → EntOK P tk f d
theorem run_ok {tab : Bt FnD} (ht : TabOK P tk tab) : ∀ fuel, IhOK P tk (run tab fuel)
  | 0 => fun _ _ _ _ _ _ _ _ _ h => by cases h
  | fuel + 1 => fun y f a t n v t' n' hYM h => by
    have h : tag f (Option.rec (motive := fun _ => Out) (.err 98) (fun d => d y (run tab fuel) a t n) (tab.get f)) = .ok v t' n' := h
    cases hg : tab.get f with
    | none => rw [hg] at h; cases h
    | some d =>
      rw [hg] at h
      have h : tag f (d y (run tab fuel) a t n) = .ok v t' n' := h
      generalize hx : d y (run tab fuel) a t n = x at h
      cases x with
      | ok v1 t1 n1 =>
        have h : Out.ok v1 t1 n1 = .ok v t' n' := h
        injection h with h4 h5 h6
        subst h4; subst h5; subst h6
        exact (ht f d hg).calls _ _ _ _ _ _ _ _ hYM (run_m (fun f d h => (ht f d h).mono) fuel) (run_ok ht fuel) hx
      | _ => cases h
end Ev
namespace Ev
open Go
variable [Told] [TokV] [ToldOK]
variable {P : Program} {tk : Tok}
def TA (E : Nat → FnD → Prop) (g : Nat → Nat) (t : Bt FnD) : Prop := ∀ q d, t.get q = some d → E (g q) d
theorem ta_leaf {E : Nat → FnD → Prop} {g : Nat → Nat} : TA E g .leaf := fun q d h => by rw [Bt.get_leaf] at h; cases h
theorem ta_node {E : Nat → FnD → Prop} {g : Nat → Nat} {l r : Bt FnD} {v : Option FnD} (hl : TA E (fun q => g (2 * q + 1)) l) (hv : ∀ d, v = some d → E (g 0) d) (hr : TA E (fun q => g (2 * q + 2)) r) : TA E g (.node l v r) := fun q d h => by
  rw [Bt.get_node] at h
  split at h
  · rename_i h0; subst h0; exact hv d h
  · split at h
    · have := hl _ _ h
      have e : 2 * (q / 2) + 1 = q := by omega
      simp only [e] at this; exact this
    · have := hr _ _ h
      have e : 2 * (q / 2 - 1) + 2 = q := by omega
      simp only [e] at this; exact this
theorem ta_some {E : Nat → FnD → Prop} {n : Nat} {d : FnD} (h : E n d) : ∀ d', some d = some d' → E n d' := fun d' e => by injection e with e; subst e; exact h
theorem ta_none {E : Nat → FnD → Prop} {n : Nat} : ∀ d', none = some d' → E n d' := fun d' e => by cases e
theorem tab_of {tab : Bt FnD} (h : TA (EntOK P tk) (fun q => q) tab) : TabOK P tk tab := h
def orc (s : FnD) (res : Nat → Int → Option Int) : FnD := fun y ih a t n => match a with
  | .cons (.ref 12 b _ _ _ _) (.cons (.num 3 m) .nil) => match res b m with
    | some j => .ok (.num 3 j) t n
    | none => .err 80
  | a => s y ih a t n
theorem toT_tok {ι : Rn} {b o e l c : Nat} {m x : Int} (h : ι.tok b = some (.i64, x)) : toT ι (.cons (.ref 12 b e o l c) (.cons (.num 3 m) .nil)) = toT ι (.cons (.num 3 x) (.cons (.num 3 m) .nil)) := by
  simp [toT, toV, refV, h, numV, kind]
theorem ent_orc {f : FuncId} {s : FnD} {res : Nat → Int → Option Int} (hs : EntOK P tk f s) (h : ∀ b m j, res b m = some j → ∃ x, tk b = some (.i64, x) ∧ ∀ (y : Yh) (ih : Ih) (t : H) (n : Nat), s y ih (.cons (.num 3 x) (.cons (.num 3 m) .nil)) t n = .ok (.num 3 j) t n) : EntOK P tk f (orc s res) := by
  constructor
  · intro y ih a t n v t' n' hY hI hd
    unfold orc at hd
    split at hd
    · split at hd
      · injection hd with _ _ hd; omega
      · cases hd
    · exact hs.mono _ _ _ _ _ _ _ _ hY hI hd
  · intro y ih a t n v t' n' hY hI hih hd
    unfold orc at hd
    split at hd
    · rename_i b _ _ _ _ m
      split at hd
      · rename_i j hj
        obtain ⟨x, hx, hrun⟩ := h _ _ _ hj
        have hd2 := hrun y ih t n
        rw [hd] at hd2
        obtain ⟨h1, h2⟩ := hs.calls _ _ _ _ _ _ _ _ hY hI hih hd2
        refine ⟨h1, fun K ι w args hyo hK hR hH hYT ha => h2 K ι w args hyo hK hR hH hYT ?_⟩
        rw [← toT_tok (hyo.1 _ _ hx)]; exact ha
      · cases hd
    · exact hs.calls _ _ _ _ _ _ _ _ hY hI hih hd
def rn0 (tk : Tok) : Rn := ⟨fun _ _ => none, fun _ => none, fun _ => none, tk, fun _ _ => none⟩
theorem rel0 {w : World} (hA : ArgAt (rn0 tk) w) : Rel (rn0 tk) (un .leaf fun _ => none) w :=
  ⟨fun b o h => by simp [un, M.get_leaf] at h, fun _ _ => ⟨rfl, fun _ => rfl, fun _ => rfl⟩, fun _ _ _ _ _ _ h => (by cases h), fun _ _ _ h => (by cases h), hA⟩
theorem noArg {w : World} (h : ∀ a, TokV.c0 a = none) : ArgAt (rn0 tk) w := fun a x hx => by rw [h a] at hx; cases hx
noncomputable def isT (o : Out) : Bool := Out.rec (motive := fun _ => Bool) (fun a _ _ => AV.rec (motive := fun _ => Bool) (fun q i => Nat.beq q 8 && ibeq i 1) (fun _ => false) (fun _ _ _ _ _ _ => false) (fun _ _ _ _ => false) false (fun _ _ _ _ => false) a) (fun _ _ _ => false) (fun _ _ _ _ => false) (fun _ _ _ _ => false) (fun _ _ _ => false) (fun _ => false) o
theorem isT_inv {o : Out} (h : isT o = true) : ∃ t n, o = .ok (.num 8 1) t n := by
  cases o with
  | ok a t n =>
    cases a with
    | num q i =>
      have h : (Nat.beq q 8 && ibeq i 1) = true := h
      simp only [Bool.and_eq_true] at h
      obtain rfl := beq_nat h.1
      have h2 := h.2
      unfold ibeq at h2
      cases i with
      | ofNat j => exact ⟨t, n, by rw [beq_nat h2]; rfl⟩
      | negSucc j => cases h2
    | _ => cases h
  | _ => cases h
theorem law_okA {tab : Bt FnD} {fuel : Nat} {f : FuncId} {a : AV} {args : Array Value} (ht : TabOK P tk tab) (ha : toT (rn0 tk) a = some args.toList) (h : isT (run tab fuel noY f a .leaf 0) = true) (w : World) (hA : ArgAt (rn0 tk) w) : Calls P f args w fun e w' => e = .returned (.bool true) ∧ Frm (rn0 tk) w w' := by
  obtain ⟨t, n, h⟩ := isT_inv h
  obtain ⟨_, h2⟩ := run_ok ht fuel _ _ _ _ _ _ _ _ noY_m h
  refine callsIn_wide.1 (CallsIn.mono (h2 (fun _ => none) (rn0 tk) w args (.no fun b x hb => hb) (fun b _ => rfl) (rel0 hA) (fun b _ => M.get_leaf b) (fun b _ => rfl) ha) ?_)
  rintro x w' ⟨V, ι', rfl, hV, hp⟩
  have : V = .bool true := by simpa [toV, numV] using hV.symm
  subst this
  exact ⟨rfl, hp.frm⟩
theorem law_ok {tab : Bt FnD} {fuel : Nat} {f : FuncId} {a : AV} {args : Array Value} (ht : TabOK P tk tab) (ha : toT (rn0 tk) a = some args.toList) (h : isT (run tab fuel noY f a .leaf 0) = true) (w : World) (hA : ∀ a, TokV.c0 a = none := by exact fun _ => rfl) : Calls P f args w fun e w' => e = .returned (.bool true) ∧ Frm (rn0 tk) w w' := law_okA ht ha h w (noArg hA)
end Ev
namespace Ev
open Go
variable [Told] [TokV] [ToldOK]
variable {P : Program} {tk : Tok}
theorem mapOk_back {ι ι' : Rn} (hle : ι.le ι') : ∀ (es : ML) (l l' : List MapEntry), MapOk ι es l → MapOk ι' es l' → MapOk ι es l' := by
  intro es
  induction es with
  | nil => intro l l' _ h; exact h
  | cons k v r ih =>
    rintro l l' ⟨x, l1, rfl, h1, h2, h3⟩ ⟨x', l1', rfl, h1', h2', h3'⟩
    have e1 := toV_mono hle _ _ h1
    have e2 := toV_mono hle _ _ h2
    rw [h1'] at e1; injection e1 with e1
    rw [h2'] at e2; injection e2 with e2
    exact ⟨x', l1', rfl, by rw [e1]; exact h1, by rw [e2]; exact h2, ih _ _ h3 h3'⟩
theorem objOk_back {ι ι' : Rn} {w w' : World} {b : Nat} {o : AO} (hle : ι.le ι') (h : ObjOk ι w b o) (h' : ObjOk ι' w' b o) : ObjOk ι w' b o := by
  cases o with
  | row sz c n ep =>
    obtain ⟨g1, g2, g3, g4⟩ := h
    refine ⟨g1, g2, g3, fun e he => ?_⟩
    obtain ⟨rb, cap, cs, k1, k2, k3, k4⟩ := g4 e he
    obtain ⟨rb', cap', cs', k1', k2', k3', k4'⟩ := h'.2.2.2 e he
    have e0 := hle.blk _ _ _ k1
    rw [k1'] at e0; injection e0 with e0; injection e0 with e1 e2; injection e2 with e2 _
    subst e1; subst e2
    refine ⟨rb', cap', cs', k1, k2', k3', fun k tg v hk ht => ?_⟩
    obtain ⟨x, hx, hc, _⟩ := k4 k tg v hk ht
    obtain ⟨x', hx', _, hi'⟩ := k4' k tg v hk ht
    have e3 := toV_mono hle _ _ hx
    rw [hx'] at e3; injection e3 with e3; subst e3
    exact ⟨x', hx, hc, hi'⟩
  | mp es ver =>
    obtain ⟨g1, g1v, r, ents, clock, g2, g2v, g3, g4⟩ := h
    obtain ⟨_, _, r', ents', clock', g2', g2v', g3', g4'⟩ := h'
    have ev := hle.mpv _ _ _ g2v.1
    rw [g2v'.1] at ev; injection ev with ev; injection ev with ev1 ev2; subst ev1; subst ev2
    have e0 := hle.mp _ _ g2
    rw [g2'] at e0; injection e0 with e0; subst e0
    exact ⟨g1, g1v, r', _, _, g2, g2v, g3', mapOk_back hle _ _ _ g4 g4'⟩
def clo (s : FnD) (n1 : Nat) : FnD := fun y ih a t n => match a, n with
  | .nil, 0 => .ok (.num 8 1) .leaf n1
  | a, n => s y ih a t n
noncomputable def isTn (n1 : Nat) (o : Out) : Bool := Out.rec (motive := fun _ => Bool) (fun a _ n => AV.rec (motive := fun _ => Bool) (fun q i => Nat.beq q 8 && (ibeq i 1 && Nat.beq n n1)) (fun _ => false) (fun _ _ _ _ _ _ => false) (fun _ _ _ _ => false) false (fun _ _ _ _ => false) a) (fun _ _ _ => false) (fun _ _ _ _ => false) (fun _ _ _ _ => false) (fun _ _ _ => false) (fun _ => false) o
theorem isTn_inv {o : Out} {n1 : Nat} (h : isTn n1 o = true) : ∃ t, o = .ok (.num 8 1) t n1 := by
  cases o with
  | ok a t n =>
    cases a with
    | num q i =>
      have h : (Nat.beq q 8 && (ibeq i 1 && Nat.beq n n1)) = true := h
      simp only [Bool.and_eq_true] at h
      obtain rfl := beq_nat h.1
      obtain rfl := beq_nat h.2.2
      have h2 := h.2.1
      unfold ibeq at h2
      cases i with
      | ofNat j => exact ⟨t, by rw [beq_nat h2]; rfl⟩
      | negSucc j => cases h2
    | _ => cases h
  | _ => cases h
theorem ent_clo {f : FuncId} {s : FnD} {tab : Bt FnD} {fuel n1 : Nat} (hs : EntOK P tk f s) (ht : TabOK P tk tab) (h : isTn n1 (run tab fuel noY f .nil .leaf 0) = true) : EntOK P tk f (clo s n1) := by
  obtain ⟨t1, h⟩ := isTn_inv h
  constructor
  · intro y ih a t n v t' n' hY hI hd
    unfold clo at hd
    split at hd
    · injection hd with _ _ hd; omega
    · exact hs.mono _ _ _ _ _ _ _ _ hY hI hd
  · intro y ih a t n v t' n' hY hI hih hd
    unfold clo at hd
    split at hd
    · injection hd with e1 e2 e3
      subst e1; subst e2; subst e3
      obtain ⟨h1, h2⟩ := run_ok ht fuel _ _ _ _ _ _ _ _ noY_m h
      refine ⟨h1, fun K ι w args hyo hK hR hH hYT ha => ?_⟩
      have hun : un t K = un .leaf K := by funext b; simp [un, hH b (Nat.zero_le b), M.get_leaf]
      rw [hun] at hR
      refine CallsIn.mono (h2 K ι w args (.no hyo.1) hK hR (fun b _ => M.get_leaf b) hYT ha) ?_
      rintro x w' ⟨V, ι', rfl, hV, hp⟩
      refine ⟨V, ι, rfl, by simpa [toV, numV] using hV, ⟨fun b o hb => ?_, hR.non, hR.inj, hR.injm, hR.argKeep hp.frm (.refl _ _)⟩, .refl _ _, hp.frm, fun b _ => M.get_leaf b, fun b _ => hYT b (Nat.zero_le _)⟩
      refine objOk_back hp.ext.le (hR.obj b o hb) (hp.rel.obj b o ?_)
      have hb : K b = some o := by simpa [un, M.get_leaf] using hb
      have hlt : n1 ≤ b := by
        rcases Nat.lt_or_ge b n1 with h' | h'
        · rw [hK b h'] at hb; cases hb
        · exact h'
      simp [un, hp.ht b hlt, hb]
    · exact hs.calls _ _ _ _ _ _ _ _ hY hI hih hd
theorem tab_set {tab : Bt FnD} {f : FuncId} {d : FnD} (ht : TabOK P tk tab) (hd : EntOK P tk f d) : TabOK P tk (tab.set d f) := fun q e h => by
  rw [Bt.get_set_if] at h
  split at h
  · rename_i hq; injection h with h; subst h; subst hq; exact hd
  · exact ht q e h
end Ev
namespace Ev
open Go
noncomputable section
variable [Told] [TokV] [ToldOK]
def an2 (a b : Bool) : Bool := Bool.rec (motive := fun _ => Bool) false b a
theorem an2_inv {a b : Bool} (h : an2 a b = true) : a = true ∧ b = true := by cases a <;> cases b <;> first | exact ⟨rfl, rfl⟩ | cases h
def Bt.mkn {α : Type} (l : Bt α) (v : Option α) (r : Bt α) : Bt α := Option.rec (motive := fun _ => Bt α) (Bt.rec (motive := fun _ => Bt α) (Bt.rec (motive := fun _ => Bt α) .leaf (fun _ _ _ _ _ => .node l v r) r) (fun _ _ _ _ _ => .node l v r) l) (fun _ => .node l v r) v
theorem Bt.get_mkn {α : Type} (l r : Bt α) (v : Option α) (n : Nat) : (Bt.mkn l v r).get n = (Bt.node l v r).get n := by
  cases v with
  | some x => rfl
  | none =>
    cases l with
    | node l1 v1 r1 => rfl
    | leaf =>
      cases r with
      | node l1 v1 r1 => rfl
      | leaf =>
        show (Bt.leaf : Bt α).get n = _
        rw [Bt.get_node, Bt.get_leaf]
        split
        · rfl
        · split <;> rfl
def Bt.clr {α : Type} (t : Bt α) : Nat → Bt α := Bt.rec (motive := fun _ => Nat → Bt α) (fun _ => .leaf)
  (fun l v r ihl ihr n => Bool.rec (motive := fun _ => Bt α) (Bool.rec (motive := fun _ => Bt α) (Bt.seq (ihr (Nat.pred (Nat.div n 2))) fun c => Bt.mkn l v c) (Bt.seq (ihl (Nat.div n 2)) fun c => Bt.mkn c v r) (Nat.beq (Nat.mod n 2) 1)) (Bt.mkn l none r) (Nat.beq n 0)) t
theorem Bt.clr_node {α : Type} (l r : Bt α) (v : Option α) (n : Nat) :
    (Bt.node l v r).clr n = if n = 0 then Bt.mkn l none r else if n % 2 = 1 then Bt.mkn (l.clr (n / 2)) v r else Bt.mkn l v (r.clr (n / 2 - 1)) := by
  refine (Bt.bsel2 n _ _ _).trans ?_
  rw [Bt.seq_eq, Bt.seq_eq]; rfl
theorem Bt.get_clr {α : Type} : ∀ (t : Bt α) (n m : Nat), (t.clr n).get m = if n = m then none else t.get m := by
  intro t
  induction t with
  | leaf => intro n m; show (Bt.leaf : Bt α).get m = _; rw [Bt.get_leaf]; simp
  | node l v r ihl ihr =>
    intro n m
    rw [Bt.clr_node]
    split
    · rename_i h0
      subst h0
      rw [Bt.get_mkn, Bt.get_node, Bt.get_node]
      by_cases hm : m = 0
      · subst hm; simp
      · rw [if_neg hm, if_neg (show ¬ (0 : Nat) = m from fun e => hm e.symm), if_neg hm]
    · rename_i h0
      split
      · rename_i h1
        rw [Bt.get_mkn, Bt.get_node, Bt.get_node]
        by_cases hm : m = 0
        · rw [if_pos hm, if_pos hm, if_neg (by omega)]
        · rw [if_neg hm, if_neg hm]
          by_cases hm1 : m % 2 = 1
          · rw [if_pos hm1, if_pos hm1, ihl]
            by_cases e : n = m
            · rw [if_pos e, if_pos (by omega)]
            · rw [if_neg e, if_neg (by omega)]
          · rw [if_neg hm1, if_neg hm1, if_neg (by omega)]
      · rename_i h1
        rw [Bt.get_mkn, Bt.get_node, Bt.get_node]
        by_cases hm : m = 0
        · rw [if_pos hm, if_pos hm, if_neg (by omega)]
        · rw [if_neg hm, if_neg hm]
          by_cases hm1 : m % 2 = 1
          · rw [if_pos hm1, if_pos hm1, if_neg (by omega)]
          · rw [if_neg hm1, if_neg hm1, ihr]
            by_cases e : n = m
            · rw [if_pos e, if_pos (by omega)]
            · rw [if_neg e, if_neg (by omega)]
def M.clr {α : Type} (t : M α) (n : Nat) : M α := Bool.rec (motive := fun _ => M α) ⟨t.a, t.b.clr n⟩ ⟨N16.mod (M.tp n) (N16.mod (M.hi n) (N16.mod (M.mi n) (N16.mod (M.lo n) fun _ => none))) t.a, t.b⟩ (Nat.ble n 65535)
theorem M.get_clr {α : Type} (t : M α) (n m : Nat) : (M.clr t n).get m = if n = m then none else t.get m := by
  rcases ble_cases n 65535 with ⟨h1, hb⟩ | ⟨h1, hb⟩ <;> rcases ble_cases m 65535 with ⟨h2, _⟩ | ⟨h2, _⟩ <;> unfold M.clr <;> rw [hb]
  · rw [M.get_lt _ h2]
    by_cases h : n = m
    · subst h; rw [if_pos rfl]
      show N16.sel (M.lo n) (N16.sel (M.mi n) (N16.sel (M.hi n) (N16.sel (M.tp n) (N16.mod (M.tp n) (N16.mod (M.hi n) (N16.mod (M.mi n) (N16.mod (M.lo n) fun _ => none))) t.a)))) = _
      rw [N16.sel_mod, N16.sel_mod, N16.sel_mod, N16.sel_mod]
    · rw [if_neg h, M.get_lt _ h2]; exact M.sel_mod4 _ _ h1 h2 h
  · rw [M.get_ge _ h2, if_neg (by omega), M.get_ge _ h2]
  · rw [M.get_lt _ h2, if_neg (by omega), M.get_lt _ h2]
  · rw [M.get_ge _ h2, M.get_ge _ h2]; exact Bt.get_clr _ _ _
def hNo : Option AO → (Option AO → Out) → Out := fun _ k => k none
def hclr (t : H) (b : Nat) (k : H → Out) : Out := M.rec (motive := fun _ => Out)
  (fun a bt => Bool.rec (motive := fun _ => Out) (Bt.seq (bt.clr b) fun bt => k ⟨a, bt⟩) (up4 (M.tp b) a (fun r k => up3 (M.hi b) r (fun r k => up2 (M.mi b) r (fun r k => up1 (M.lo b) r hNo k) k) k) fun a => k ⟨a, bt⟩) (Nat.ble b 65535)) t
theorem hclr_eq (t : H) (b : Nat) (k : H → Out) : hclr t b k = k (M.clr t b) := by
  obtain ⟨a, bt⟩ := t
  show Bool.rec (motive := fun _ => Out) (Bt.seq (bt.clr b) fun bt => k ⟨a, bt⟩) (up4 (M.tp b) a (fun r k => up3 (M.hi b) r (fun r k => up2 (M.mi b) r (fun r k => up1 (M.lo b) r hNo k) k) k) fun a => k ⟨a, bt⟩) (Nat.ble b 65535) = _
  unfold M.clr
  rcases ble_cases b 65535 with ⟨h1, h2⟩ | ⟨_, h2⟩
  · rw [h2]; exact up_all b (fun _ => none) hNo rfl a _
  · rw [h2]; exact Bt.seq_eq _ _
def cutR (c : Nat) : Nat → H → (H → Out) → Out :=
  Nat.rec (motive := fun _ => Nat → H → (H → Out) → Out) (fun _ t k => k t) (fun _ ih b t k => hclr t b fun t' => forceN (Nat.succ b) fun b' => ih b' t' k) c
theorem cutR_inv {r : Out} (hr : NE r) : ∀ (c b : Nat) (t : H) (k : H → Out), cutR c b t k = r → ∃ t', k t' = r ∧ ∀ m, t'.get m = if b ≤ m ∧ m < b + c then none else t.get m
  | 0, b, t, k, h => ⟨t, h, fun m => by rw [if_neg (by omega)]⟩
  | c + 1, b, t, k, h => by
    have h := (show hclr t b (fun t' => forceN (Nat.succ b) fun b' => cutR c b' t' k) = r from h)
    rw [hclr_eq, forceN_eq] at h
    obtain ⟨t', h2, h3⟩ := cutR_inv hr c (Nat.succ b) _ k h
    refine ⟨t', h2, fun m => ?_⟩
    rw [h3, M.get_clr]
    by_cases e1 : b = m
    · rw [if_pos (by omega : b ≤ m ∧ m < b + (c + 1)), if_pos e1]; simp
    · by_cases e2 : Nat.succ b ≤ m ∧ m < Nat.succ b + c
      · rw [if_pos e2, if_pos (by omega)]
      · rw [if_neg e2, if_neg e1, if_neg (by omega)]
def oeq {α : Type} (f : α → α → Bool) (a b : Option α) : Bool := Option.rec (motive := fun _ => Bool) (Option.rec (motive := fun _ => Bool) true (fun _ => false) b) (fun x => Option.rec (motive := fun _ => Bool) false (fun y => f x y) b) a
theorem oeq_ok {α : Type} {f : α → α → Bool} (hf : ∀ a b, f a b = true → a = b) {a b : Option α} (h : oeq f a b = true) : a = b := by
  cases a <;> cases b
  · rfl
  · cases h
  · cases h
  · rw [hf _ _ h]
def aveq (a : AV) : AV → Bool := AV.rec (motive := fun _ => AV → Bool)
  (fun k n b => AV.rec (motive := fun _ => Bool) (fun k' n' => an2 (Nat.beq k k') (ibeq n n')) (fun _ => false) (fun _ _ _ _ _ _ => false) (fun _ _ _ _ => false) false (fun _ _ _ _ => false) b)
  (fun s b => AV.rec (motive := fun _ => Bool) (fun _ _ => false) (fun s' => sbeq s s') (fun _ _ _ _ _ _ => false) (fun _ _ _ _ => false) false (fun _ _ _ _ => false) b)
  (fun g p e o l c b => AV.rec (motive := fun _ => Bool) (fun _ _ => false) (fun _ => false) (fun g' p' e' o' l' c' => an2 (Nat.beq g g') (an2 (Nat.beq p p') (an2 (Nat.beq e e') (an2 (Nat.beq o o') (an2 (Nat.beq l l') (Nat.beq c c')))))) (fun _ _ _ _ => false) false (fun _ _ _ _ => false) b)
  (fun g x _ ih b => AV.rec (motive := fun _ => Bool) (fun _ _ => false) (fun _ => false) (fun _ _ _ _ _ _ => false) (fun g' x' l' _ => an2 (Nat.beq g g') (an2 (Nat.beq x x') (ih l'))) false (fun _ _ _ _ => false) b)
  (fun b => AV.rec (motive := fun _ => Bool) (fun _ _ => false) (fun _ => false) (fun _ _ _ _ _ _ => false) (fun _ _ _ _ => false) true (fun _ _ _ _ => false) b)
  (fun _ _ iha ihb b => AV.rec (motive := fun _ => Bool) (fun _ _ => false) (fun _ => false) (fun _ _ _ _ _ _ => false) (fun _ _ _ _ => false) false (fun a' b' _ _ => an2 (iha a') (ihb b')) b) a
theorem ibeqR_eq {a b : Int} (h : ibeq a b = true) : a = b := by
  cases a with
  | ofNat m => cases b with
    | ofNat n => rw [beq_nat (show Nat.beq m n = true from h)]
    | negSucc n => cases h
  | negSucc m => cases b with
    | ofNat n => cases h
    | negSucc n => rw [beq_nat (show Nat.beq m n = true from h)]
theorem sbeqR_eq : ∀ {a b : List Nat}, sbeq a b = true → a = b
  | [], [], _ => rfl
  | [], _ :: _, h => by cases h
  | _ :: _, [], h => by cases h
  | x :: a, y :: b, h => by
    have h : Bool.rec (motive := fun _ => Bool) false (sbeq a b) (Nat.beq x y) = true := h
    cases hx : Nat.beq x y with
    | false => rw [hx] at h; cases h
    | true => rw [hx] at h; rw [beq_nat hx, sbeqR_eq (show sbeq a b = true from h)]
theorem aveq_eq : ∀ (a b : AV), aveq a b = true → a = b := by
  intro a
  induction a with
  | num k n =>
    intro b h
    cases b with
    | num k' n' => obtain ⟨h1, h2⟩ := an2_inv (show an2 (Nat.beq k k') (ibeq n n') = true from h); rw [beq_nat h1, ibeqR_eq h2]
    | _ => cases h
  | str s =>
    intro b h
    cases b with
    | str s' => rw [sbeqR_eq (show sbeq s s' = true from h)]
    | _ => cases h
  | ref g p e o l c =>
    intro b h
    cases b with
    | ref g' p' e' o' l' c' =>
      obtain ⟨h1, h⟩ := an2_inv (show an2 (Nat.beq g g') (an2 (Nat.beq p p') (an2 (Nat.beq e e') (an2 (Nat.beq o o') (an2 (Nat.beq l l') (Nat.beq c c'))))) = true from h)
      obtain ⟨h2, h⟩ := an2_inv h
      obtain ⟨h3, h⟩ := an2_inv h
      obtain ⟨h4, h⟩ := an2_inv h
      obtain ⟨h5, h6⟩ := an2_inv h
      rw [beq_nat h1, beq_nat h2, beq_nat h3, beq_nat h4, beq_nat h5, beq_nat h6]
    | _ => cases h
  | com g x l ih =>
    intro b h
    cases b with
    | com g' x' l' =>
      obtain ⟨h1, h⟩ := an2_inv (show an2 (Nat.beq g g') (an2 (Nat.beq x x') (aveq l l')) = true from h)
      obtain ⟨h2, h3⟩ := an2_inv h
      rw [beq_nat h1, beq_nat h2, ih _ h3]
    | _ => cases h
  | nil =>
    intro b h
    cases b with
    | nil => rfl
    | _ => cases h
  | cons x y ihx ihy =>
    intro b h
    cases b with
    | cons x' y' =>
      obtain ⟨h1, h2⟩ := an2_inv (show an2 (aveq x x') (aveq y y') = true from h)
      rw [ihx _ h1, ihy _ h2]
    | _ => cases h
def celeq (a b : Cell) : Bool := Cell.rec (motive := fun _ => Bool) (fun g v => Cell.rec (motive := fun _ => Bool) (fun g' v' => an2 (Nat.beq g g') (aveq v v')) b) a
theorem celeq_eq (a b : Cell) (h : celeq a b = true) : a = b := by
  obtain ⟨g, v⟩ := a; obtain ⟨g', v'⟩ := b
  obtain ⟨h1, h2⟩ := an2_inv (show an2 (Nat.beq g g') (aveq v v') = true from h)
  rw [beq_nat h1, aveq_eq _ _ h2]
def bteq {α : Type} (f : α → α → Bool) (a : Bt α) : Bt α → Bool := Bt.rec (motive := fun _ => Bt α → Bool)
  (fun b => Bt.rec (motive := fun _ => Bool) true (fun _ _ _ _ _ => false) b)
  (fun _ v _ ihl ihr b => Bt.rec (motive := fun _ => Bool) false (fun l' v' r' _ _ => an2 (oeq f v v') (an2 (ihl l') (ihr r'))) b) a
theorem bteq_eq {α : Type} {f : α → α → Bool} (hf : ∀ a b, f a b = true → a = b) : ∀ (a b : Bt α), bteq f a b = true → a = b := by
  intro a
  induction a with
  | leaf =>
    intro b h
    cases b with
    | leaf => rfl
    | node l v r => cases h
  | node l v r ihl ihr =>
    intro b h
    cases b with
    | leaf => cases h
    | node l' v' r' =>
      obtain ⟨h1, h⟩ := an2_inv (show an2 (oeq f v v') (an2 (bteq f l l') (bteq f r r')) = true from h)
      obtain ⟨h2, h3⟩ := an2_inv h
      rw [oeq_ok hf h1, ihl _ h2, ihr _ h3]
def mleq (a : ML) : ML → Bool := ML.rec (motive := fun _ => ML → Bool)
  (fun b => ML.rec (motive := fun _ => Bool) true (fun _ _ _ _ => false) b)
  (fun k v _ ih b => ML.rec (motive := fun _ => Bool) false (fun k' v' r' _ => an2 (aveq k k') (an2 (aveq v v') (ih r'))) b) a
theorem mleq_eq : ∀ (a b : ML), mleq a b = true → a = b := by
  intro a
  induction a with
  | nil =>
    intro b h
    cases b with
    | nil => rfl
    | cons _ _ _ => cases h
  | cons k v r ih =>
    intro b h
    cases b with
    | nil => cases h
    | cons k' v' r' =>
      obtain ⟨h1, h⟩ := an2_inv (show an2 (aveq k k') (an2 (aveq v v') (mleq r r')) = true from h)
      obtain ⟨h2, h3⟩ := an2_inv h
      rw [aveq_eq _ _ h1, aveq_eq _ _ h2, ih _ h3]
def aoeq (a b : AO) : Bool := AO.rec (motive := fun _ => Bool)
  (fun s c n e => AO.rec (motive := fun _ => Bool) (fun s' c' n' e' => an2 (Nat.beq s s') (an2 (Nat.beq n n') (an2 (Nat.beq e e') (bteq celeq c c')))) (fun _ _ => false) b)
  (fun es v => AO.rec (motive := fun _ => Bool) (fun _ _ _ _ => false) (fun es' v' => an2 (Nat.beq v v') (mleq es es')) b) a
theorem aoeq_eq (a b : AO) (h : aoeq a b = true) : a = b := by
  cases a with
  | row s c n e => cases b with
    | row s' c' n' e' =>
      obtain ⟨h1, h⟩ := an2_inv (show an2 (Nat.beq s s') (an2 (Nat.beq n n') (an2 (Nat.beq e e') (bteq celeq c c'))) = true from h)
      obtain ⟨h2, h⟩ := an2_inv h
      obtain ⟨h3, h4⟩ := an2_inv h
      rw [beq_nat h1, beq_nat h2, beq_nat h3, bteq_eq celeq_eq _ _ h4]
    | mp _ _ => cases h
  | mp es v => cases b with
    | row _ _ _ _ => cases h
    | mp es' v' =>
      obtain ⟨h1, h2⟩ := an2_inv (show an2 (Nat.beq v v') (mleq es es') = true from h)
      rw [beq_nat h1, mleq_eq _ _ h2]
def n16eq {α : Type} (f : α → α → Bool) (x y : N16 α) : Bool := N16.rec (motive := fun _ => Bool) (fun c0 c1 c2 c3 c4 c5 c6 c7 c8 c9 c10 c11 c12 c13 c14 c15 => N16.rec (motive := fun _ => Bool) (fun d0 d1 d2 d3 d4 d5 d6 d7 d8 d9 d10 d11 d12 d13 d14 d15 => an2 (f c0 d0) (an2 (f c1 d1) (an2 (f c2 d2) (an2 (f c3 d3) (an2 (f c4 d4) (an2 (f c5 d5) (an2 (f c6 d6) (an2 (f c7 d7) (an2 (f c8 d8) (an2 (f c9 d9) (an2 (f c10 d10) (an2 (f c11 d11) (an2 (f c12 d12) (an2 (f c13 d13) (an2 (f c14 d14) (f c15 d15)))))))))))))))) y) x
theorem n16eq_eq {α : Type} {f : α → α → Bool} (hf : ∀ a b, f a b = true → a = b) (x y : N16 α) (h : n16eq f x y = true) : x = y := by
  cases x; cases y
  simp only [n16eq] at h
  obtain ⟨h0, h⟩ := an2_inv h
  obtain ⟨h1, h⟩ := an2_inv h
  obtain ⟨h2, h⟩ := an2_inv h
  obtain ⟨h3, h⟩ := an2_inv h
  obtain ⟨h4, h⟩ := an2_inv h
  obtain ⟨h5, h⟩ := an2_inv h
  obtain ⟨h6, h⟩ := an2_inv h
  obtain ⟨h7, h⟩ := an2_inv h
  obtain ⟨h8, h⟩ := an2_inv h
  obtain ⟨h9, h⟩ := an2_inv h
  obtain ⟨h10, h⟩ := an2_inv h
  obtain ⟨h11, h⟩ := an2_inv h
  obtain ⟨h12, h⟩ := an2_inv h
  obtain ⟨h13, h⟩ := an2_inv h
  obtain ⟨h14, h⟩ := an2_inv h
  rw [hf _ _ h0, hf _ _ h1, hf _ _ h2, hf _ _ h3, hf _ _ h4, hf _ _ h5, hf _ _ h6, hf _ _ h7, hf _ _ h8, hf _ _ h9, hf _ _ h10, hf _ _ h11, hf _ _ h12, hf _ _ h13, hf _ _ h14, hf _ _ h]
def a1eq : A1 → A1 → Bool := n16eq (oeq aoeq)
def a2eq : A2 → A2 → Bool := n16eq a1eq
def a3eq : A3 → A3 → Bool := n16eq a2eq
def a4eq : A4 → A4 → Bool := n16eq a3eq
def heqb (x y : H) : Bool := M.rec (motive := fun _ => Bool) (fun a b => M.rec (motive := fun _ => Bool) (fun a' b' => an2 (a4eq a a') (bteq aoeq b b')) y) x
theorem heqb_eq {x y : H} (h : heqb x y = true) : x = y := by
  obtain ⟨a, b⟩ := x; obtain ⟨a', b'⟩ := y
  obtain ⟨h1, h2⟩ := an2_inv (show an2 (a4eq a a') (bteq aoeq b b') = true from h)
  rw [n16eq_eq (n16eq_eq (n16eq_eq (n16eq_eq (fun _ _ => oeq_ok aoeq_eq)))) _ _ h1, bteq_eq aoeq_eq _ _ h2]
def avok (n : Nat) (v : AV) : Bool := AV.rec (motive := fun _ => Bool) (fun _ _ => true) (fun _ => true) (fun g b _ _ _ _ => Bool.rec (motive := fun _ => Bool) (Nat.ble (Nat.succ b) n) true (an2 (Nat.ble 12 g) (Nat.ble g 14))) (fun _ _ _ ih => ih) true (fun _ _ a b => an2 a b) v
def celok (n : Nat) (c : Cell) : Bool := Cell.rec (motive := fun _ => Bool) (fun _ v => avok n v) c
def ook {α : Type} (f : α → Bool) (a : Option α) : Bool := Option.rec (motive := fun _ => Bool) true f a
def btok {α : Type} (f : α → Bool) (a : Bt α) : Bool := Bt.rec (motive := fun _ => Bool) true (fun _ v _ ihl ihr => an2 (ook f v) (an2 ihl ihr)) a
theorem btok_get {α : Type} {f : α → Bool} : ∀ (a : Bt α) (k : Nat) (x : α), btok f a = true → a.get k = some x → f x = true := by
  intro a
  induction a with
  | leaf => intro k x _ h; rw [Bt.get_leaf] at h; cases h
  | node l v r ihl ihr =>
    intro k x h hg
    obtain ⟨h1, h⟩ := an2_inv (show an2 (ook f v) (an2 (btok f l) (btok f r)) = true from h)
    obtain ⟨h2, h3⟩ := an2_inv h
    rw [Bt.get_node] at hg
    split at hg
    · subst hg; exact h1
    · split at hg
      · exact ihl _ _ h2 hg
      · exact ihr _ _ h3 hg
def mlok (n : Nat) (a : ML) : Bool := ML.rec (motive := fun _ => Bool) true (fun k v _ ih => an2 (avok n k) (an2 (avok n v) ih)) a
def aook (n : Nat) (a : AO) : Bool := AO.rec (motive := fun _ => Bool) (fun _ c _ _ => btok (celok n) c) (fun es _ => mlok n es) a
def n16all {α : Type} (f : α → Bool) (x : N16 α) : Bool := N16.rec (motive := fun _ => Bool) (fun c0 c1 c2 c3 c4 c5 c6 c7 c8 c9 c10 c11 c12 c13 c14 c15 => an2 (f c0) (an2 (f c1) (an2 (f c2) (an2 (f c3) (an2 (f c4) (an2 (f c5) (an2 (f c6) (an2 (f c7) (an2 (f c8) (an2 (f c9) (an2 (f c10) (an2 (f c11) (an2 (f c12) (an2 (f c13) (an2 (f c14) (f c15)))))))))))))))) x
theorem n16all_sel {α : Type} {f : α → Bool} {x : N16 α} (h : n16all f x = true) (d : D16) : f (N16.sel d x) = true := by
  cases x
  simp only [n16all] at h
  obtain ⟨h0, h⟩ := an2_inv h
  obtain ⟨h1, h⟩ := an2_inv h
  obtain ⟨h2, h⟩ := an2_inv h
  obtain ⟨h3, h⟩ := an2_inv h
  obtain ⟨h4, h⟩ := an2_inv h
  obtain ⟨h5, h⟩ := an2_inv h
  obtain ⟨h6, h⟩ := an2_inv h
  obtain ⟨h7, h⟩ := an2_inv h
  obtain ⟨h8, h⟩ := an2_inv h
  obtain ⟨h9, h⟩ := an2_inv h
  obtain ⟨h10, h⟩ := an2_inv h
  obtain ⟨h11, h⟩ := an2_inv h
  obtain ⟨h12, h⟩ := an2_inv h
  obtain ⟨h13, h⟩ := an2_inv h
  obtain ⟨h14, h⟩ := an2_inv h
  cases d
  · exact h0
  · exact h1
  · exact h2
  · exact h3
  · exact h4
  · exact h5
  · exact h6
  · exact h7
  · exact h8
  · exact h9
  · exact h10
  · exact h11
  · exact h12
  · exact h13
  · exact h14
  · exact h
def rfok (n : Nat) (t : H) : Bool := M.rec (motive := fun _ => Bool) (fun a b => an2 (n16all (n16all (n16all (n16all (ook (aook n))))) a) (btok (aook n) b)) t
theorem rfok_get {n : Nat} {t : H} (h : rfok n t = true) {b : Nat} {o : AO} (hg : t.get b = some o) : aook n o = true := by
  obtain ⟨a, bt⟩ := t
  obtain ⟨h1, h2⟩ := an2_inv (show an2 (n16all (n16all (n16all (n16all (ook (aook n))))) a) (btok (aook n) bt) = true from h)
  rcases ble_cases b 65535 with ⟨h3, _⟩ | ⟨h3, _⟩
  · rw [M.get_lt _ h3] at hg
    have := n16all_sel (n16all_sel (n16all_sel (n16all_sel h1 (M.tp b)) (M.hi b)) (M.mi b)) (M.lo b)
    rw [hg] at this; exact this
  · rw [M.get_ge _ h3] at hg
    exact btok_get _ _ _ h2 hg
def keepE (e : T AV) : List Nat → T AV → T AV
  | [], a => a
  | s :: r, a => match e.get s with
    | none => keepE e r a
    | some v => keepE e r (a.set v s)
def keepK (e : T AV) (ks : List Nat) : T AV → (T AV → Out) → Out :=
  List.rec (motive := fun _ => T AV → (T AV → Out) → Out) (fun a k => k a) (fun s _ ih a k => Option.rec (motive := fun _ => Out) (ih a k) (fun v => T.seq (T.set a v s) fun a => ih a k) (e.get s)) ks
theorem keepK_eq (e : T AV) : ∀ (ks : List Nat) (a : T AV) (k : T AV → Out), keepK e ks a k = k (keepE e ks a)
  | [], _, _ => rfl
  | s :: r, a, k => by
    show Option.rec (motive := fun _ => Out) (keepK e r a k) (fun v => T.seq (T.set a v s) fun a => keepK e r a k) (e.get s) = k (keepE e (s :: r) a)
    rw [keepE]
    cases e.get s with
    | none => exact keepK_eq e r a k
    | some v => show T.seq (T.set a v s) _ = _; rw [T.seq_eq]; exact keepK_eq e r _ k
theorem keepE_get (e : T AV) : ∀ (ks : List Nat) (a : T AV) (i : Nat) (v : AV), (keepE e ks a).get i = some v → (i ∈ ks ∧ e.get i = some v) ∨ a.get i = some v
  | [], _, _, _, h => .inr h
  | s :: r, a, i, v, h => by
    rw [keepE] at h
    cases hs : e.get s with
    | none =>
      simp only [hs] at h
      rcases keepE_get e r a i v h with ⟨h1, h2⟩ | h1
      · exact .inl ⟨.tail _ h1, h2⟩
      · exact .inr h1
    | some u =>
      simp only [hs] at h
      rcases keepE_get e r _ i v h with ⟨h1, h2⟩ | h1
      · exact .inl ⟨.tail _ h1, h2⟩
      · rw [T.get_set_if] at h1
        split at h1
        · rename_i hi; subst hi; injection h1 with h1; subst h1; exact .inl ⟨.head _, hs⟩
        · exact .inr h1
def agree (a b : T AV) (ks : List Nat) : Bool := List.rec (motive := fun _ => Bool) true (fun s _ ih => an2 (oeq aveq (a.get s) (b.get s)) ih) ks
theorem agree_get {a b : T AV} : ∀ {ks : List Nat}, agree a b ks = true → ∀ s ∈ ks, a.get s = b.get s
  | [], _, s, h => by cases h
  | q :: r, h, s, hs => by
    obtain ⟨h1, h2⟩ := an2_inv (show an2 (oeq aveq (a.get q) (b.get q)) (agree a b r) = true from h)
    rcases List.mem_cons.1 hs with rfl | hs
    · exact oeq_ok aveq_eq h1
    · exact agree_get h2 s hs
def tail0 (ks : List Nat) (e0 : T AV) (n nf b ver : Nat) : KD := fun e1 t1 n1 =>
  bO (agree e0 e1 ks) (bO (Nat.ble n1 nf) (cutR (Nat.sub n1 n) n t1 fun t2 => bO (rfok n t2) (withMap t2 b fun _ ver' => bO (Nat.beq ver ver') (.nor .leaf t2 n) (.err 203)) (.err 204)) (.err 207)) (.err 205)
def round0 (b2 : Nat) (k : KD) (o : Out) : Out := Out.rec (motive := fun _ => Out) (fun _ _ _ => .err 202) k (fun i e t n => bO (Nat.beq i b2) (k e t n) (.err 202)) (fun _ _ _ _ => .err 202) (fun _ _ _ => .err 202) (fun c => .err c) o
def step0 (y : Yh) (ih : Ih) (ks : List Nat) (e0 : T AV) (n nf b ver : Nat) (en : Dst) (rest : List IOper) (b2 : Nat) (body : DC) (k v : AV) (t : H) : Out :=
  round0 b2 (tail0 ks e0 n nf b ver) (put en (.com 1 0 (.cons k (.cons v .nil))) .leaf e0 fun l e => denOps y ih rest l e t n fun e t n => body y ih e t n nor)
abbrev StR := AV → AV → H → Out
def hb (o : Out) (k : H → Out) : Out := Out.rec (motive := fun _ => Out) (fun _ _ _ => .err 208) (fun _ t _ => k t) (fun _ _ _ _ => .err 208) (fun _ _ _ _ => .err 208) (fun _ _ _ => .err 208) (fun c => .err c) o
theorem hb_inv {o : Out} {k : H → Out} {r : Out} (hr : NE r) (h : hb o k = r) : ∃ e t n, o = .nor e t n ∧ k t = r := by
  cases o with
  | nor e t n => exact ⟨e, t, n, rfl, h⟩
  | _ => exact absurd h.symm (hr _)
def clas (S : StR) (t : H) (es : ML) : (ML → ML → Out) → Out := ML.rec (motive := fun _ => (ML → ML → Out) → Out) (fun k => k .nil .nil)
  (fun a b _ ih k => hb (S a b t) fun t2 => Bool.rec (motive := fun _ => Out) (ih fun fs rem => k fs (.cons a b rem)) (ih fun fs rem => k (.cons a b fs) rem) (heqb t2 t)) es
def freeAll (S : StR) (t : H) (o : Out) (fs : ML) : Out := ML.rec (motive := fun _ => Out) o (fun a b _ ih => hb (S a b t) fun t2 => bO (heqb t2 t) ih (.err 209)) fs
def picks (es : ML) : List (AV × AV × ML) := ML.rec (motive := fun _ => List (AV × AV × ML)) [] (fun a b r ih => (a, b, r) :: List.map (fun p => (p.1, p.2.1, ML.cons a b p.2.2)) ih) es
def goAll (S : StR) (ih : ML → H → Out) (t : H) (ps : List (AV × AV × ML)) : Option H → Out :=
  List.rec (motive := fun _ => Option H → Out) (fun a => Option.rec (motive := fun _ => Out) (.nor .leaf t 0) (fun tf => .nor .leaf tf 0) a)
    (fun p _ rec a => hb (S p.1 p.2.1 t) fun t2 => hb (ih p.2.2 t2) fun tf => Option.rec (motive := fun _ => Out) (rec (some tf)) (fun tf0 => bO (heqb tf0 tf) (rec (some tf0)) (.err 206)) a) ps
def expl (S : StR) (fs : ML) (f : Nat) : ML → H → Out := Nat.rec (motive := fun _ => ML → H → Out) (fun _ _ => .err 211) (fun _ ih rem t => freeAll S t (goAll S ih t (picks rem) none) fs) f
def cRng (o1 : IOper) (x : Opd) (it : Nat) (ks : List Nat) (bud : Nat) (en : Dst) (rest : List IOper) (b2 : Nat) (body : DC) : DC := fun y ih e t n k =>
  denOper y ih o1 .leaf e t n fun _ l e t n => fetch l e x fun m => vref m fun g b _ _ _ _ => bO (Nat.beq g 8) (withMap t b fun es ver =>
    keepK e ks .leaf fun e0 => T.seq (T.set e0 (.ref 15 n 0 0 0 0) it) fun e0 => forceN (Nat.succ n) fun n1 => forceN (Nat.add n1 bud) fun nf =>
      clas (step0 y ih (it :: ks) e0 n1 nf b ver en rest b2 body) t es fun fs rem => hb (expl (step0 y ih (it :: ks) e0 n1 nf b ver en rest b2 body) fs 20 rem t) fun tf => k e0 tf nf) (.err 201)
end
end Ev
namespace Ev
open Go
variable [Told] [TokV] [ToldOK]
variable {P : Program} {tk : Tok}
def MLV : ML → AV → Prop
  | .nil, _ => False
  | .cons k v r, u => u = k ∨ u = v ∨ MLV r u
def OV : AO → AV → Prop
  | .row _ c _ _, v => ∃ k tag, c.get k = some ⟨tag, v⟩
  | .mp es _, v => MLV es v
theorem mlok_v {n : Nat} : ∀ {es : ML} {v : AV}, mlok n es = true → MLV es v → avok n v = true
  | .nil, _, _, h => h.elim
  | .cons k u r, v, h, hv => by
    obtain ⟨h1, h⟩ := an2_inv (show an2 (avok n k) (an2 (avok n u) (mlok n r)) = true from h)
    obtain ⟨h2, h3⟩ := an2_inv h
    rcases hv with rfl | rfl | hv
    · exact h1
    · exact h2
    · exact mlok_v h3 hv
theorem aook_v {n : Nat} {o : AO} {v : AV} (h : aook n o = true) (hv : OV o v) : avok n v = true := by
  cases o with
  | row s c m e => obtain ⟨k, tag, hk⟩ := hv; exact btok_get (f := celok n) c _ _ h hk
  | mp es ver => exact mlok_v h hv
theorem mapOk_to {ιb ιc : Rn} : ∀ {es : ML} {l : List MapEntry}, (∀ u, MLV es u → ∀ x, toV ιb u = some x → toV ιc u = some x) → MapOk ιb es l → MapOk ιc es l
  | .nil, _, _, h => h
  | .cons k v r, l, hv, ⟨x, l', e, h1, h2, h3⟩ => ⟨x, l', e, hv k (.inl rfl) _ h1, hv v (.inr (.inl rfl)) _ h2, mapOk_to (fun u hu => hv u (.inr (.inr hu))) h3⟩
theorem objOk_to {ιb ιc : Rn} {w : World} {b : Nat} {o : AO} (h1 : ∀ e, ιc.blk b e = ιb.blk b e) (h2 : ιc.mp b = ιb.mp b) (h3 : ∀ v, ιc.mpv b v = ιb.mpv b v) (hv : ∀ u, OV o u → ∀ x, toV ιb u = some x → toV ιc u = some x) (h : ObjOk ιb w b o) : ObjOk ιc w b o := by
  cases o with
  | row sz c n ep =>
    obtain ⟨g1, g2, g3, g4⟩ := h
    refine ⟨by rw [h2]; exact g1, fun e he => by rw [h1]; exact g2 e he, g3, fun e he => ?_⟩
    obtain ⟨rb, cap, cs, k1, k2, k3, k4⟩ := g4 e he
    exact ⟨rb, cap, cs, by rw [h1]; exact k1, k2, k3, fun k tg v hk ht => let ⟨x, hx, hc, hi⟩ := k4 k tg v hk ht; ⟨x, hv v ⟨k, tg, hk⟩ _ hx, hc, hi⟩⟩
  | mp es ver =>
    obtain ⟨g1, g1v, r, ents, clock, g2, g2v, g3, g4⟩ := h
    exact ⟨fun e => by rw [h1]; exact g1 e, fun v hv => by rw [h3]; exact g1v v hv, r, ents, clock, by rw [h2]; exact g2, ⟨by rw [h3]; exact g2v.1, g2v.2⟩, g3, mapOk_to (fun u hu => hv u hu) g4⟩
theorem mapOk_v {ι : Rn} : ∀ {es : ML} {l : List MapEntry} {u : AV}, MapOk ι es l → MLV es u → ∃ x, toV ι u = some x
  | .nil, _, _, _, h => h.elim
  | .cons k v r, l, u, ⟨x, l', e, h1, h2, h3⟩, hu => by
    rcases hu with rfl | rfl | hu
    · exact ⟨_, h1⟩
    · exact ⟨_, h2⟩
    · exact mapOk_v h3 hu
theorem objOk_v {ι : Rn} {w : World} {b : Nat} {o : AO} {u : AV} (h : ObjOk ι w b o) (hu : OV o u) : ∃ x, toV ι u = some x := by
  cases o with
  | row sz c n ep =>
    obtain ⟨g1, g2, g3, g4⟩ := h
    obtain ⟨k, tag, hk⟩ := hu
    obtain ⟨rb, cap, cs, k1, k2, k3, k4⟩ := g4 tag (g3 _ _ hk).2
    obtain ⟨x, hx, _, _⟩ := k4 k tag u hk (Nat.le_refl _)
    exact ⟨x, hx⟩
  | mp es ver =>
    obtain ⟨g1, g1v, r, ents, clock, g2, g2v, g3, g4⟩ := h
    exact mapOk_v g4 hu
def Rn.low (ι : Rn) (n : Nat) (KK : G) : Rn :=
  ⟨fun b e => if b < n ∨ (KK b).isSome = true then ι.blk b e else none, fun b => if b < n ∨ (KK b).isSome = true then ι.mp b else none, fun b => if b < n then ι.yl b else none, ι.tok, fun b v => if b < n ∨ (KK b).isSome = true then ι.mpv b v else none⟩
theorem refV_low {ι : Rn} {n : Nat} {KK : G} {g b e o l c : Nat} {x : Value} (h : avok n (.ref g b e o l c) = true) (hv : refV ι g b e o l c = some x) : refV (ι.low n KK) g b e o l c = some x := by
  have hlt : (g < 12 ∨ 14 < g) → b < n := fun hg => by
    have h : Bool.rec (motive := fun _ => Bool) (Nat.ble (Nat.succ b) n) true (an2 (Nat.ble 12 g) (Nat.ble g 14)) = true := h
    have e : an2 (Nat.ble 12 g) (Nat.ble g 14) = false := by
      cases h1 : Nat.ble 12 g with
      | false => rfl
      | true =>
        cases h2 : Nat.ble g 14 with
        | false => rfl
        | true => have := Nat.le_of_ble_eq_true h1; have := Nat.le_of_ble_eq_true h2; omega
    rw [e] at h
    exact Nat.le_of_ble_eq_true h
  unfold refV at *
  split at hv <;> first
    | exact hv
    | (have hb := hlt (by omega)
       simp only [Rn.low, hb, true_or, if_true]
       exact hv)
mutual
theorem toV_low {ι : Rn} {n : Nat} {KK : G} : ∀ (a : AV) (v : Value), avok n a = true → toV ι a = some v → toV (ι.low n KK) a = some v
  | .num k n, v, _, hv => by simpa [toV] using hv
  | .str l, v, _, hv => by simpa [toV] using hv
  | .ref g b e o l c, v, h, hv => by simp only [toV] at hv ⊢; exact refV_low h hv
  | .com g x l, v, h, hv => by
    simp only [toV, Option.bind_eq_some_iff] at hv ⊢
    obtain ⟨vs, hvs, hc⟩ := hv
    exact ⟨vs, toT_low l vs h hvs, hc⟩
  | .nil, v, _, hv => by simp [toV] at hv
  | .cons a b, v, _, hv => by simp [toV] at hv
theorem toT_low {ι : Rn} {n : Nat} {KK : G} : ∀ (a : AV) (v : List Value), avok n a = true → toT ι a = some v → toT (ι.low n KK) a = some v
  | .nil, v, _, hv => by simpa [toT] using hv
  | .cons a b, v, h, hv => by
    obtain ⟨h1, h2⟩ := an2_inv (show an2 (avok n a) (avok n b) = true from h)
    simp only [toT, Option.bind_eq_some_iff, Option.map_eq_some_iff] at hv ⊢
    obtain ⟨x, hx, r, hr, e⟩ := hv
    exact ⟨x, toV_low a x h1 hx, r, toT_low b r h2 hr, e⟩
  | .num k n, v, _, hv => by simp [toT] at hv
  | .str l, v, _, hv => by simp [toT] at hv
  | .ref g b e o l c, v, _, hv => by simp [toT] at hv
  | .com g x l, v, _, hv => by simp [toT] at hv
end
theorem low_sub {ι : Rn} {n : Nat} {KK : G} : (∀ b e x, (ι.low n KK).blk b e = some x → ι.blk b e = some x) ∧ (∀ b x, (ι.low n KK).mp b = some x → ι.mp b = some x) := by
  refine ⟨fun b e x h => ?_, fun b x h => ?_⟩ <;>
  · simp only [Rn.low] at h
    split at h
    · exact h
    · cases h
theorem forget {KK : G} {ι ι' : Rn} {w w' : World} {t t1 t2 : H} {n n1 nf : Nat} (hR : Rel ι (un t KK) w) (hH : HT t n) (hY : YT ι n) (hp : PC KK ι w t1 n1 ι' w') (hK : KT KK nf) (hn : n ≤ nf) (hn1 : n1 ≤ nf)
    (hg : ∀ m, t2.get m = if n ≤ m ∧ m < n + (n1 - n) then none else t1.get m) (hok : rfok n t2 = true) : PC KK ι w t2 n (ι'.low n KK) w' := by
  have h2n : ∀ m, n ≤ m → t2.get m = none := fun m hm => by
    rw [hg]
    split
    · rfl
    · exact hp.ht m (by omega)
  have h2l : ∀ m, m < n → t2.get m = t1.get m := fun m hm => by rw [hg, if_neg (by omega)]
  have hkb : ∀ b, (b < n ∨ (KK b).isSome = true) ∨ un t KK b = none := fun b => by
    rcases Nat.lt_or_ge b n with h | h
    · exact .inl (.inl h)
    · cases hk : KK b with
      | some o => exact .inl (.inr rfl)
      | none => exact .inr (by simp [un, hH b h, hk])
  have hle : ι.le (ι'.low n KK) := by
    refine ⟨fun b e x h => ?_, fun b x h => ?_, fun b x h => ?_, fun b x h => hp.ext.le.tok b x h, fun b v x h => ?_⟩
    · rcases hkb b with h1 | h1
      · simp only [Rn.low, if_pos h1]; exact hp.ext.le.blk _ _ _ h
      · rw [(hR.non b h1).2.1 e] at h; cases h
    · rcases hkb b with h1 | h1
      · simp only [Rn.low, if_pos h1]; exact hp.ext.le.mp _ _ h
      · rw [(hR.non b h1).1] at h; cases h
    · rcases Nat.lt_or_ge b n with h1 | h1
      · simp only [Rn.low, if_pos h1]; exact hp.ext.le.yl _ _ h
      · rw [hY b h1] at h; cases h
    · rcases hkb b with h1 | h1
      · simp only [Rn.low, if_pos h1]; exact hp.ext.le.mpv _ _ _ h
      · rw [(hR.non b h1).2.2 v] at h; cases h
  have hpos : ∀ b o, un t2 KK b = some o → b < n ∨ (KK b).isSome = true := fun b o h => by
    rcases Nat.lt_or_ge b n with h1 | h1
    · exact .inl h1
    · simp only [un, h2n b h1] at h; exact .inr (by rw [h]; rfl)
  have h12 : ∀ b o, un t2 KK b = some o → un t1 KK b = some o := fun b o h => by
    rcases Nat.lt_or_ge b n with h1 | h1
    · simpa only [un, h2l b h1] using h
    · simp only [un, h2n b h1] at h
      have : nf ≤ b := by
        rcases Nat.lt_or_ge b nf with h3 | h3
        · rw [hK b h3] at h; cases h
        · exact h3
      simp only [un, hp.ht b (by omega)]; exact h
  refine ⟨⟨fun b o hb => ?_, fun b hb => ?_, fun b e b' e' x x' h1 h2 => hp.rel.inj b e b' e' x x' (low_sub.1 _ _ _ h1) (low_sub.1 _ _ _ h2), fun b b' r h1 h2 => hp.rel.injm b b' r (low_sub.2 _ _ h1) (low_sub.2 _ _ h2), fun a x hx => ⟨(hp.rel.arg a x hx).1, fun b' e y h => (hp.rel.arg a x hx).2 b' e y (low_sub.1 _ _ _ h)⟩⟩,
    ⟨hle, fun b e x h => hp.ext.nblk b e x (low_sub.1 _ _ _ h), fun b r h => hp.ext.nmp b r (low_sub.2 _ _ h)⟩, hp.frm, fun b hb => h2n b hb, fun b hb => by simp only [Rn.low]; rw [if_neg (by omega)]⟩
  · have hpb := hpos b o hb
    refine objOk_to (ιb := ι') (fun e => by simp only [Rn.low, if_pos hpb]) (by simp only [Rn.low, if_pos hpb]) (fun v => by simp only [Rn.low, if_pos hpb]) (fun u hu x hx => ?_) (hp.rel.obj b o (h12 b o hb))
    rcases Nat.lt_or_ge b n with h1 | h1
    · have hk0 : KK b = none := hK b (by omega)
      have : t2.get b = some o := by
        cases h3 : t2.get b with
        | some o' => simpa only [un, h3] using hb
        | none => simp only [un, h3, hk0] at hb; cases hb
      exact toV_low u x (aook_v (rfok_get hok this) hu) hx
    · have hk : un t KK b = some o := by simp only [un, h2n b h1] at hb; simp only [un, hH b h1]; exact hb
      obtain ⟨x0, hx0⟩ := objOk_v (hR.obj b o hk) hu
      have := toV_mono hp.ext.le _ _ hx0
      rw [hx] at this; injection this with this; subst this
      exact toV_mono hle _ _ hx0
  · have hdead : un t1 KK b = none ∨ ¬ (b < n ∨ (KK b).isSome = true) := by
      rcases Nat.lt_or_ge b n with h1 | h1
      · left; simpa only [un, h2l b h1] using hb
      · right
        simp only [un, h2n b h1] at hb
        rw [hb]; simp; omega
    rcases hdead with h1 | h1
    · obtain ⟨g1, g2, g3⟩ := hp.rel.non b h1
      refine ⟨?_, fun e => ?_, fun v => ?_⟩ <;> simp only [Rn.low]
      · split <;> first | exact g1 | rfl
      · split <;> first | exact g2 e | rfl
      · split <;> first | exact g3 v | rfl
    · exact ⟨by simp only [Rn.low, if_neg h1], fun e => by simp only [Rn.low, if_neg h1], fun v => by simp only [Rn.low, if_neg h1]⟩
end Ev
namespace Ev
open Go
variable [Told] [TokV] [ToldOK]
variable {P : Program} {tk : Tok} {L : List Nat} {N : Nat}
theorem run_next_at {w : World} {r bm c : Nat} {seen : Array Nat} {es : Array MapEntry} {ty : TypeId} (hr : w.heap[r]? = some (.mapIter (some bm) c seen c)) (hb : w.heap[bm]? = some (.map es c)) (hold : ∀ x ∈ es.toList, x.born < c) :
    ((leftOf es seen).size = 0 ∧ (Instr.next (.pointer (some ⟨r, 0, none⟩)) false ty).run P w = .ok (.tuple #[.bool false]) w) ∨
    ∃ e ∈ (leftOf es seen).toList, ∃ w1 : World, (w1.heap = w.heap ∧ w1.os = w.os ∧ w1.tape = w.tape ∧ w1.output = w.output) ∧
      (Instr.next (.pointer (some ⟨r, 0, none⟩)) false ty).run P w = .ok (.tuple #[.bool true, e.key, e.val]) { w1 with heap := w1.heap.setIfInBounds r (.mapIter (some bm) c (seen.push e.born) c) } := by
  simp only [Instr.next, getObj, Sem.run_bind, Sem.run, hr, hb, Result.andThen, next_test_false seen es c c hold (Nat.le_refl _), Bool.false_eq_true, if_false]
  unfold leftOf
  have hmem : ∀ x ∈ (Array.filter (fun e => !seen.contains e.born) es).toList, x.born < c := fun x hx => hold x (by simp at hx ⊢; exact hx.1)
  generalize Array.filter (fun e => !seen.contains e.born) es = L at hmem ⊢
  have e1 : L.filter (fun x => decide (x.born < c)) = L := Array.filter_eq_self.2 (fun x hx => by simpa using hmem x (by simpa using hx))
  have e2 : L.filter (fun x => decide (x.born ≥ c)) = #[] := by
    rw [Array.filter_eq_empty_iff]
    intro x hx
    have := hmem x (by simpa using hx)
    simp
    omega
  simp only [e1, e2, Array.append_empty]
  by_cases h0 : L.size = 0
  · left
    have : L = #[] := Array.eq_empty_of_size_eq_zero h0
    subst this
    refine ⟨rfl, ?_⟩
    simp [choose, Sem.run, Question.forced]
  · right
    have hne : L.isEmpty = false := by simp [Array.isEmpty, h0]
    simp only [hne, Bool.false_eq_true, if_false, Array.empty_append, Array.size_map]
    have hch : ∃ (j : Nat) (w1 : World), j < L.size ∧ (w1.heap = w.heap ∧ w1.os = w.os ∧ w1.tape = w.tape ∧ w1.output = w.output) ∧ (choose (Question.mapNext L.size)).run P w = .ok j w1 := by
      by_cases hf : L.size ≤ 1
      · exact ⟨0, w, by omega, ⟨rfl, rfl, rfl, rfl⟩, by simp [choose, Sem.run, Question.forced, hf]⟩
      · exact ⟨_, w.drew, Nat.mod_lt _ (by omega), ⟨rfl, rfl, rfl, rfl⟩, by
          simp only [choose, Sem.run, Question.forced, decide_eq_true_eq, hf, if_false, Question.cut]
          rfl⟩
    obtain ⟨j, w1, hj, hal, hrun⟩ := hch
    refine ⟨L[j], by simp, w1, hal, ?_⟩
    have hset : ∀ (o' : Obj), (setObj r o').run P w1 = .ok () { w1 with heap := w1.heap.setIfInBounds r o' } := fun o' => by
      simp only [setObj, Sem.run, hal.1, hr]
    simp only [hrun, Array.getElem?_map, Array.getElem?_eq_getElem hj, Option.map_some, Sem.run_bind, hset, Result.andThen]
    rfl
theorem run_entry_at {w : World} {r bm c : Nat} {seen : Array Nat} {es : Array MapEntry} {e : MapEntry} (hr : w.heap[r]? = some (.mapIter (some bm) c (seen.push e.born) c)) (hb : w.heap[bm]? = some (.map es c)) (he : e ∈ es.toList) (hn : (es.toList.map (·.born)).Nodup) :
    (Instr.entry (.pointer (some ⟨r, 0, none⟩))).run P w = .ok (.tuple #[e.key, e.val]) w := by
  have hf : es.find? (·.born == e.born) = some e := by rw [← Array.find?_toList]; exact find_born e es.toList hn he
  simp only [Instr.entry, getObj, Sem.run_bind, Sem.run, hr, hb, Result.andThen, Array.back?_push, bne_self_eq_false, Bool.false_eq_true, if_false, hf]
  rfl
section
variable {ro : Option Nat} {m : Nat} {ops : Array Oper} {Q : Exit → Act → World → Prop} {ac : Act} {w w' : World} {o : Oper} {j : Nat} {rest : List Nat} {V : Value}
theorem ops_cons (ho : ops[j]? = some o) (h : wpG ro m P ops o ac w (wpOpsIn (Fr ro) m P ops Q rest) Q) : wpOpsIn (Fr ro) m P ops Q (j :: rest) ac w := by
  simp only [wpOpsIn, ho]
  unfold wpG at h
  split
  · rename_i hw; rw [if_pos hw] at h; exact h
  · rename_i hw; rw [if_neg hw] at h; exact ⟨fun f _ => fr_fn ro f, h⟩
theorem ops_val (ho : ops[j]? = some o) (hg : o.guard = none) (hd : ∀ c, o.op ≠ .defer c) (hrun : (execOp ac.eval o).run P w = .ok (.value V) w') (hn : wpOpsIn (Fr ro) m P ops Q rest (ac.put o.dst V) w') : wpOpsIn (Fr ro) m P ops Q (j :: rest) ac w :=
  ops_cons ho (by rw [wpG, if_pos (wanted_none hg)]; exact wp_value hd hrun hn)
variable {ρ : Operand → Value}
theorem ex_range {T : TypeId} {X : Operand} (ho : o.op = .range T X) (h : (Instr.range T (ρ X)).run P w = .ok V w') : (execOp ρ o).run P w = .ok (.value V) w' := by
  unfold execOp; rw [ho]; simp only [Sem.run_bind, h, Result.andThen_ok, Sem.run_pure]
theorem ex_next {X : Operand} (ho : o.op = .next X false) (h : (Instr.next (ρ X) false o.type).run P w = .ok V w') : (execOp ρ o).run P w = .ok (.value V) w' := by
  unfold execOp; rw [ho]; simp only [Sem.run_bind, h, Result.andThen_ok, Sem.run_pure]
theorem ex_entry {X : Operand} (ho : o.op = .entry X) (h : (Instr.entry (ρ X)).run P w = .ok V w') : (execOp ρ o).run P w = .ok (.value V) w' := by
  unfold execOp; rw [ho]; simp only [Sem.run_bind, h, Result.andThen_ok, Sem.run_pure]
theorem ex_extract {X : Operand} {i : Nat} {vs : Array Value} (ho : o.op = .extract X i) (hX : ρ X = .tuple vs) (h : vs[i]? = some V) : (execOp ρ o).run P w = .ok (.value V) w := by
  unfold execOp; rw [ho]; simp only [Instr.extract, hX, h, Sem.run_bind, Sem.run_pure, Result.andThen_ok]
end
section
variable {ι : Rn} {ents : Array MapEntry}
def MemL : ML → AV → AV → Prop
  | .nil, _, _ => False
  | .cons a b r, k, v => (k = a ∧ v = b) ∨ MemL r k v
def Rm (ι : Rn) (ents : Array MapEntry) : ML → List Nat → Prop
  | .nil, bs => bs = []
  | .cons k v r, bs => ∃ x bs', bs = x.born :: bs' ∧ x ∈ ents.toList ∧ toV ι k = some x.key ∧ toV ι v = some x.val ∧ Rm ι ents r bs'
theorem picks_cons {a b : AV} {r : ML} : picks (.cons a b r) = (a, b, r) :: (picks r).map (fun p => (p.1, p.2.1, ML.cons a b p.2.2)) := rfl
theorem rm_pick : ∀ {rem : ML} {bs : List Nat} {c : Nat}, Rm ι ents rem bs → bs.Nodup → c ∈ bs →
    ∃ p ∈ picks rem, ∃ bs' x, x ∈ ents.toList ∧ x.born = c ∧ toV ι p.1 = some x.key ∧ toV ι p.2.1 = some x.val ∧ Rm ι ents p.2.2 bs' ∧ bs'.Nodup ∧ ∀ d, d ∈ bs' ↔ d ∈ bs ∧ d ≠ c
  | .nil, bs, c, h, _, hc => by have h : bs = [] := h; subst h; cases hc
  | .cons k v r, bs, c, ⟨x, bs1, h1, h2, h3, h4, h5⟩, hn, hc => by
    subst h1
    obtain ⟨hn1, hn2⟩ := List.nodup_cons.1 hn
    by_cases hx : x.born = c
    · subst hx
      refine ⟨(k, v, r), .head _, bs1, x, h2, rfl, h3, h4, h5, hn2, fun d => ⟨fun hd => ⟨.tail _ hd, fun e => hn1 (e ▸ hd)⟩, fun hd => ?_⟩⟩
      rcases List.mem_cons.1 hd.1 with h | h
      · exact absurd h hd.2
      · exact h
    · have hc' : c ∈ bs1 := by
        rcases List.mem_cons.1 hc with h | h
        · exact absurd h.symm hx
        · exact h
      obtain ⟨p, hp, bs2, x2, g1, g2, g3, g4, g5, g6, g7⟩ := rm_pick h5 hn2 hc'
      refine ⟨(p.1, p.2.1, ML.cons k v p.2.2), by rw [picks_cons]; exact .tail _ (List.mem_map.2 ⟨p, hp, rfl⟩), x.born :: bs2, x2, g1, g2, g3, g4, ⟨x, bs2, rfl, h2, h3, h4, g5⟩, List.nodup_cons.2 ⟨fun h => hn1 ((g7 _).1 h).1, g6⟩, fun d => ?_⟩
      simp only [List.mem_cons, g7]
      constructor
      · rintro (h | ⟨h, h'⟩)
        · exact ⟨.inl h, fun e => hx (h ▸ e)⟩
        · exact ⟨.inr h, h'⟩
      · rintro ⟨h | h, h'⟩
        · exact .inl h
        · exact .inr ⟨h, h'⟩
def JJ (ι : Rn) (ents : Array MapEntry) (fs rem : ML) (seen : Array Nat) : Prop :=
  ∃ bs, Rm ι ents rem bs ∧ bs.Nodup ∧ (∀ c ∈ bs, seen.contains c = false) ∧ ∀ x ∈ ents.toList, seen.contains x.born = false → x.born ∈ bs ∨ ∃ k v, MemL fs k v ∧ toV ι k = some x.key ∧ toV ι v = some x.val
inductive Part : ML → ML → ML → Prop where
  | nil : Part .nil .nil .nil
  | free {a b : AV} {es fs rem : ML} (h : Part es fs rem) : Part (.cons a b es) (.cons a b fs) rem
  | eff {a b : AV} {es fs rem : ML} (h : Part es fs rem) : Part (.cons a b es) fs (.cons a b rem)
theorem part_jj {es fs rem : ML} (h : Part es fs rem) : ∀ (l : List MapEntry), MapOk ι es l → (∀ x ∈ l, x ∈ ents.toList) → (l.map (·.born)).Nodup →
    ∃ bs, Rm ι ents rem bs ∧ bs.Nodup ∧ (∀ c ∈ bs, c ∈ l.map (·.born)) ∧ ∀ x ∈ l, x.born ∈ bs ∨ ∃ k v, MemL fs k v ∧ toV ι k = some x.key ∧ toV ι v = some x.val := by
  induction h with
  | nil =>
    intro l hl _ _
    have hl : l = [] := hl
    subst hl
    exact ⟨[], rfl, .nil, fun c h => (by cases h), fun x h => (by cases h)⟩
  | free h ih =>
    rintro l ⟨x, l', rfl, h1, h2, h3⟩ hin hn
    obtain ⟨hn1, hn2⟩ := List.nodup_cons.1 (show (x.born :: l'.map (·.born)).Nodup from hn)
    obtain ⟨bs, g1, g2, g3, g4⟩ := ih l' h3 (fun y hy => hin y (.tail _ hy)) hn2
    refine ⟨bs, g1, g2, fun c hc => .tail _ (g3 c hc), fun y hy => ?_⟩
    rcases List.mem_cons.1 hy with rfl | hy
    · exact .inr ⟨_, _, .inl ⟨rfl, rfl⟩, h1, h2⟩
    · rcases g4 y hy with h | ⟨k, v, k1, k2, k3⟩
      · exact .inl h
      · exact .inr ⟨k, v, .inr k1, k2, k3⟩
  | eff h ih =>
    rintro l ⟨x, l', rfl, h1, h2, h3⟩ hin hn
    obtain ⟨hn1, hn2⟩ := List.nodup_cons.1 (show (x.born :: l'.map (·.born)).Nodup from hn)
    obtain ⟨bs, g1, g2, g3, g4⟩ := ih l' h3 (fun y hy => hin y (.tail _ hy)) hn2
    refine ⟨x.born :: bs, ⟨x, bs, rfl, hin x (.head _), h1, h2, g1⟩, List.nodup_cons.2 ⟨fun h => hn1 (g3 _ h), g2⟩, fun c hc => ?_, fun y hy => ?_⟩
    · rcases List.mem_cons.1 hc with rfl | hc
      · exact .head _
      · exact .tail _ (g3 c hc)
    · rcases List.mem_cons.1 hy with rfl | hy
      · exact .inl (.head _)
      · rcases g4 y hy with h | h
        · exact .inl (.tail _ h)
        · exact .inr h
theorem jj_start {es fs rem : ML} (h : Part es fs rem) (hm : MapOk ι es ents.toList) {c : Nat} (hw : Wf ents c) : JJ ι ents fs rem #[] := by
  obtain ⟨bs, h1, h2, _, h4⟩ := part_jj h ents.toList hm (fun x h => h) hw.nd
  exact ⟨bs, h1, h2, fun c _ => by simp, fun x hx _ => h4 x hx⟩
theorem jj_end {fs rem : ML} {seen : Array Nat} (h : JJ ι ents fs rem seen) (h0 : (leftOf ents seen).size = 0) : rem = .nil := by
  obtain ⟨bs, h1, _, h3, _⟩ := h
  cases rem with
  | nil => rfl
  | cons k v r =>
    obtain ⟨x, bs', rfl, hx, _⟩ := h1
    have := all_seen ents seen h0 x hx
    rw [h3 _ (.head _)] at this; cases this
theorem jj_next {fs rem : ML} {seen : Array Nat} {c : Nat} {x : MapEntry} (hw : Wf ents c) (h : JJ ι ents fs rem seen) (hx : x ∈ (leftOf ents seen).toList) :
    (∃ k v, MemL fs k v ∧ toV ι k = some x.key ∧ toV ι v = some x.val ∧ JJ ι ents fs rem (seen.push x.born)) ∨
    ∃ p ∈ picks rem, toV ι p.1 = some x.key ∧ toV ι p.2.1 = some x.val ∧ JJ ι ents fs p.2.2 (seen.push x.born) := by
  obtain ⟨bs, h1, h2, h3, h4⟩ := h
  obtain ⟨hx1, hx2⟩ := mem_left hx
  have hpush : ∀ {d : Nat}, (seen.push x.born).contains d = false → seen.contains d = false ∧ d ≠ x.born := fun {d} hd => by
    rw [contains_push] at hd
    simp only [Bool.or_eq_false_iff, beq_eq_false_iff_ne] at hd
    exact hd
  have hpush' : ∀ {d : Nat}, seen.contains d = false → d ≠ x.born → (seen.push x.born).contains d = false := fun {d} hd hn => by
    rw [contains_push, hd]; simpa using hn
  by_cases hb : x.born ∈ bs
  · right
    obtain ⟨p, hp, bs', x', g1, g2, g3, g4, g5, g6, g7⟩ := rm_pick h1 h2 hb
    obtain rfl : x' = x := born_inj hw.nd g1 hx1 g2
    refine ⟨p, hp, g3, g4, bs', g5, g6, fun d hd => ?_, fun y hy hs => ?_⟩
    · obtain ⟨k1, k2⟩ := (g7 d).1 hd
      exact hpush' (h3 d k1) k2
    · obtain ⟨k1, k2⟩ := hpush hs
      rcases h4 y hy k1 with h | h
      · exact .inl ((g7 _).2 ⟨h, k2⟩)
      · exact .inr h
  · left
    rcases h4 x hx1 hx2 with h | ⟨k, v, k1, k2, k3⟩
    · exact absurd h hb
    · refine ⟨k, v, k1, k2, k3, bs, h1, h2, fun d hd => hpush' (h3 d hd) (fun e => hb (e ▸ hd)), fun y hy hs => h4 y hy (hpush hs).1⟩
theorem Rm.mono {ι' : Rn} (hle : ι.le ι') : ∀ {rem : ML} {bs : List Nat}, Rm ι ents rem bs → Rm ι' ents rem bs
  | .nil, _, h => h
  | .cons _ _ _, _, ⟨x, bs', h1, h2, h3, h4, h5⟩ => ⟨x, bs', h1, h2, toV_mono hle _ _ h3, toV_mono hle _ _ h4, Rm.mono hle h5⟩
end
section
variable {S : StR} {t : H} {r : Out}
theorem clas_inv (hr : NE r) : ∀ {es : ML} {k : ML → ML → Out}, clas S t es k = r → ∃ fs rem, Part es fs rem ∧ k fs rem = r
  | .nil, _, h => ⟨_, _, .nil, h⟩
  | .cons a b es, k, h => by
    obtain ⟨_, t2, _, _, h⟩ := hb_inv hr (show hb (S a b t) (fun t2 => Bool.rec (motive := fun _ => Out) (clas S t es fun fs rem => k fs (.cons a b rem)) (clas S t es fun fs rem => k (.cons a b fs) rem) (heqb t2 t)) = r from h)
    cases hq : heqb t2 t with
    | false =>
      rw [hq] at h
      obtain ⟨fs, rem, h1, h2⟩ := clas_inv hr (show clas S t es (fun fs rem => k fs (.cons a b rem)) = r from h)
      exact ⟨_, _, .eff h1, h2⟩
    | true =>
      rw [hq] at h
      obtain ⟨fs, rem, h1, h2⟩ := clas_inv hr (show clas S t es (fun fs rem => k (.cons a b fs) rem) = r from h)
      exact ⟨_, _, .free h1, h2⟩
theorem freeAll_inv (hr : NE r) {o : Out} : ∀ {fs : ML}, freeAll S t o fs = r → o = r ∧ ∀ k v, MemL fs k v → ∃ e q, S k v t = .nor e t q
  | .nil, h => ⟨h, fun _ _ h => h.elim⟩
  | .cons a b fs, h => by
    obtain ⟨e, t2, q, h1, h⟩ := hb_inv hr (show hb (S a b t) (fun t2 => bO (heqb t2 t) (freeAll S t o fs) (.err 209)) = r from h)
    obtain ⟨h2, h⟩ := bO_inv h hr
    rw [heqb_eq h2] at h1
    obtain ⟨h3, h4⟩ := freeAll_inv hr h
    refine ⟨h3, fun k v hm => ?_⟩
    rcases hm with ⟨rfl, rfl⟩ | hm
    · exact ⟨e, q, h1⟩
    · exact h4 k v hm
theorem goAll_inv {ih : ML → H → Out} {e : T AV} {tf : H} {q : Nat} : ∀ {ps : List (AV × AV × ML)} {a : Option H}, goAll S ih t ps a = .nor e tf q →
    (a = none → ps = [] → tf = t) ∧ (∀ tf0, a = some tf0 → tf = tf0) ∧ ∀ p ∈ ps, ∃ e1 t2 q1, S p.1 p.2.1 t = .nor e1 t2 q1 ∧ ∃ e2 q2, ih p.2.2 t2 = .nor e2 tf q2
  | [], a, h => by
    cases a with
    | none => injection h with _ h _; exact ⟨fun _ _ => h.symm, fun _ h => (by cases h), fun p hp => (by cases hp)⟩
    | some t0 => injection h with _ h _; exact ⟨fun h => (by cases h), fun tf0 h1 => (by injection h1 with h1; rw [← h1]; exact h.symm), fun p hp => (by cases hp)⟩
  | p :: ps, a, h => by
    have hne : NE (Out.nor e tf q) := fun c h => by cases h
    obtain ⟨e1, t2, q1, h1, h⟩ := hb_inv hne (show hb (S p.1 p.2.1 t) (fun t2 => hb (ih p.2.2 t2) fun tf => Option.rec (motive := fun _ => Out) (goAll S ih t ps (some tf)) (fun tf0 => bO (heqb tf0 tf) (goAll S ih t ps (some tf0)) (.err 206)) a) = .nor e tf q from h)
    obtain ⟨e2, tf2, q2, h2, h⟩ := hb_inv hne h
    cases a with
    | none =>
      obtain ⟨_, h3, h4⟩ := goAll_inv (show goAll S ih t ps (some tf2) = .nor e tf q from h)
      obtain rfl := h3 _ rfl
      refine ⟨fun _ h => by (cases h), fun _ h => by (cases h), fun p' hp => ?_⟩
      rcases List.mem_cons.1 hp with rfl | hp
      · exact ⟨e1, t2, q1, h1, e2, q2, h2⟩
      · exact h4 p' hp
    | some tf0 =>
      obtain ⟨h5, h⟩ := bO_inv (show bO (heqb tf0 tf2) (goAll S ih t ps (some tf0)) (.err 206) = .nor e tf q from h) hne
      have h6 := heqb_eq h5
      obtain ⟨_, h3, h4⟩ := goAll_inv (show goAll S ih t ps (some tf0) = .nor e tf q from h)
      have h7 := h3 _ rfl
      subst h7
      subst h6
      refine ⟨fun h => by (cases h), fun _ h => (by injection h), fun p' hp => ?_⟩
      rcases List.mem_cons.1 hp with rfl | hp
      · exact ⟨e1, t2, q1, h1, e2, q2, h2⟩
      · exact h4 p' hp
theorem expl_inv {fs rem : ML} {f : Nat} {e : T AV} {tf : H} {q : Nat} (h : expl S fs f rem t = .nor e tf q) : ∃ f', f = f' + 1 ∧ (∀ k v, MemL fs k v → ∃ e q, S k v t = .nor e t q) ∧ (picks rem = [] → tf = t) ∧
    ∀ p ∈ picks rem, ∃ e1 t2 q1, S p.1 p.2.1 t = .nor e1 t2 q1 ∧ ∃ e2 q2, expl S fs f' p.2.2 t2 = .nor e2 tf q2 := by
  cases f with
  | zero => cases h
  | succ f =>
    obtain ⟨h1, h2⟩ := freeAll_inv (fun c h => by cases h) (show freeAll S t (goAll S (expl S fs f) t (picks rem) none) fs = .nor e tf q from h)
    obtain ⟨h3, _, h4⟩ := goAll_inv h1
    exact ⟨f, rfl, h2, h3 rfl, h4⟩
theorem step0_inv {y : Yh} {ih : Ih} {ks : List Nat} {e0 : T AV} {n nf b ver : Nat} {en : Dst} {rest : List IOper} {b2 : Nat} {body : DC} {k v : AV} {ee : T AV} {t2 : H} {q : Nat} (h : step0 y ih ks e0 n nf b ver en rest b2 body k v t = .nor ee t2 q) :
    ∃ X e1 t1 n1, (put en (.com 1 0 (.cons k (.cons v .nil))) .leaf e0 fun l e => denOps y ih rest l e t n fun e t n => body y ih e t n nor) = X ∧ (X = .nor e1 t1 n1 ∨ X = .exit b2 e1 t1 n1) ∧ agree e0 e1 ks = true ∧ n1 ≤ nf ∧
      (∀ m, t2.get m = if n ≤ m ∧ m < n + (n1 - n) then none else t1.get m) ∧ rfok n t2 = true ∧ ∃ es', t2.get b = some (.mp es' ver) := by
  unfold step0 at h
  generalize hX : (put en (.com 1 0 (.cons k (.cons v .nil))) .leaf e0 fun l e => denOps y ih rest l e t n fun e t n => body y ih e t n nor) = X at h
  have hne : NE (Out.nor ee t2 q) := fun c h => by cases h
  have key : ∀ e1 t1 n1, tail0 ks e0 n nf b ver e1 t1 n1 = .nor ee t2 q → agree e0 e1 ks = true ∧ n1 ≤ nf ∧ (∀ m, t2.get m = if n ≤ m ∧ m < n + (n1 - n) then none else t1.get m) ∧ rfok n t2 = true ∧ ∃ es', t2.get b = some (.mp es' ver) := by
    intro e1 t1 n1 h
    obtain ⟨h1, h⟩ := bO_inv h hne
    obtain ⟨h2, h⟩ := bO_inv h hne
    obtain ⟨t', h, h3⟩ := cutR_inv hne _ _ _ _ h
    obtain ⟨h4, h⟩ := bO_inv h hne
    obtain ⟨es', ver', h5, h⟩ := withMap_inv h hne
    obtain ⟨h6, h⟩ := bO_inv h hne
    injection h with _ h _
    subst h
    obtain rfl := beq_nat h6
    exact ⟨h1, Nat.le_of_ble_eq_true h2, h3, h4, es', h5⟩
  cases X with
  | nor e1 t1 n1 => exact ⟨_, e1, t1, n1, rfl, .inl rfl, key e1 t1 n1 h⟩
  | exit i e1 t1 n1 =>
    obtain ⟨h1, h2⟩ := bO_inv (show bO (Nat.beq i b2) (tail0 ks e0 n nf b ver e1 t1 n1) (.err 202) = .nor ee t2 q from h) hne
    exact ⟨_, e1, t1, n1, rfl, .inr (by rw [beq_nat h1]), key e1 t1 n1 h2⟩
  | _ => cases h
end
end Ev
namespace Ev
open Go
variable [Told] [TokV] [ToldOK]
variable {P : Program} {tk : Tok} {L : List Nat} {N : Nat}
theorem Iv.put {M d : Nat} {ι : Rn} {e : T AV} {ac : Act} {w : World} {V : Value} (h : Iv L N M ι e ac w) (hd : e.get d = none) : Iv L N M ι e (ac.put (some d) V) w :=
  ⟨h.tr.out hd, h.el, by simp [Act.put, h.sz], h.mks, h.hm⟩
theorem rel_heap {ι : Rn} {g : G} {w w' : World} (h : w'.heap = w.heap) (hR : Rel ι g w) : Rel ι g w' := by
  refine ⟨fun b o hb => ?_, hR.non, hR.inj, hR.injm, fun a x hx => ⟨by rw [← (hR.arg a x hx).1]; unfold World.cell?; rw [h], (hR.arg a x hx).2⟩⟩
  have := hR.obj b o hb
  cases o with
  | row sz c n ep => simpa only [ObjOk, RowAt, h] using this
  | mp es ver => simpa only [ObjOk, h] using this
theorem rng_body {ι : Rn} {w : World} {KK : G} {M m : Nat} {ro : Option Nat} {nb : Bool} {ops2 : Array Oper} {o5 : Oper} {rest : List Oper} {id2 b2 : Nat} {body : Code} {db : DC} {y : Yh} {ih : Ih} {ks : List Nat} {e0 : T AV} {n1 nf b ver q : Nat} {k v : AV} {kv vv : Value} {t t2 : H} {ee : T AV} {ac : Act} {Q : Exit → Act → World → Prop}
    (hb : CodeOK P tk L N nb body db) (hmb : DM db) (hro : ro = none ∨ nb = true) (hYM : YM y) (hI : IM ih) (hih : IhOK P tk ih) (hyo : YOK P tk y ι w) (hl2 : ops2.toList = o5 :: rest) (hg5 : o5.guard = none) (hd5 : ∀ c, o5.op ≠ .defer c) (hdN : ∀ o ∈ ops2.toList, ∀ d, o.dst = some d → d < N)
    (hstep : step0 y ih ks e0 n1 nf b ver (cDst L o5.dst) (rest.map (cOper P L ops2)) b2 db k v t = .nor ee t2 q) (hks : ∀ i u, e0.get i = some u → i ∈ ks) (hK : KT KK nf) (hnf : n1 ≤ nf)
    (hR : Rel ι (un t KK) w) (hH : HT t n1) (hY : YT ι n1) (hi : Iv L N M ι e0 ac w) (hrun : (execOp ac.eval o5).run P w = .ok (.value (.tuple #[kv, vv])) w) (hkv : toV ι k = some kv) (hvv : toV ι v = some vv)
    (hQ : ∀ ιc ac' w', PC KK ι w t2 n1 ιc w' → Iv L N M ιc e0 ac' w' → Q .normal ac' w') : (Code.block b2 (.seq (.region id2 ops2 false) body)).wpIn (Fr ro) m P Q ac w := by
  obtain ⟨X, e1, t1, n1', hX, hXc, hag, hle, hget, hok, _⟩ := step0_inv hstep
  have hne : NE X := by rcases hXc with rfl | rfl <;> (intro c h; cases h)
  have htop : top X = n1' := by rcases hXc with rfl | rfl <;> rfl
  have hKX : KT KK (top X) := hK.mono (by omega)
  have fin : ∀ ιb acb wb, PC KK ι w t1 n1' ιb wb → Iv L N M ιb e1 acb wb → Q .normal acb wb := by
    intro ιb acb wb hp hib
    have hf := forget hR hH hY hp hK hnf hle hget hok
    refine hQ _ _ _ hf ⟨fun i u hu => ?_, hi.el, hib.sz, ?_, hib.hm⟩
    · have hu1 := agree_get hag i (hks i u hu)
      rw [hu] at hu1
      obtain ⟨x, hx, hti⟩ := hib.tr i u hu1.symm
      obtain ⟨x0, hx0, _⟩ := hi.tr i u hu
      have := toV_mono hp.ext.le _ _ hx0
      rw [hx] at this; injection this with this; subst this
      exact ⟨x, toV_mono hf.ext.le _ _ hx0, hti⟩
    · obtain ⟨rs, k1, k2, k3⟩ := hib.mks
      exact ⟨rs, k1, k2, fun r hr => let ⟨h1, h2, h3⟩ := k3 r hr; ⟨h1, h2, ⟨fun b e x hx => h3.blk b e x (low_sub.1 _ _ _ hx), fun b q hq => h3.mp b q (low_sub.2 _ _ hq)⟩⟩⟩
  refine wpIn_block (wpIn_seq (wpIn_region ?_))
  have hsz : ops2.size = rest.length + 1 := by rw [← Array.length_toList, hl2]; rfl
  have h0 : ops2[0]? = some o5 := by rw [← Array.getElem?_toList, hl2]; rfl
  rw [List.range_eq_range', hsz]
  show wpOpsIn (Fr ro) m P ops2 _ (0 :: List.range' 1 rest.length) ac w
  refine ops_val h0 hg5 hd5 hrun ?_
  obtain ⟨l', e', hX', hri⟩ := hi.ri.put (v := .com 1 0 (.cons k (.cons v .nil))) (V := .tuple #[kv, vv]) (dst := o5.dst) (by simp [toV, toT, comV, hkv, hvv]) (fun d hd => hdN o5 (by rw [hl2]; exact .head _) d hd) hX
  refine opsIn_ok rest 1 l' e' t n1 ι _ w (fun e t n => db y ih e t n nor) (by rw [hl2]; rfl) hYM hI hyo hih hR hH hY hri (fun o ho => hdN o (by rw [hl2]; exact .tail _ ho)) hne hX' (fun e' t' n' h => hKX.mono (top_of hmb hYM hI hne nor_top h)) ?_
  intro l2 e2 t3 n2 ι2 ac2 w2 h1 h2 h3 h4 h5
  have h5' : ac2.defers = ac.defers := by rw [h5]; cases o5.dst <;> rfl
  refine hb ro m M y ih e2 t3 n2 nor X KK ι2 w2 ac2 _ hro hYM hI hih (hyo.mono h3.ext h3.frm) hne h1 nor_top hKX h3.rel h3.ht h3.yt (h4.inv h5' hi.mks hi.hm h3.ext h3.frm) ?_ ?_
  · intro e' t' n' ι'' ac' w'' he hp hiv
    rcases hXc with rfl | rfl
    · injection he with g1 g2 g3
      subst g1; subst g2; subst g3
      exact fin _ _ _ (h3.trans hp) hiv
    · cases he
  · intro x e' t' n' ι'' ac' w'' hlv hp hiv
    rcases hXc with rfl | rfl
    · rcases hlv with ⟨_, h, _⟩ | ⟨_, h, _⟩ | ⟨h, _⟩ <;> cases h
    · rcases hlv with ⟨i, h, rfl⟩ | ⟨_, h, _⟩ | ⟨h, _⟩
      · injection h with g0 g1 g2 g3
        subst g0; subst g1; subst g2; subst g3
        show (if b2 = b2 then Q .normal ac' w'' else Q (.exit b2) ac' w'')
        rw [if_pos rfl]
        exact fin _ _ _ (h3.trans hp) hiv
      · cases h
      · cases h
structure RS (P : Program) (L : List Nat) (ops0 ops1 ops2 : Array Oper) (o1 o2 o3 o4 o5 : Oper) (rest : List Oper) (T : TypeId) (X : Operand) (x : Opd) (it nx g : Nat) (ks : List Nat) : Prop where
  l0 : ops0.toList = [o1, o2]
  l1 : ops1.toList = [o3, o4]
  l2 : ops2.toList = o5 :: rest
  r2 : o2.op = .range T X
  mt : ∃ kt et, P.underlying T = some (.map kt et)
  hx : cOpd X = some x
  d2 : o2.dst = some it
  g2 : o2.guard = none
  r3 : o3.op = .next (.tmp it) false
  d3 : o3.dst = some nx
  g3 : o3.guard = none
  r4 : o4.op = .extract (.tmp nx) 0
  d4 : o4.dst = some g
  g4 : o4.guard = none
  r5 : o5.op = .entry (.tmp it)
  g5 : o5.guard = none
  knx : nx ∉ ks
  kg : g ∉ ks
  kit : it ∉ ks
  lit : it ∉ L
  ni : nx ≠ it
  gi : g ≠ it
def rngLoop (id1 id2 b1 b2 g : Nat) (ops1 ops2 : Array Oper) (body : Code) : Code :=
  .seq (.region id1 ops1 false) (.seq (.cond (.tmp g) .skip (.exit b1)) (.block b2 (.seq (.region id2 ops2 false) body)))
theorem rng_loop {ops0 ops1 ops2 : Array Oper} {o1 o2 o3 o4 o5 : Oper} {rest : List Oper} {Ty : TypeId} {X : Operand} {x : Opd} {it nx g : Nat} {ks : List Nat} (hs : RS P L ops0 ops1 ops2 o1 o2 o3 o4 o5 rest Ty X x it nx g ks) {id1 id2 b1 b2 : Nat} {body : Code} {db : DC} {nb : Bool}
    {ι : Rn} {w : World} {KK : G} {M m : Nat} {ro : Option Nat} {y : Yh} {ih : Ih} {e0 : T AV} {n n1 nf b ver bm clock rr : Nat} {ents : Array MapEntry} {fs : ML} {tf : H} {Q : Exit → Act → World → Prop}
    (hb : CodeOK P tk L N nb body db) (hmb : DM db) (hro : ro = none ∨ nb = true) (hYM : YM y) (hI : IM ih) (hih : IhOK P tk ih) (hyo : YOK P tk y ι w) (hd1 : ∀ o ∈ ops1.toList, ∀ d, o.dst = some d → d < N) (hd2 : ∀ o ∈ ops2.toList, ∀ d, o.dst = some d → d < N)
    (hks : ∀ i u, e0.get i = some u → i ∈ it :: ks) (hit : e0.get it = some (.ref 15 n 0 0 0 0)) (hK : KT KK nf) (hnf : n1 ≤ nf) (hrr : w.heap.size ≤ rr) (hmp : ι.mp b = some bm) (hmpv : ι.mpv b ver = some (ents, clock)) (hwf : Wf ents clock)
    (hQ : ∀ ι' ac' w', PC KK ι w tf n1 ι' w' → Iv L N M ι' e0 ac' w' → Q .normal ac' w') :
    ∀ (f : Nat) (seen : Array Nat) (rem : ML) (fu : Nat) (t : H) (ι' : Rn) (w' : World) (ac' : Act), (leftOf ents seen).size < f → PC KK ι w t n1 ι' w' → Iv L N M ι' e0 ac' w' → ι'.yl n = some rr → Un ι' rr → w'.heap[rr]? = some (.mapIter (some bm) clock seen clock) →
      (∃ es', t.get b = some (.mp es' ver)) → (∃ e q, expl (step0 y ih (it :: ks) e0 n1 nf b ver (cDst L o5.dst) (rest.map (cOper P L ops2)) b2 db) fs fu rem t = .nor e tf q) → JJ ι ents fs rem seen →
      Code.roundsIn (Fr ro) m P (rngLoop id1 id2 b1 b2 g ops1 ops2 body) (Exit.inBlock b1 Q) f ac' w' := by
  intro f
  induction f with
  | zero => intro seen rem fu t ι' w' ac' h; omega
  | succ f ihf =>
    intro seen rem fu t ι' w' ac' hlt hp hi hyl hu hr0 hes hex hjj
    rw [roundsIn_succ]
    have hbm : w'.heap[bm]? = some (.map ents clock) := by
      obtain ⟨es', hes⟩ := hes
      obtain ⟨_, _, r', ents', clock', k1, ⟨k2, _⟩, k3, _⟩ := hp.rel.obj b _ (un_get hes)
      have e1 := hp.ext.le.mp _ _ hmp
      rw [k1] at e1; injection e1 with e1; subst e1
      have e2 := hp.ext.le.mpv _ _ _ hmpv
      rw [k2] at e2; injection e2 with e2; injection e2 with e2 e3; subst e2; subst e3
      exact k3
    have hit' : ac'.eval (.tmp it) = .pointer (some ⟨rr, 0, none⟩) := by
      obtain ⟨x, hx, hti⟩ := hi.tr it _ hit
      simp only [toV, refV, hyl, Option.map_some, Option.some.injEq] at hx
      subst hx
      simp [Act.eval, hti]
    have none_of : ∀ d, d ∉ ks → d ≠ it → e0.get d = none := fun d h1 h2 => by
      cases h : e0.get d with
      | none => rfl
      | some u =>
        rcases List.mem_cons.1 (hks d u h) with h3 | h3
        · exact absurd h3 h2
        · exact absurd h3 h1
    have hnx := none_of nx hs.knx hs.ni
    have hg := none_of g hs.kg hs.gi
    have hs1 : ops1.size = 2 := by rw [← Array.length_toList, hs.l1]; rfl
    have hnxN : nx < N := hd1 o3 (by rw [hs.l1]; exact .head _) nx hs.d3
    have hgN : g < N := hd1 o4 (by rw [hs.l1]; exact .tail _ (.head _)) g hs.d4
    refine wpIn_seq (wpIn_region ?_)
    rw [hs1]
    show wpOpsIn (Fr ro) m P ops1 _ [0, 1] ac' w'
    have i0 : ops1[0]? = some o3 := by rw [← Array.getElem?_toList, hs.l1]; rfl
    have i1 : ops1[1]? = some o4 := by rw [← Array.getElem?_toList, hs.l1]; rfl
    have evx : ∀ (a : Act) (V : Value) (d : Nat), a.tmps.size = N → d < N → (a.put (some d) V).eval (.tmp d) = V := fun a V d h1 h2 => by simp [Act.put, Act.eval, h1, h2]
    obtain ⟨e9, q9, hex⟩ := hex
    obtain ⟨fu', rfl, hfree, hnil, hpick⟩ := expl_inv hex
    rcases run_next_at (P := P) (ty := o3.type) hr0 hbm hwf.lt with ⟨h0, hrun⟩ | ⟨xe, hxe, w1, hal, hrun⟩
    · refine ops_val i0 hs.g3 (fun c h => by rw [hs.r3] at h; cases h) (ex_next hs.r3 (by rw [hit']; exact hrun)) ?_
      rw [hs.d3]
      refine ops_val (V := .bool false) i1 hs.g4 (fun c h => by rw [hs.r4] at h; cases h) (ex_extract hs.r4 (vs := #[.bool false]) (evx _ _ _ hi.sz hnxN) rfl) ?_
      rw [hs.d4]
      have hi2 := (hi.put hnx (V := .tuple #[.bool false])).put hg (V := .bool false)
      refine wpIn_seq (wpIn_cond_false (evx _ _ _ (hi.put hnx).sz hgN) (wpIn_exit ?_))
      show (if b1 = b1 then Q .normal _ _ else Q (.exit b1) _ _)
      rw [if_pos rfl]
      have hrem := jj_end hjj h0
      subst hrem
      obtain rfl := hnil rfl
      exact hQ _ _ _ hp hi2
    · generalize hw2 : ({ w1 with heap := w1.heap.setIfInBounds rr (.mapIter (some bm) clock (seen.push xe.born) clock) } : World) = w2 at hrun
      obtain ⟨a1, a2, a3, a4⟩ := hal
      have hh2 : w2.heap = w'.heap.setIfInBounds rr (.mapIter (some bm) clock (seen.push xe.born) clock) := by rw [← hw2, ← a1]
      have hlt' := (Array.getElem?_eq_some_iff.1 hr0).1
      have hsz2 : w2.heap.size = w'.heap.size := by rw [hh2]; simp
      have ho2 : ∀ rb, rb ≠ rr → w2.heap[rb]? = w'.heap[rb]? := fun rb h => by rw [hh2]; exact Array.getElem?_setIfInBounds_ne (fun e => h e.symm)
      have hr2 : w2.heap[rr]? = some (.mapIter (some bm) clock (seen.push xe.born) clock) := by rw [hh2]; simp [hlt']
      have hbm2 : w2.heap[bm]? = some (.map ents clock) := by
        rw [ho2 bm (fun e => by subst e; rw [hr0] at hbm; cases hbm)]; exact hbm
      have hp2 : PC KK ι w t n1 ι' w2 := by
        refine ⟨rel_heap (w := { w' with heap := w'.heap.setIfInBounds rr (.mapIter (some bm) clock (seen.push xe.born) clock) }) hh2 (hp.rel.setO hu fun _ _ _ e => by rw [hr0] at e; cases e), hp.ext, ⟨?_, ?_, ?_, ?_, fun rb h1 h2 h3 => ?_⟩, hp.ht, hp.yt⟩
        · rw [← hp.frm.os, ← a2, ← hw2]
        · rw [← hp.frm.tape, ← a3, ← hw2]
        · rw [← hp.frm.output, ← a4, ← hw2]
        · rw [hsz2]; exact hp.frm.size
        · rw [ho2 rb (by omega)]; exact hp.frm.block rb h1 h2 h3
      have hi' : Iv L N M ι' e0 ac' w2 := by
        refine ⟨hi.tr, hi.el, hi.sz, ?_, by rw [hsz2]; exact hi.hm⟩
        obtain ⟨rs, k1, k2, k3⟩ := hi.mks
        refine ⟨rs, k1, k2, fun r hr => ?_⟩
        obtain ⟨k4, k5, k6⟩ := k3 r hr
        refine ⟨k4, ?_, k6⟩
        rw [ho2 r (fun e => by subst e; rw [hr0] at k5; cases k5)]; exact k5
      refine ops_val i0 hs.g3 (fun c h => by rw [hs.r3] at h; cases h) (ex_next hs.r3 (by rw [hit']; exact hrun)) ?_
      rw [hs.d3]
      refine ops_val (V := .bool true) i1 hs.g4 (fun c h => by rw [hs.r4] at h; cases h) (ex_extract hs.r4 (vs := #[.bool true, xe.key, xe.val]) (evx _ _ _ hi.sz hnxN) rfl) ?_
      rw [hs.d4]
      have hi2 := (hi'.put hnx (V := .tuple #[.bool true, xe.key, xe.val])).put hg (V := .bool true)
      refine wpIn_seq (wpIn_cond_true (evx _ _ _ (hi.put hnx).sz hgN) (wpIn_skip ?_))
      have hit2 : (((ac'.put (some nx) (.tuple #[.bool true, xe.key, xe.val])).put (some g) (.bool true)).eval (.tmp it)) = .pointer (some ⟨rr, 0, none⟩) := by
        have h1 := hs.ni; have h2 := hs.gi
        rw [← hit']
        simp only [Act.put, Act.eval]
        simp [Array.getD_eq_getD_getElem?, Array.getElem?_setIfInBounds_ne h1, Array.getElem?_setIfInBounds_ne h2]
      have hme := (mem_left hxe).1
      have hentry := run_entry_at (P := P) hr2 hbm2 hme hwf.nd
      have go : ∀ (k v : AV) (s : ML), toV ι k = some xe.key → toV ι v = some xe.val → JJ ι ents fs s (seen.push xe.born) → (∃ ee t2 q, step0 y ih (it :: ks) e0 n1 nf b ver (cDst L o5.dst) (rest.map (cOper P L ops2)) b2 db k v t = .nor ee t2 q ∧
          ∃ fu2 e q, expl (step0 y ih (it :: ks) e0 n1 nf b ver (cDst L o5.dst) (rest.map (cOper P L ops2)) b2 db) fs fu2 s t2 = .nor e tf q) →
          (Code.block b2 (.seq (.region id2 ops2 false) body)).wpIn (Fr ro) m P (Exit.then (Code.roundsIn (Fr ro) m P (rngLoop id1 id2 b1 b2 g ops1 ops2 body) (Exit.inBlock b1 Q) f) (Exit.inBlock b1 Q)) ((ac'.put (some nx) (.tuple #[.bool true, xe.key, xe.val])).put (some g) (.bool true)) w2 := by
        intro k v s hkx hvx hjs hst
        obtain ⟨ee, t2, q, hst, fu2, e8, q8, hex2⟩ := hst
        have hes2 : ∃ es', t2.get b = some (.mp es' ver) := by
          obtain ⟨_, _, _, _, _, _, _, _, _, _, h⟩ := step0_inv hst
          exact h
        refine rng_body hb hmb hro hYM hI hih (hyo.mono hp2.ext hp2.frm) hs.l2 hs.g5 (fun c h => by rw [hs.r5] at h; cases h) hd2 hst hks hK hnf hp2.rel hp2.ht hp2.yt hi2 (ex_entry hs.r5 (by rw [hit2]; exact hentry)) (toV_mono hp2.ext.le _ _ hkx) (toV_mono hp2.ext.le _ _ hvx) ?_
        intro ιc ac4 w4 hpc hic
        have hlt2 : rr < w2.heap.size := by omega
        exact ihf (seen.push xe.born) s fu2 t2 ιc w4 ac4 (by have := left_shrinks ents seen xe hxe; omega) (hp2.trans hpc) hic (hpc.ext.le.yl _ _ hyl) (hu.mono hpc.ext hlt2) (hpc.frm.at hu hr2) hes2 ⟨e8, q8, hex2⟩ hjs
      rcases jj_next hwf hjj hxe with ⟨k, v, k1, k2, k3, k4⟩ | ⟨p, hp1, k2, k3, k4⟩
      · obtain ⟨e7, q7, h7⟩ := hfree k v k1
        exact go k v rem k2 k3 k4 ⟨e7, t, q7, h7, fu' + 1, e9, q9, hex⟩
      · obtain ⟨e7, t2, q7, h7, e8, q8, h8⟩ := hpick p hp1
        exact go p.1 p.2.1 p.2.2 k2 k3 k4 ⟨e7, t2, q7, h7, fu', e8, q8, h8⟩
theorem rngK_inv {y : Yh} {ih : Ih} {ks : List Nat} {it bud n : Nat} {en : Dst} {rest : List IOper} {b2 : Nat} {db : DC} {e : T AV} {t : H} {k : KD} {mv : AV} {r : Out} (hr : NE r)
    (h : (vref mv fun g b _ _ _ _ => bO (Nat.beq g 8) (withMap t b fun es ver =>
    keepK e ks .leaf fun e0 => T.seq (T.set e0 (.ref 15 n 0 0 0 0) it) fun e0 => forceN (Nat.succ n) fun n1 => forceN (Nat.add n1 bud) fun nf =>
      clas (step0 y ih (it :: ks) e0 n1 nf b ver en rest b2 db) t es fun fs rem => hb (expl (step0 y ih (it :: ks) e0 n1 nf b ver en rest b2 db) fs 20 rem t) fun tf => k e0 tf nf) (.err 201)) = r) :
    ∃ b ep o l c es ver fs rem tf, mv = .ref 8 b ep o l c ∧ t.get b = some (.mp es ver) ∧ Part es fs rem ∧ (∃ e' q, expl (step0 y ih (it :: ks) ((keepE e ks .leaf).set (.ref 15 n 0 0 0 0) it) (n + 1) (n + 1 + bud) b ver en rest b2 db) fs 20 rem t = .nor e' tf q) ∧ k ((keepE e ks .leaf).set (.ref 15 n 0 0 0 0) it) tf (n + 1 + bud) = r := by
  obtain ⟨g, b, ep, o, l, c, rfl, h⟩ := vref_inv h hr
  obtain ⟨h1, h⟩ := bO_inv h hr
  obtain rfl := beq_nat h1
  obtain ⟨es, ver, h2, h⟩ := withMap_inv h hr
  rw [keepK_eq, T.seq_eq, forceN_eq, forceN_eq] at h
  obtain ⟨fs, rem, h3, h⟩ := clas_inv hr h
  obtain ⟨e', tf, q, h4, h⟩ := hb_inv hr h
  exact ⟨b, ep, o, l, c, es, ver, fs, rem, tf, rfl, h2, h3, ⟨e', q, h4⟩, h⟩
theorem dm_rng {o1 : IOper} {x : Opd} {it bud : Nat} {ks : List Nat} {en : Dst} {rest : List IOper} {b2 : Nat} {db : DC} : DM (cRng o1 x it ks bud en rest b2 db) := fun y ih e t n k r hY hI hr h => by
  obtain ⟨v, l', e', t', n', h1, h⟩ := o_denOper hY hI hr (show denOper y ih o1 .leaf e t n _ = r from h)
  obtain ⟨mv, h⟩ := h_fetch hr h
  obtain ⟨b, ep, o, l, c, es, ver, fs, rem, tf, _, _, _, _, h⟩ := rngK_inv hr h
  exact .inl ⟨_, _, _, by omega, h⟩
theorem ok_rng {ops0 ops1 ops2 : Array Oper} {o1 o2 o3 o4 o5 : Oper} {rest : List Oper} {Ty : TypeId} {X : Operand} {x : Opd} {it nx g bud : Nat} {ks : List Nat} (hs : RS P L ops0 ops1 ops2 o1 o2 o3 o4 o5 rest Ty X x it nx g ks) {id0 id1 id2 b1 b2 : Nat} {body : Code} {db : DC} {nb : Bool}
    (hb : CodeOK P tk L N nb body db) (hmb : DM db) (hd0 : ∀ o ∈ ops0.toList, ∀ d, o.dst = some d → d < N) (hd1 : ∀ o ∈ ops1.toList, ∀ d, o.dst = some d → d < N) (hd2 : ∀ o ∈ ops2.toList, ∀ d, o.dst = some d → d < N) :
    CodeOK P tk L N nb (.seq (.region id0 ops0 false) (.block b1 (.loop (rngLoop id1 id2 b1 b2 g ops1 ops2 body)))) (cRng (cOper P L ops0 o1) x it ks bud (cDst L o5.dst) (rest.map (cOper P L ops2)) b2 db) := by
  intro ro m M y ih e t n k r KK ι w ac Q hro hYM hI hih hyo hr h hk hK hR hH hY hi hQ _
  have hs0 : ops0.size = 2 := by rw [← Array.length_toList, hs.l0]; rfl
  have i0 : ops0[0]? = some o1 := by rw [← Array.getElem?_toList, hs.l0]; rfl
  have i1 : ops0[1]? = some o2 := by rw [← Array.getElem?_toList, hs.l0]; rfl
  have hitN : it < N := hd0 o2 (by rw [hs.l0]; exact .tail _ (.head _)) it hs.d2
  refine wpIn_seq (wpIn_region ?_)
  rw [hs0]
  show wpOpsIn (Fr ro) m P ops0 _ [0, 1] ac w
  refine ops_cons i0 ?_
  refine oper_ok hYM hI hyo hih hR hH hY hi.ri (fun d hd => hd0 o1 (by rw [hs.l0]; exact .head _) d hd) hr (show denOper y ih (cOper P L ops0 o1) .leaf e t n _ = r from h) (fun v l' e' t' n' h1 => ?_) (fun v l' e' t' n' ι' w' V h1 h2 h3 h4 => ?_)
  · obtain ⟨mv, h1⟩ := h_fetch hr h1
    obtain ⟨b, ep, o, l, c, es, ver, fs, rem, tf, _, _, _, _, h1⟩ := rngK_inv hr h1
    have := hk _ _ _ h1
    exact hK.mono (by omega)
  · generalize hac : ac.put o1.dst V = ac1 at h3 ⊢
    have hdef : ac1.defers = ac.defers := by rw [← hac]; cases o1.dst <;> rfl
    obtain ⟨mv, hmv, h1⟩ := fetch_inv hs.hx h3.tl h3.te h1 hr
    obtain ⟨b, ep, o, l, c, es, ver, fs, rem, tf, rfl, hes, hpart, hex, h1⟩ := rngK_inv hr h1
    have hiv : Iv L N M ι' e' ac1 w' := h3.inv hdef hi.mks hi.hm h2.ext h2.frm
    obtain ⟨_, _, bm, ents, clock, k1, ⟨k2, hwf⟩, k3, k4⟩ := h2.rel.obj b _ (un_get hes)
    simp only [toV, refV, k1, Option.map_some, Option.some.injEq] at hmv
    obtain ⟨kt, et, hmt⟩ := hs.mt
    have hrun := run_range_map (P := P) w' Ty kt et bm ents clock hmt k3
    refine ops_val i1 hs.g2 (fun c h => by rw [hs.r2] at h; cases h) (ex_range hs.r2 (by rw [← hmv]; exact hrun)) ?_
    rw [hs.d2]
    have hyn : ι'.yl n' = none := h2.yt n' (Nat.le_refl _)
    have hu0 : Un ι' w'.heap.size := Un.new h2.rel (Nat.le_refl _)
    generalize hob : Obj.mapIter (some bm) clock #[] clock = ob at *
    have hfr : Frm ι' w' (w'.alloc ob) := frm_push _
    have htop := hk _ _ _ h1
    show (Code.block b1 (.loop (rngLoop id1 id2 b1 b2 g ops1 ops2 body))).wpIn (Fr ro) m P Q _ _
    refine wpIn_block (wpIn_loop_rounds (ents.size + 1) ?_)
    refine rng_loop hs (ι := ι') (w := w') (KK := KK) (M := M) (e0 := (keepE e' ks .leaf).set (.ref 15 n' 0 0 0 0) it) (n := n') (n1 := n' + 1) (nf := n' + 1 + bud) (b := b) (ver := ver) (bm := bm) (clock := clock) (rr := w'.heap.size) (ents := ents) (fs := fs) (tf := tf)
      hb hmb hro hYM hI hih (hyo.mono h2.ext h2.frm) hd1 hd2 ?_ (T.get_set _ _ _) (hK.mono htop) (by omega) (Nat.le_refl _) k1 k2 hwf ?_ (ents.size + 1) #[] rem 20 t' (ι'.addY n' w'.heap.size) (w'.alloc ob) _ ?_ ?_ ?_ ?_ ?_ ?_ ⟨es, hes⟩ hex (jj_start hpart k4 hwf)
    · intro i u hu
      rw [T.get_set_if] at hu
      split at hu
      · rename_i hii; rw [← hii]; exact .head _
      · rcases keepE_get e' ks _ i u hu with ⟨g1, _⟩ | g1
        · exact .tail _ g1
        · rw [T.get_leaf] at g1; cases g1
    · intro ι'' ac'' w'' hp hic
      exact hQ _ _ _ _ _ _ h1 (h2.trans ⟨hp.rel, hp.ext, hp.frm, fun b hb => hp.ht b (by omega), hp.yt.mono (by omega)⟩) hic
    · have : (leftOf ents #[]).size ≤ ents.size := by unfold leftOf; exact Array.size_filter_le
      omega
    · refine ⟨(h2.rel.push).addY hyn, ext_addY hyn, hfr, fun b hb => h2.ht b (by omega), fun b hb => ?_⟩
      show (if b = n' then _ else ι'.yl b) = none
      rw [if_neg (by omega)]; exact h2.yt b (by omega)
    · refine ⟨fun i u hu => ?_, fun d hd => ?_, by simp [Act.put, hiv.sz], ?_, Nat.le_trans hiv.hm hfr.size⟩
      · rw [T.get_set_if] at hu
        split at hu
        · rename_i hii
          injection hu with hu; subst hu; subst hii
          refine ⟨.pointer (some ⟨w'.heap.size, 0, none⟩), by simp [toV, refV, Rn.addY], by simp [Act.put, hiv.sz, hitN]⟩
        · rename_i hii
          rcases keepE_get e' ks _ i u hu with ⟨_, g2⟩ | g1
          · obtain ⟨x', hx', hti⟩ := hiv.tr i u g2
            exact ⟨x', toV_mono (addY_le hyn) _ _ hx', by simp only [Act.put]; rw [Array.getElem?_setIfInBounds_ne hii]; exact hti⟩
          · rw [T.get_leaf] at g1; cases g1
      · rw [T.get_set_if, if_neg (fun e => hs.lit (by rw [e]; exact hd))]
        cases hg : (keepE e' ks .leaf).get d with
        | none => rfl
        | some u =>
          rcases keepE_get e' ks _ d u hg with ⟨_, g2⟩ | g1
          · rw [hiv.el d hd] at g2; cases g2
          · rw [T.get_leaf] at g1; cases g1
      · exact hiv.mks.mono (ext_addY hyn) ⟨hfr.os, hfr.tape, hfr.output, hfr.size, hfr.block⟩
    · simp [Rn.addY]
    · exact ⟨hu0.blk, hu0.mp⟩
    · rw [← hob]; exact heap_push1
end Ev
namespace Ev
open Go
inductive IT where
  | code (c : IC)
  | rng (o1 : IOper) (x : Opd) (it : Nat) (ks : List Nat) (bud : Nat) (en : Dst) (rest : List IOper) (b2 : Nat) (body : IC)
  | seq (a b : IT)
noncomputable def denT [Told] : IT → DC
  | .code c => den c
  | .rng o1 x it ks bud en rest b2 body => cRng o1 x it ks bud en rest b2 (den body)
  | .seq a b => cSeq (denT a) (denT b)
section
variable (P : Program) (L : List Nat)
def budget : Nat := 400
def rngOf (N : Nat) : Code → Option IT
  | .seq (.region id0 ops0 false) (.block b1 (.loop (.seq (.region id1 ops1 false) (.seq (.cond (.tmp g) .skip (.exit b1')) (.block b2 (.seq (.region id2 ops2 false) body)))))) =>
    match ops0.toList, ops1.toList, ops2.toList with
    | [o1, o2], [o3, o4], o5 :: rest =>
      match o2.op, o2.dst, o3.op, o3.dst, o4.op, o4.dst, o5.op with
      | .range T X, some it, .next (.tmp it1) false, some nx, .extract (.tmp nx1) 0, some g', .entry (.tmp it2) =>
        match P.underlying T, cOpd X with
        | some (.map _ _), some x =>
          let no := dsts (.seq (.region id0 ops0 false) (.block b1 (.loop (.seq (.region id1 ops1 false) (.seq (.cond (.tmp g) .skip (.exit b1')) (.block b2 (.seq (.region id2 ops2 false) body)))))))
          let ks := (List.range N).filter fun d => !no.contains d && !L.contains d && (d != nx && (d != g && d != it))
          if b1 = b1' ∧ (it1 = it ∧ (it2 = it ∧ (nx1 = nx ∧ (g' = g ∧ (o2.guard = none ∧ (o3.guard = none ∧ (o4.guard = none ∧ (o5.guard = none ∧ (nx ≠ it ∧ (g ≠ it ∧ L.contains it = false)))))))))) then
            some (.rng (cOper P L ops0 o1) x it ks budget (cDst L o5.dst) (rest.map (cOper P L ops2)) b2 (cCode P L body)) else none
        | _, _ => none
      | _, _, _, _, _, _, _ => none
    | _, _, _ => none
  | _ => none
def cTop (N : Nat) : Code → IT
  | .seq a b => match rngOf P L N a with
    | some i => .seq i (cTop N b)
    | none => .seq (.code (cCode P L a)) (cTop N b)
  | c => .code (cCode P L c)
def cFnT (f : Func) : Option (IT × List IRes) :=
  match f.body, cRes P f.results.toList with
  | some c, some r => if (L.all fun d => decide (nparams f ≤ d)) && (dsts c).all (fun d => decide (d < f.ntmps)) && decide (nparams f ≤ f.ntmps) then some (cTop P L f.ntmps c, r) else none
  | _, _ => none
end
noncomputable def denFT [Told] (np : Nat) (i : IT) (res : List IRes) : FnD := func np (denT i) (fun e t k => denRes e t res k)
variable [Told] [TokV] [ToldOK]
variable {P : Program} {tk : Tok} {L : List Nat} {N : Nat}
theorem dmT : ∀ i : IT, DM (denT i)
  | .code c => dm c
  | .rng .. => dm_rng
  | .seq a b => show DM (cSeq (denT a) (denT b)) from dm_seq (dmT a) (dmT b)
theorem rng_code (hm : P.follows .mixedOrders = true) : ∀ (c : Code) (i : IT), rngOf P L N c = some i → (∀ d ∈ dsts c, d < N) → ∃ nb, CodeOK P tk L N nb c (denT i) := by
  intro c i h hd
  unfold rngOf at h
  split at h
  · rename_i id0 ops0 b1 id1 ops1 g b1' b2 id2 ops2 body
    split at h
    · rename_i o1 o2 o3 o4 o5 rest hl0 hl1 hl2
      split at h
      · rename_i T X it it1 nx nx1 g' it2 e1 e2 e3 e4 e5 e6 e7
        split at h
        · rename_i kt et x hT hX
          simp only at h
          split at h
          · rename_i hc
            obtain ⟨c1, c2, c3, c4, c5, c6, c7, c8, c9, c10, c11, c12⟩ := hc
            injection h with h
            subst c1; subst c2; subst c3; subst c4; subst c5
            refine ⟨noBack (cCode P L body), ?_⟩
            rw [← h]
            have hlit : it2 ∉ L := fun hm => by
              have : L.contains it2 = true := by simpa using hm
              rw [c12] at this; cases this
            refine ok_rng (o2 := o2) (o3 := o3) (o4 := o4) (Ty := T) (X := X) (nx := nx1) (id0 := id0) (id1 := id1) (id2 := id2) (ops1 := ops1) ⟨hl0, hl1, hl2, e1, ⟨kt, et, hT⟩, hX, e2, c6, e3, e4, c7, e5, e6, c8, e7, c9, ?_, ?_, ?_, hlit, c10, c11⟩ (code_ok hm body (fun d hd' => hd d ?_)) (dm _) (fun o ho d hd' => hd d ?_) (fun o ho d hd' => hd d ?_) (fun o ho d hd' => hd d ?_)
            · simp
            · simp
            · simp
            · simp only [dsts, List.mem_append]; exact .inr (.inr (.inr (.inr hd')))
            · simp only [dsts, List.mem_append, List.mem_filterMap]; exact .inl ⟨o, ho, hd'⟩
            · simp only [dsts, List.mem_append, List.mem_filterMap]; exact .inr (.inl ⟨o, ho, hd'⟩)
            · simp only [dsts, List.mem_append, List.mem_filterMap]; exact .inr (.inr (.inr (.inl ⟨o, ho, hd'⟩)))
          · cases h
        · cases h
      · cases h
    · cases h
  · cases h
theorem top_code (hm : P.follows .mixedOrders = true) : ∀ c : Code, (∀ d ∈ dsts c, d < N) → ∃ nb, CodeOK P tk L N nb c (denT (cTop P L N c))
  | .seq a b, hd => by
    obtain ⟨nb2, h2⟩ := top_code hm b (fun d h => hd d (by simp only [dsts, List.mem_append]; exact .inr h))
    rw [cTop]
    split
    · rename_i i hi
      obtain ⟨nb1, h1⟩ := rng_code (tk := tk) hm a i hi (fun d h => hd d (by simp only [dsts, List.mem_append]; exact .inl h))
      exact ⟨nb1 && nb2, ok_seq (d := denT i) (d' := denT (cTop P L N b)) (dmT _) h1 h2⟩
    · exact ⟨noBack (cCode P L a) && nb2, ok_seq (d := den (cCode P L a)) (d' := denT (cTop P L N b)) (dmT _) (code_ok hm a (fun d h => hd d (by simp only [dsts, List.mem_append]; exact .inl h))) h2⟩
  | .skip, hd => ⟨_, code_ok hm _ hd⟩
  | .label _, hd => ⟨_, code_ok hm _ hd⟩
  | .region _ _ _, hd => ⟨_, code_ok hm _ hd⟩
  | .cond _ _ _, hd => ⟨_, code_ok hm _ hd⟩
  | .block _ _, hd => ⟨_, code_ok hm _ hd⟩
  | .loop _, hd => ⟨_, code_ok hm _ hd⟩
  | .scope _, hd => ⟨_, code_ok hm _ hd⟩
  | .exit _, hd => ⟨_, code_ok hm _ hd⟩
  | .goto _, hd => ⟨_, code_ok hm _ hd⟩
  | .ret, hd => ⟨_, code_ok hm _ hd⟩
  | .rangeFunc _ _ _ _, hd => ⟨_, code_ok hm _ hd⟩
  | .refuse _, hd => ⟨_, code_ok hm _ hd⟩
theorem fn_okD {f : FuncId} {fn : Func} {c : Code} {d : DC} {nb : Bool} {rs : List IRes} (hf : P.funcs[f]? = some fn) (hb : fn.body = some c) (hrs : cRes P fn.results.toList = some rs) (hL : ∀ d ∈ L, nparams fn ≤ d) (hnp : nparams fn ≤ fn.ntmps) (hcode : CodeOK P tk L fn.ntmps nb c d)
    {y : Yh} {ih : Ih} {a : AV} {t : H} {n : Nat} {v : AV} {t' : H} {n' : Nat} (hYM : YM y) (hI : IM ih) (hih : IhOK P tk ih)
    (h : func (nparams fn) d (fun e t k => denRes e t rs k) y ih a t n = .ok v t' n') (K : G) (ι : Rn) (w : World) (args : Array Value) (hyo : YOK P tk y ι w) (hK : KT K n') (hR : Rel ι (un t K) w) (hH : HT t n) (hY : YT ι n) (ha : toT ι a = some args.toList) :
    CallsIn Fence.wide 0 P f args w fun x w' => ∃ V ι', x = .returned V ∧ toV ι' v = some V ∧ PC K ι w t' n' ι' w' := by
  unfold func at h
  obtain ⟨h1, h⟩ := bO_inv h ok_ne
  have h1 : llen a = nparams fn := beq_nat h1
  rw [toT_length ha] at h1
  have h1 : args.size = nparams fn := by simpa using h1
  refine callsIn_of_wp_marks hf hb trivial ?_
  generalize hx : d y ih (fillE a 0 .leaf) t n nor = x at h
  have hne : NE x := fun q hq => by subst hq; cases h
  have hi : Iv L fn.ntmps w.heap.size ι (fillE a 0 .leaf) { tmps := args ++ Array.replicate (fn.ntmps - args.size) undef, defers := [] } w := by
    refine ⟨args_tr ha, fun d hd => ?_, ?_, .nil, Nat.le_refl _⟩
    · rw [fillE_get, if_pos (Nat.zero_le _), Nat.sub_zero, T.get_leaf]
      have hlen := (toT_some ha).2.1
      have := hL d hd
      rw [List.getElem?_eq_none (by rw [← hlen]; simp; omega)]
    · simp; omega
  have fin : ∀ {e1 : T AV} {t1 : H} {n1 : Nat}, denRes e1 t1 rs (fun l => .ok (one l) t1 n1) = .ok v t' n' → n' = n1 ∧ ∀ ι' ac' w', PC K ι w t1 n1 ι' w' → Iv L fn.ntmps w.heap.size ι' e1 ac' w' →
      LeavesInM Fence.wide 0 P fn ac'.tmps (fun x w' => ∃ V ι', x = .returned V ∧ toV ι' v = some V ∧ PC K ι w t' n' ι' w') ac'.defers .returning w' := by
    intro e1 t1 n1 h3
    have hn1 : n' = n1 := by
      obtain ⟨l, h4⟩ := h_denRes ok_ne h3
      injection h4 with _ _ h4
      exact h4.symm
    refine ⟨hn1, fun ι' ac' w' hp hi' => ?_⟩
    obtain ⟨rs', k1, k2, k3⟩ := hi'.mks
    rw [k1]
    refine leaves_ok rs' w' k2 k3 rfl ⟨ι, hp.frm⟩ hp.rel fun w'' h5 h6 => ?_
    obtain ⟨rfl, rfl, V, g1, g2⟩ := results_ok hrs hi'.tr h5 h3
    exact ⟨V, g2, V, ι', rfl, g1, h5, hp.ext, h6 ι hp.frm, hp.ht, hp.yt⟩
  have htop : KT K (top x) := by
    cases x with
    | nor e1 t1 n1 => exact (fin h).1 ▸ hK
    | ret e1 t1 n1 => exact (fin h).1 ▸ hK
    | _ => cases h
  refine hcode none 0 w.heap.size y ih (fillE a 0 .leaf) t n nor x K ι w _ _ (.inl rfl) hYM hI hih hyo hne hx nor_top htop hR hH hY hi ?_ ?_
  · intro e1 t1 n1 ι' ac' w' h3 hp hi'
    subst h3
    exact (fin h).2 ι' ac' w' hp hi'
  · intro q e1 t1 n1 ι' ac' w' h3 hp hi'
    rcases h3 with ⟨i, rfl, rfl⟩ | ⟨i, rfl, rfl⟩ | ⟨rfl, rfl⟩
    · cases h
    · cases h
    · exact (fin h).2 ι' ac' w' hp hi'
theorem fn_mD {np : Nat} {d : DC} {rs : List IRes} (hd : DM d) : DMono (func np d (fun e t k => denRes e t rs k)) := fun y ih a t n v t' n' hY hI h => by
  unfold func at h
  obtain ⟨_, h⟩ := bO_inv h ok_ne
  have key : ∀ {e1 : T AV} {t1 : H} {n1 : Nat}, n ≤ n1 → denRes e1 t1 rs (fun r => .ok (one r) t1 n1) = .ok v t' n' → n ≤ n' := by
    intro e1 t1 n1 h1 h2
    obtain ⟨_, h3⟩ := h_denRes ok_ne h2
    injection h3 with _ _ h3
    omega
  generalize hx : d y ih _ t n nor = x at h
  have hm : NE x → n ≤ top x := fun hn => by
    rw [← hx]; exact dm_nor hd hY hI (by rw [hx]; exact hn)
  cases x with
  | nor e1 t1 n1 => exact key (hm (by intro c h; cases h)) h
  | ret e1 t1 n1 => exact key (hm (by intro c h; cases h)) h
  | _ => cases h
theorem ent_top {f : FuncId} {fn : Func} {d : FnD} (hm : P.follows .mixedOrders = true) (h1 : P.funcs[f]? = some fn) (h2 : (fn.name != "runtime.NumGoroutine") = true) (h3 : (cFnT P L fn).map (fun p => denFT (nparams fn) p.1 p.2) = some d) : EntOK P tk f d := by
  obtain ⟨p, h4, rfl⟩ := Option.map_eq_some_iff.1 h3
  unfold cFnT at h4
  split at h4
  · rename_i c rs hb hrs
    split at h4
    · rename_i hcond
      injection h4 with h4
      subst h4
      simp only [Bool.and_eq_true, List.all_eq_true, decide_eq_true_eq] at hcond
      obtain ⟨⟨hL, hds⟩, hnp⟩ := hcond
      obtain ⟨nb, hc⟩ := top_code (tk := tk) (L := L) (N := fn.ntmps) hm c hds
      exact ⟨fn_mD (dmT _), fun y ih a t n v t' n' hYM hI hih h => ⟨enters_of h1 (by rw [hb]; rfl) h2, fun K ι w args => fn_okD h1 hb hrs hL hnp hc hYM hI hih h K ι w args⟩⟩
    · cases h4
  · cases h4
end Ev
namespace Ev
open Go
variable [Told] [TokV] [ToldOK]
variable {P : Program} {tk : Tok}
theorem objOk_same {ι : Rn} {w w' : World} {b : Nat} {o : AO} (hs : ∀ r : Nat, r < w.heap.size → w'.heap[r]? = w.heap[r]?) (h : ObjOk ι w b o) : ObjOk ι w' b o := by
  have hs' : ∀ (r : Nat) (ob : Obj), w.heap[r]? = some ob → w'.heap[r]? = some ob := fun r ob h => by rw [hs r (Array.getElem?_eq_some_iff.1 h).1]; exact h
  cases o with
  | row sz c n ep =>
    obtain ⟨g1, g2, g3, g4⟩ := h
    refine ⟨g1, g2, g3, fun e he => ?_⟩
    obtain ⟨rb, cap, cs, k1, ⟨ty, fz, q1, q2⟩, k3, k4⟩ := g4 e he
    exact ⟨rb, cap, cs, k1, ⟨ty, fz, hs' _ _ q1, q2⟩, k3, k4⟩
  | mp es ver =>
    obtain ⟨g1, g1v, r, ents, clock, g2, g2v, g3, g4⟩ := h
    exact ⟨g1, g1v, r, ents, clock, g2, g2v, hs' _ _ g3, g4⟩
def clo0 (s : FnD) : FnD := fun y ih a t n => match a with
  | .nil => .ok (.num 8 1) t n
  | a => s y ih a t n
theorem ent_clo0 {f : FuncId} {s : FnD} {tab : Bt FnD} {fuel : Nat} (hs : EntOK P tk f s) (ht : TabOK P tk tab) (h : isT (run tab fuel noY f .nil .leaf 0) = true) : EntOK P tk f (clo0 s) := by
  obtain ⟨t1, n1, h⟩ := isT_inv h
  constructor
  · intro y ih a t n v t' n' hY hI hd
    unfold clo0 at hd
    split at hd
    · injection hd with _ _ hd; omega
    · exact hs.mono _ _ _ _ _ _ _ _ hY hI hd
  · intro y ih a t n v t' n' hY hI hih hd
    unfold clo0 at hd
    split at hd
    · injection hd with e1 e2 e3
      subst e1; subst e2; subst e3
      obtain ⟨h1, h2⟩ := run_ok ht fuel _ _ _ _ _ _ _ _ noY_m h
      refine ⟨h1, fun K ι w args hyo hK hR hH hYT ha => ?_⟩
      have ha' : toT (rn0 tk) .nil = some args.toList := by simpa [toT] using ha
      refine CallsIn.mono (h2 (fun _ => none) (rn0 tk) w args (.no fun b x hb => hb) (fun b _ => rfl) (rel0 fun a x hx => ⟨(hR.arg a x hx).1, fun _ _ _ h => by cases h⟩) (fun b _ => M.get_leaf b) (fun b _ => rfl) ha') ?_
      rintro x w' ⟨V, ι', rfl, hV, hp⟩
      have hsame : ∀ r : Nat, r < w.heap.size → w'.heap[r]? = w.heap[r]? := fun r hr => hp.frm.block r hr (fun b e x h => by cases h) (fun b r h => by cases h)
      exact ⟨V, ι, rfl, by simpa [toV, numV] using hV, ⟨fun b o hb => objOk_same hsame (hR.obj b o hb), hR.non, hR.inj, hR.injm, hR.arg.keep (fun rb cs ty fz h1 _ => hsame rb (Array.getElem?_eq_some_iff.1 h1).1) fun b e x hx => .inl ⟨b, e, x, hx, rfl⟩⟩, .refl _ _, ⟨hp.frm.os, hp.frm.tape, hp.frm.output, hp.frm.size, fun r hr _ _ => hsame r hr⟩, hH, hYT⟩
    · exact hs.calls _ _ _ _ _ _ _ _ hY hI hih hd
end Ev
namespace Ev
open Go
variable [Told] [TokV] [ToldOK]
variable {P : Program} {tk : Tok}
def orcA (s : FnD) (res : Nat → Int → Option AV) : FnD := fun y ih a t n => match a with
  | .cons (.ref 12 b _ _ _ _) (.cons (.num 3 m) .nil) => match res b m with
    | some v => .ok v t n
    | none => .err 80
  | a => s y ih a t n
theorem ent_orcA {f : FuncId} {s : FnD} {res : Nat → Int → Option AV} (hs : EntOK P tk f s)
    (h : ∀ b m v, res b m = some v → ∃ x j, tk b = some (.i64, x) ∧ (∀ ι : Rn, toV ι v = some (.int .i64 j)) ∧ ∀ (y : Yh) (ih : Ih) (t : H) (n : Nat), s y ih (.cons (.num 3 x) (.cons (.num 3 m) .nil)) t n = .ok (.num 3 j) t n) : EntOK P tk f (orcA s res) := by
  constructor
  · intro y ih a t n v t' n' hY hI hd
    unfold orcA at hd
    split at hd
    · split at hd
      · injection hd with _ _ hd; omega
      · cases hd
    · exact hs.mono _ _ _ _ _ _ _ _ hY hI hd
  · intro y ih a t n v t' n' hY hI hih hd
    unfold orcA at hd
    split at hd
    · rename_i b _ _ _ _ m
      split at hd
      · rename_i v0 hj
        obtain ⟨x, j, hx, hv, hrun⟩ := h _ _ _ hj
        injection hd with e1 e2 e3
        subst e1; subst e2; subst e3
        obtain ⟨h1, h2⟩ := hs.calls _ _ _ _ _ _ _ _ hY hI hih (hrun y ih t n)
        refine ⟨h1, fun K ι w args hyo hK hR hH hYT ha => CallsIn.mono (h2 K ι w args hyo hK hR hH hYT ?_) ?_⟩
        · rw [← toT_tok (hyo.1 _ _ hx)]; exact ha
        · rintro e w' ⟨V, ι', rfl, g1, g2⟩
          rw [toV_int (by omega)] at g1
          injection g1 with g1; subst g1
          exact ⟨_, ι', rfl, hv ι', g2⟩
      · cases hd
    · exact hs.calls _ _ _ _ _ _ _ _ hY hI hih hd
end Ev
namespace Ev
open Go
variable [Told] [TokV] [ToldOK]
variable {P : Program} {tk : Tok}
theorem val_ok {tab : Bt FnD} {fuel : Nat} {f : FuncId} {a v : AV} {args : Array Value} {V : Value} {t : H} {n : Nat} (ht : TabOK P tk tab) (ha : toT (rn0 tk) a = some args.toList) (h : run tab fuel noY f a .leaf 0 = .ok v t n) (hv : ∀ ι : Rn, toV ι v = some V) (w : World) (hA : ArgAt (rn0 tk) w) :
    Enters P f ∧ CallsIn Fence.wide 0 P f args w fun e w' => e = .returned V ∧ Frm (rn0 tk) w w' := by
  obtain ⟨h1, h2⟩ := run_ok ht fuel _ _ _ _ _ _ _ _ noY_m h
  refine ⟨h1, CallsIn.mono (h2 (fun _ => none) (rn0 tk) w args (.no fun b x hb => hb) (fun b _ => rfl) (rel0 hA) (fun b _ => M.get_leaf b) (fun b _ => rfl) ha) ?_⟩
  rintro x w' ⟨V', ι', rfl, hV, hp⟩
  rw [hv ι'] at hV
  injection hV with hV; subst hV
  exact ⟨rfl, hp.frm⟩
def orcK (s : FnD) (res : Nat → Option AV) : FnD := fun y ih a t n => match a with
  | .cons (.ref 13 e _ _ _ _) .nil => match res e with
    | some v => .ok v t n
    | none => .err 80
  | a => s y ih a t n
theorem ent_orcK {f : FuncId} {s : FnD} {res : Nat → Option AV} (hs : EntOK P tk f s)
    (h : ∀ e v, res e = some v → ∃ x V, TokV.tk e = some (.i64, x) ∧ (∀ ι : Rn, toV ι v = some V) ∧ Enters P f ∧ ∀ w, CallsIn Fence.wide 0 P f #[.int .i64 x] w fun r w' => r = .returned V ∧ Frm (rn0 tk) w w') : EntOK P tk f (orcK s res) := by
  constructor
  · intro y ih a t n v t' n' hY hI hd
    unfold orcK at hd
    split at hd
    · split at hd
      · injection hd with _ _ hd; omega
      · cases hd
    · exact hs.mono _ _ _ _ _ _ _ _ hY hI hd
  · intro y ih a t n v t' n' hY hI hih hd
    unfold orcK at hd
    split at hd
    · rename_i e _ _ _ _
      split at hd
      · rename_i v0 hj
        obtain ⟨x, V, hx, hv, hE, hrun⟩ := h _ _ hj
        injection hd with e1 e2 e3
        subst e1; subst e2; subst e3
        refine ⟨hE, fun K ι w args hyo hK hR hH hYT ha => ?_⟩
        have hargs : args = #[.int .i64 x] := by
          simp only [toT, toV, refV, hx, Option.map_some, Option.bind_some] at ha
          injection ha with ha
          apply Array.ext'; simpa using ha.symm
        subst hargs
        refine CallsIn.mono (hrun w) ?_
        rintro r w' ⟨rfl, hF⟩
        have hsame : ∀ r : Nat, r < w.heap.size → w'.heap[r]? = w.heap[r]? := fun r hr => hF.block r hr (fun b e x h => by cases h) (fun b r h => by cases h)
        exact ⟨V, ι, rfl, hv ι, ⟨fun b o hb => objOk_same hsame (hR.obj b o hb), hR.non, hR.inj, hR.injm, hR.arg.keep (fun rb cs ty fz h1 _ => hsame rb (Array.getElem?_eq_some_iff.1 h1).1) fun b e x hx => .inl ⟨b, e, x, hx, rfl⟩⟩, .refl _ _, ⟨hF.os, hF.tape, hF.output, hF.size, fun r hr _ _ => hsame r hr⟩, hH, hYT⟩
      · cases hd
    · exact hs.calls _ _ _ _ _ _ _ _ hY hI hih hd
end Ev
