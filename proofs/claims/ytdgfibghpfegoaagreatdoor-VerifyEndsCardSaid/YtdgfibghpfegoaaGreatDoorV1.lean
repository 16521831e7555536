import Derived.Test.YtdgfibghpfegoaaGreatDoorV0
import Derived.LoopNIn
/- An evaluator over abstract values and heaps, and the proof that what it answers the calls of the model answer, on whatever tape: part 1. Conditions: none of its own. -/
set_option linter.unusedVariables false
set_option linter.unusedSimpArgs false
/- 'append' (2). -/
namespace Ev
open Go
variable {ι : Rn} {P : Program} {w : World} {o : Oper} {r : Out} {t tx ty el : TypeId} {ac : Act} {g : G} {l e : T AV} {th : H} {v x y : AV} {n : Nat} {k : KH} {KK : G} {i : TypeInfo} {z : Value} {Y : Value} {cnt : Nat} {news : List Value}
theorem addB_blk {b ep : Nat} {q : Nat × Nat × Nat} (b' e' : Nat) : (ι.addB b ep q).blk b' e' = if b' = b ∧ e' = ep then some q else ι.blk b' e' := rfl
theorem fill_new {tg : Nat} {l : AV} {vs : List Value} {off : Nat} {c : T Cell} {k : Nat} {x : Cell} (hl : toT ι l = some vs) (h : (fillC tg l off c).get k = some x) :
    (off ≤ k ∧ k < off + vs.length ∧ x.tag = tg ∧ ∃ V, toV ι x.v = some V ∧ vs[k - off]? = some V) ∨ ((k < off ∨ off + vs.length ≤ k) ∧ c.get k = some x) := by
  rw [fillC_get] at h
  have hlen := (toT_some hl).2.1
  by_cases h1 : off ≤ k
  · rw [if_pos h1] at h
    split at h
    · rename_i a ha
      injection h with h; subst h
      have := (List.getElem?_eq_some_iff.1 ha).1
      obtain ⟨V, hV, hi⟩ := (toT_some hl).2.2 _ _ ha
      exact .inl ⟨h1, by omega, rfl, V, hV, hi⟩
    · rename_i ha
      rw [List.getElem?_eq_none_iff] at ha
      exact .inr ⟨.inr (by omega), h⟩
  · rw [if_neg h1] at h; exact .inr ⟨.inl (by omega), h⟩
/-- a new epoch of a row that stays -/
theorem epoch_same {b ep sz nc nc' off : Nat} {c : T Cell} {l : AV} {vs : List Value} {q : Nat × Nat × Nat} (hR : Rel ι g w) (hg : g b = some (.row sz c nc ep)) (hz : ι.blk b ep = some q) (hl : toT ι l = some vs) (hc : vs.all isCell = true)
    (hnc : nc ≤ nc') (hn : off + vs.length ≤ nc') {cs : Array Value} (hra : RowAt w q.1 cs) (hle : off + vs.length ≤ cs.size) :
    Rel (ι.addB b (ep + 1) q) (upd g b (.row sz (fillC (ep + 1) l off c) nc' (ep + 1))) (w.setCells q.1 off vs) ∧ Ext w.heap.size ι (ι.addB b (ep + 1) q) ∧ Frm ι w (w.setCells q.1 off vs) := by
  obtain ⟨g1, g2, g3, g4⟩ := hR.obj b _ hg
  have hnone := g2 (ep + 1) (by omega)
  have hle' : ι.le (ι.addB b (ep + 1) q) := addB_le hnone
  obtain ⟨cs', h1, h2, h3, h4⟩ := setCells_row vs off w cs hra hle
  have out : ∀ k, (k < off ∨ off + vs.length ≤ k) → cs'[k]? = cs[k]? := by
    intro k hk
    rw [h3]
    by_cases h5 : off ≤ k
    · rw [if_pos h5, List.getElem?_eq_none (by omega)]
    · rw [if_neg h5]
  have uniq : ∀ {cs0 : Array Value}, RowAt w q.1 cs0 → cs0 = cs := by
    rintro cs0 ⟨ty, fz, q1, _⟩
    obtain ⟨ty', fz', q2, _⟩ := hra
    rw [q1] at q2; injection q2 with q2; injection q2
  refine ⟨⟨?_, ?_, ?_, hR.injm⟩, ⟨⟨hle', fun b' e' y hy => ?_, fun _ _ h => .inl h⟩, rfl⟩, frm_same hz h4⟩
  · intro b' ob hob
    simp only [upd] at hob
    split at hob
    · rename_i e1; subst e1
      injection hob with hob; subst hob
      refine ⟨g1, fun e he => ?_, fun k x hk => ?_, fun e he => ?_⟩
      · rw [addB_blk, if_neg (by omega)]; exact g2 e (by omega)
      · rcases fill_new hl hk with ⟨a1, a2, a3, _⟩ | ⟨_, a2⟩
        · exact ⟨by omega, by omega⟩
        · have := g3 k x a2; exact ⟨by omega, by omega⟩
      · by_cases hee : e = ep + 1
        · subst hee
          obtain ⟨rb, cap, cs0, k1, k2, k3, k4⟩ := g4 ep (Nat.le_refl _)
          rw [hz] at k1; injection k1 with k1; subst k1
          have := uniq k2; subst this
          refine ⟨rb, cap, cs', by rw [addB_blk]; simp, h1, by rw [h2]; exact k3, fun k tg v hk ht => ?_⟩
          rcases fill_new hl hk with ⟨a1, a2, a3, V, a4, a5⟩ | ⟨a1, a2⟩
          · refine ⟨V, toV_mono hle' _ _ a4, ?_, by rw [h3, if_pos a1, a5]⟩
            simp only [List.all_eq_true] at hc; exact hc V (List.mem_of_getElem? a5)
          · have := (g3 k _ a2).2
            obtain ⟨V, b1, b2, b3⟩ := k4 k tg v a2 this
            exact ⟨V, toV_mono hle' _ _ b1, b2, by rw [out k a1]; exact b3⟩
        · obtain ⟨rb, cap, cs0, k1, k2, k3, k4⟩ := g4 e (by omega)
          have hk1 : (ι.addB b (ep + 1) q).blk b e = some (rb, cap, sz) := by rw [addB_blk, if_neg (by omega)]; exact k1
          by_cases hrb : rb = q.1
          · subst hrb
            have := uniq k2; subst this
            refine ⟨q.1, cap, cs', hk1, h1, by rw [h2]; exact k3, fun k tg v hk ht => ?_⟩
            rcases fill_new hl hk with ⟨a1, a2, a3, V, a4, a5⟩ | ⟨a1, a2⟩
            · simp only at a3; omega
            · obtain ⟨V, b1, b2, b3⟩ := k4 k tg v a2 ht
              exact ⟨V, toV_mono hle' _ _ b1, b2, by rw [out k a1]; exact b3⟩
          · refine ⟨rb, cap, cs0, hk1, ?_, k3, fun k tg v hk ht => ?_⟩
            · obtain ⟨ty, fz, q1, q2⟩ := k2
              exact ⟨ty, fz, by rw [h4.other rb hrb]; exact q1, q2⟩
            · rcases fill_new hl hk with ⟨a1, a2, a3, V, a4, a5⟩ | ⟨a1, a2⟩
              · simp only at a3; omega
              · obtain ⟨V, b1, b2, b3⟩ := k4 k tg v a2 ht
                exact ⟨V, toV_mono hle' _ _ b1, b2, b3⟩
    · rename_i e1
      have hob' := hR.obj b' ob hob
      cases ob with
      | row sz' c0 n0 ep0 =>
        obtain ⟨d1, d2, d3, d4⟩ := hob'
        have hb' : ∀ e, (ι.addB b (ep + 1) q).blk b' e = ι.blk b' e := fun e => by rw [addB_blk, if_neg (by rintro ⟨h, _⟩; exact e1 h.symm)]
        refine ⟨d1, fun e he => by rw [hb']; exact d2 e he, d3, fun e he => ?_⟩
        obtain ⟨rb, cap, cs0, k1, ⟨ty, fz, q1, q2⟩, k3, k4⟩ := d4 e he
        have : rb ≠ q.1 := fun e2 => e1 (hR.inj b ep b' e q _ hz k1 e2.symm)
        exact ⟨rb, cap, cs0, by rw [hb']; exact k1, ⟨ty, fz, by rw [h4.other rb this]; exact q1, q2⟩, k3, fun k tg v hk ht => let ⟨V, b1, b2, b3⟩ := k4 k tg v hk ht; ⟨V, toV_mono hle' _ _ b1, b2, b3⟩⟩
      | mp es =>
        obtain ⟨d1, rr, ents, clock, d2, d3, d4⟩ := hob'
        have : rr ≠ q.1 := fun e2 => mp_blk hR d2 hz e2.symm
        exact ⟨fun e => by rw [addB_blk, if_neg (by rintro ⟨h, _⟩; exact e1 h.symm)]; exact d1 e, rr, ents, clock, d2, by rw [h4.other rr this]; exact d3, MapOk.mono hle' _ _ d4⟩
  · intro b' hb'
    simp only [upd] at hb'
    split at hb'
    · cases hb'
    · rename_i e1
      obtain ⟨d1, d2⟩ := hR.non b' hb'
      exact ⟨d1, fun e => by rw [addB_blk, if_neg (by rintro ⟨h, _⟩; exact e1 h.symm)]; exact d2 e⟩
  · intro b1 e1 b2 e2 x1 x2 hx1 hx2 he
    rw [addB_blk] at hx1 hx2
    split at hx1 <;> split at hx2
    · rename_i a1 a2; rw [a1.1, a2.1]
    · rename_i a1 _; injection hx1 with hx1; subst hx1; rw [a1.1]; exact hR.inj _ _ _ _ _ _ hz hx2 he
    · rename_i _ a2; injection hx2 with hx2; subst hx2; rw [a2.1]; exact hR.inj _ _ _ _ _ _ hx1 hz he
    · exact hR.inj _ _ _ _ _ _ hx1 hx2 he
  · rw [addB_blk] at hy
    split at hy
    · injection hy with hy; subst hy; exact .inl ⟨b, ep, q, hz, rfl⟩
    · exact .inl ⟨b', e', y, hy, rfl⟩
/-- a new epoch in a new row -/
theorem epoch_new {b ep sz nc nc' off cap' : Nat} {c : T Cell} {l : AV} {vs : List Value} {q : Nat × Nat × Nat} {ty : TypeId} {arr : Array Value} (hR : Rel ι g w) (hg : g b = some (.row sz c nc ep)) (hz : ι.blk b ep = some q) (hl : toT ι l = some vs) (hc : vs.all isCell = true)
    (hnc : nc ≤ nc') (hn : off + vs.length = nc') {cs : Array Value} (hra : RowAt w q.1 cs) (hnew : ∀ j, j < vs.length → arr[off + j]? = vs[j]?) (hold : ∀ j, j < off → arr[j]? = cs[j]?) (hsz : arr.size = cap' * sz) :
    Rel (ι.addB b (ep + 1) (w.heap.size, cap', sz)) (upd g b (.row sz (fillC (ep + 1) l off c) nc' (ep + 1))) (w.alloc (.cells arr ty)) ∧ Ext w.heap.size ι (ι.addB b (ep + 1) (w.heap.size, cap', sz)) ∧ Frm ι w (w.alloc (.cells arr ty)) := by
  obtain ⟨g1, g2, g3, g4⟩ := hR.obj b _ hg
  have hnone := g2 (ep + 1) (by omega)
  have hle' : ι.le (ι.addB b (ep + 1) (w.heap.size, cap', sz)) := addB_le hnone
  have uniq : ∀ {cs0 : Array Value}, RowAt w q.1 cs0 → cs0 = cs := by
    rintro cs0 ⟨ty, fz, q1, _⟩
    obtain ⟨ty', fz', q2, _⟩ := hra
    rw [q1] at q2; injection q2 with q2; injection q2
  refine ⟨⟨?_, ?_, ?_, hR.injm⟩, ext_addB hnone (Nat.le_refl _), frm_push _⟩
  · intro b' ob hob
    simp only [upd] at hob
    split at hob
    · rename_i e1; subst e1
      injection hob with hob; subst hob
      refine ⟨g1, fun e he => ?_, fun k x hk => ?_, fun e he => ?_⟩
      · rw [addB_blk, if_neg (by omega)]; exact g2 e (by omega)
      · rcases fill_new hl hk with ⟨a1, a2, a3, _⟩ | ⟨_, a2⟩
        · exact ⟨by omega, by omega⟩
        · have := g3 k x a2; exact ⟨by omega, by omega⟩
      · by_cases hee : e = ep + 1
        · subst hee
          obtain ⟨rb, cap, cs0, k1, k2, k3, k4⟩ := g4 ep (Nat.le_refl _)
          rw [hz] at k1; injection k1 with k1; subst k1
          have := uniq k2; subst this
          refine ⟨w.heap.size, cap', arr, by rw [addB_blk]; simp, ⟨ty, (0, 0), by show (w.heap.push _)[w.heap.size]? = _; simp, fun k _ => by simp⟩, hsz, fun k tg v hk ht => ?_⟩
          rcases fill_new hl hk with ⟨a1, a2, a3, V, a4, a5⟩ | ⟨a1, a2⟩
          · refine ⟨V, toV_mono hle' _ _ a4, ?_, ?_⟩
            · simp only [List.all_eq_true] at hc; exact hc V (List.mem_of_getElem? a5)
            · have := hnew (k - off) (by omega)
              rw [show off + (k - off) = k by omega] at this
              rw [this]; exact a5
          · have := (g3 k _ a2)
            obtain ⟨V, b1, b2, b3⟩ := k4 k tg v a2 this.2
            exact ⟨V, toV_mono hle' _ _ b1, b2, by rw [hold k (by omega)]; exact b3⟩
        · obtain ⟨rb, cap, cs0, k1, k2, k3, k4⟩ := g4 e (by omega)
          refine ⟨rb, cap, cs0, by rw [addB_blk, if_neg (by omega)]; exact k1, rowAt_push k2, k3, fun k tg v hk ht => ?_⟩
          rcases fill_new hl hk with ⟨a1, a2, a3, V, a4, a5⟩ | ⟨a1, a2⟩
          · simp only at a3; omega
          · obtain ⟨V, b1, b2, b3⟩ := k4 k tg v a2 ht
            exact ⟨V, toV_mono hle' _ _ b1, b2, b3⟩
    · rename_i e1
      exact objOk_push hle' (fun e => by rw [addB_blk, if_neg (by rintro ⟨h, _⟩; exact e1 h.symm)]) rfl (hR.obj b' ob hob)
  · intro b' hb'
    simp only [upd] at hb'
    split at hb'
    · cases hb'
    · rename_i e1
      obtain ⟨d1, d2⟩ := hR.non b' hb'
      exact ⟨d1, fun e => by rw [addB_blk, if_neg (by rintro ⟨h, _⟩; exact e1 h.symm)]; exact d2 e⟩
  · intro b1 e1 b2 e2 x1 x2 hx1 hx2 he
    rw [addB_blk] at hx1 hx2
    split at hx1 <;> split at hx2
    · rename_i a1 a2; rw [a1.1, a2.1]
    · injection hx1 with hx1; subst hx1; have := blk_lt hR hx2; simp only at he; omega
    · injection hx2 with hx2; subst hx2; have := blk_lt hR hx1; simp only at he; omega
    · exact hR.inj _ _ _ _ _ _ hx1 hx2 he
end Ev
/- 'append' (3). -/
namespace Ev
open Go
variable {ι : Rn} {P : Program} {w : World} {o : Oper} {r : Out} {t tx ty el : TypeId} {ac : Act} {g : G} {l e : T AV} {th : H} {v x y : AV} {n : Nat} {k : KH} {KK : G} {i : TypeInfo} {z : Value} {Y : Value} {cnt : Nat} {news : List Value}
theorem HT.next {ob : AO} (h : HT th n) : HT (th.set ob n) (n + 1) := fun j hj => by
  rw [T.get_set_ne _ _ _ _ (by omega)]; exact h j (by omega)
theorem exec_app {A B : Operand} {c : Call} {V : Value} {w' : World} (ho : o.op = .call c) (hc : c.callee = .builtin .append) (hargs : c.args.toList = [A, B])
    (h : (Builtin.append_ c.argTypes o.type #[ac.eval A, ac.eval B]).run P w = .ok V w') : (execOp ac.eval o).run P w = .ok (.value V) w' := by
  have hargs' : c.args = #[A, B] := by rw [← Array.toArray_toList (xs := c.args), hargs]
  unfold execOp; rw [ho]
  simp only [resolve, hc, Sem.run_bind, Sem.run_pure, Result.andThen_ok, invoke]
  rw [hargs']
  simp [builtin, h]
/-- a new row -/
theorem fresh_ok {sz bytes need : Nat} {f : AV} {olds : List Value} {base : Option Addr} {sLen sCap : Nat} {A B : Operand} {c : Call} (ho : o.op = .call c) (hc : c.callee = .builtin .append) (hargs : c.args.toList = [A, B]) (hat : c.argTypes = #[t, tx])
    (hsi : i.size = sz) (hbi : i.bytes = bytes) (hby : bytes ≠ 0) (hzs : z.cells.size = sz)
    (hA : ac.eval A = .slice base sLen sCap) (hB : ac.eval B = Y) (ha : Adds P t tx o.type el i z Y cnt news w) (hR : Rel ι (un th KK) w) (hH : HT th n) (hr : NE r)
    (hold : (Builtin.firstCells i.size sLen (.slice base sLen sCap)).run P w.drew = .ok olds.toArray w.drew) (hol : olds.length = sLen * sz) (hf : toT ι f = some (olds ++ news)) (hfc : (olds ++ news).all isCell = true)
    (hneed : need = sLen + cnt) (hg : sCap < need) (hfit : need * bytes ≤ 1048576) (h : fresh sz f need th n k = r) : OkW ι KK P w ac.eval o n k r := by
  subst hneed
  unfold fresh at h
  rw [newRow_eq] at h
  have hmx : sLen + cnt ≤ 1048576 := by have := Nat.le_mul_of_pos_right (sLen + cnt) (Nat.pos_of_ne_zero hby); omega
  have hrun := ha.grow base sLen sCap olds hold hg (by omega) (by rw [hbi]; exact nextcap_fit hg hby hfit)
  have hcap := grownCap_ge w (sLen + cnt) sCap el
  generalize grownCap w (sLen + cnt) sCap el = cap at hrun hcap
  have hlen : (olds ++ news).length = (sLen + cnt) * sz := by rw [List.length_append, hol, ha.len, hsi, Nat.add_mul]
  refine ⟨_, _, _, h, by omega, hH.next, fun hK => ?_⟩
  have hn : un th KK n = none := un_none hH hK (by omega)
  obtain ⟨g1, g2, g3⟩ := alloc_row (ty := el) (fz := (0, 0)) (cap := cap) (sz := sz) (nc := (sLen + cnt) * sz) (arr := (olds ++ news).toArray ++ Builtin.zeroCells z.cells (cap - (sLen + cnt))) hR.drew hn hf hfc (fun j u hu => by
      have hlt := (List.getElem?_eq_some_iff.1 hu).1
      rw [Array.getElem?_append_left (by simpa using hlt)]; simpa using hu) (by
      rw [Array.size_append, zeroCells_size, hzs]
      simp only [List.size_toArray, hlen]
      rw [← Nat.add_mul]; congr 1; omega) (by rw [hlen]; exact Nat.le_refl _) (fun k _ => by simp)
  refine ⟨_, _, _, exec_app ho hc hargs (by rw [hat, hA, hB]; exact hrun), .inr ⟨_, rfl, ?_⟩, ⟨by rw [un_set]; exact g1, g2, g3.of_drew⟩⟩
  have : (0 : Nat) + sLen + cnt ≤ cap := by omega
  simp only [toV, refV, Rn.addB, true_and, if_true, Option.bind_some, Nat.zero_div, Nat.add_zero, hcap, Nat.sub_zero]
  rfl
theorem appTo_ok {sz bytes : Nat} {s new : AV} {A B : Operand} {c : Call} (ho : o.op = .call c) (hc : c.callee = .builtin .append) (hargs : c.args.toList = [A, B]) (hat : c.argTypes = #[t, tx])
    (hsi : i.size = sz) (hbi : i.bytes = bytes) (hby : bytes ≠ 0) (hzs : z.cells.size = sz) (hsz0 : sz ≠ 0)
    (hB : ac.eval B = Y) (ha : Adds P t tx o.type el i z Y cnt news w) (hR : Rel ι (un th KK) w) (hH : HT th n) (hr : NE r) (hs : toV ι s = some (ac.eval A)) (hnew : toT ι new = some news) (hnc : news.all isCell = true)
    (h : appTo sz bytes s new cnt th n k = r) : OkW ι KK P w ac.eval o n k r := by
  obtain ⟨g, b, ep, off, len, cap, rfl, h1⟩ := vref_inv h hr
  have hexec : ∀ {V : Value} {w' : World}, (Builtin.append_ #[t, tx] o.type #[ac.eval A, Y]).run P w = .ok V w' → (execOp ac.eval o).run P w = .ok (.value V) w' := fun h => exec_app ho hc hargs (by rw [hat, hB]; exact h)
  have hlen : news.length = cnt * sz := by rw [ha.len, hsi]
  have hfr : ∀ {W : World} {rb : Nat} {cs : Array Value}, RowAt W rb cs → ∀ j, j < cs.size → W.frozen? ⟨rb, j, none⟩ = false := by
    intro W rb cs hra j hj
    obtain ⟨ty, fz, q1, q2⟩ := hra
    simp only [World.frozen?, q1]; exact q2 j hj
  rcases isSl_cases h1 with ⟨hg, h2⟩ | ⟨_, _, h2⟩
  · obtain ⟨zz, C, hz, hV, hC3, hC4⟩ := sl_val hg hs
    have hcapC : cap ≤ C := by
      rcases hg with rfl | rfl
      · rw [hC3 rfl]; exact Nat.le_refl _
      · have := hC4 rfl; omega
    rw [forceN_eq] at h2
    rcases bO_cases h2 with ⟨h3, h4⟩ | ⟨h3, h4⟩
    · -- in place
      have h3 : len + cnt ≤ cap := Nat.le_of_ble_eq_true h3
      obtain ⟨sz', c0, nc, e', hgt, h5⟩ := withRow_inv (show withRow th b _ = r from h4) hr
      obtain ⟨h6, h7⟩ := bO_inv h5 hr
      obtain rfl := beq_nat h6
      obtain ⟨c', h8, h9, h10⟩ := storeC_inv hr h7
      rw [T.seq_eq] at h8
      obtain ⟨cs, hsz, _, hra, hcs, hce⟩ := row_at hR (un_get hgt) hz
      have hlt : ∀ j, j < news.length → off + len * sz + j < cs.size := by
        intro j hj
        obtain ⟨x, hx⟩ := Option.isSome_iff_exists.1 (h9 j (by rw [← (toT_some hnew).2.1]; exact hj))
        obtain ⟨V, _, _, hV⟩ := hce _ x.tag x.v (by rw [hx]) ((hR.obj _ _ (un_get hgt)).2.2.1 _ _ hx).2
        exact (Array.getElem?_eq_some_iff.1 hV).1
      obtain ⟨s1, s2, s3⟩ := store_sem (P := P) hR (un_get hgt) hz hnew hnc h9 h10
      have hrun := ha.room zz.1 off len C (by omega) (fun j hj => by
        rw [cell?_row hra, hsi]; simp [hlt j hj]) (fun j hj => by rw [hsi]; exact hfr hra _ (hlt j hj))
      rw [hsi] at hrun
      refine ⟨_, _, _, h8, Nat.le_refl _, hH.set (hH.lt hgt), fun _ => ⟨_, _, ι, hexec (by rw [hV]; exact hrun), .inr ⟨_, rfl, ?_⟩, ⟨by rw [un_set]; exact s2, Ext.self, s3⟩⟩⟩
      rcases hg with rfl | rfl
      · rw [hC3 rfl]; simp [toV, refV, hz]
      · obtain ⟨q1, q2⟩ := hC4 rfl
        simp [toV, refV, hz, q1, q2]
    · have h3 : cap < len + cnt := by
        rcases Nat.lt_or_ge cap (len + cnt) with h' | h'
        · exact h'
        · rw [Nat.ble_eq_true_of_le (show Nat.add len cnt ≤ cap from h')] at h3; cases h3
      obtain ⟨h5, h6⟩ := bO_inv h4 hr
      have h5 : (len + cnt) * bytes ≤ 1048576 := Nat.le_of_ble_eq_true h5
      rcases bO_cases h6 with ⟨h7, h8⟩ | ⟨h7, h8⟩
      · -- of known capacity
        obtain rfl := beq_nat h7
        obtain ⟨sz', c0, nc, e', hgt, h9⟩ := withRow_inv h8 hr
        obtain ⟨cs, hsz, _, hra, hcs, hce⟩ := row_at hR (un_get hgt) hz
        obtain ⟨fo, olds, h10, h11, h12, h13, h14⟩ := readC_inv hce hr h9
        have hC := hC3 rfl
        refine fresh_ok ho hc hargs hat hsi hbi hby hzs hV hB ha hR hH hr ?_ h11 (toT_append h10 hnew) (by simp [h12, hnc]) rfl (by omega) h5 h14
        have hra' : RowAt w.drew zz.1 cs := hra
        have := load_list (P := P) hra' h13
        rw [h11, ← hsi] at this
        exact this
      · -- of unknown capacity
        have hg4 : g = 4 := by
          rcases hg with rfl | rfl
          · simp at h7
          · rfl
        subst hg4
        obtain ⟨h9, h10'⟩ := bO_inv h8 hr
        obtain ⟨h9', h10⟩ := bO_inv h10' hr
        have h9' := Nat.le_of_ble_eq_true h9'
        obtain rfl := beq_nat h9
        obtain ⟨sz', c0, nc, e', hgt, h11⟩ := withRow_inv h10 hr
        obtain ⟨h12, h13⟩ := bO_inv h11 hr
        obtain ⟨h14, h15⟩ := bO_inv h13 hr
        obtain ⟨h16, h17⟩ := bO_inv h15 hr
        obtain rfl := beq_nat h12
        obtain rfl := beq_nat h14
        have h16 : nc ≤ (len + cnt) * sz := Nat.le_of_ble_eq_true h16
        rw [forceN_eq, forceN_eq, T.seq_eq, T.seq_eq] at h17
        obtain ⟨q1, q2⟩ := hC4 rfl
        obtain ⟨cs, hsz, _, hra, hcs, hce⟩ := row_at hR (un_get hgt) hz
        simp only [Nat.zero_div, Nat.sub_zero, Nat.add_zero] at q1 q2
        subst q2
        refine ⟨_, _, _, h17, Nat.le_refl _, hH.set (hH.lt hgt), fun _ => ?_⟩
        by_cases hroom : len + cnt ≤ zz.2.1
        · have hle : len * sz + news.length ≤ cs.size := by
            rw [hlen, hcs, ← Nat.add_mul]; exact Nat.mul_le_mul_right _ hroom
          obtain ⟨s1, s2, s3⟩ := epoch_same (off := len * sz) (nc' := (len + cnt) * sz) hR (un_get hgt) hz hnew hnc h16 (by rw [hlen, ← Nat.add_mul]; exact Nat.le_refl _) hra hle
          have hrun := ha.room zz.1 0 len zz.2.1 hroom (fun j hj => by
            rw [cell?_row hra, hsi]
            have : len * sz + j < cs.size := by omega
            simp [this]) (fun j hj => by rw [hsi]; exact hfr hra _ (by omega))
          rw [hsi, Nat.zero_add] at hrun
          refine ⟨_, _, _, hexec (by rw [hV]; exact hrun), .inr ⟨_, rfl, ?_⟩, ⟨by rw [un_set]; exact s1, s2, s3⟩⟩
          simp only [toV, refV, Rn.addB, true_and, if_true, Option.bind_some, Nat.zero_div, Nat.add_zero, Nat.sub_zero]
          rw [if_pos (by exact hroom)]
          rfl
        · have hg' : zz.2.1 < len + cnt := by omega
          have hlz : len * sz ≤ cs.size := by
            rw [hcs]; exact Nat.mul_le_mul_right _ (by omega)
          let olds : List Value := cs.toList.take (len * sz)
          have hol : olds.length = len * sz := by simp [olds]; omega
          have hog : ∀ j, j < len * sz → olds[j]? = cs[j]? := fun j hj => by simp [olds, List.getElem?_take, hj]
          have hra' : RowAt w.drew zz.1 cs := hra
          have hload := load_list (P := P) (off := 0) (vs := olds) hra' (fun j v hv => by
            have := (List.getElem?_eq_some_iff.1 hv).1
            rw [Nat.zero_add, ← hog j (by omega)]; exact hv)
          have hmx : len + cnt ≤ 1048576 := by have := Nat.le_mul_of_pos_right (len + cnt) (Nat.pos_of_ne_zero hby); omega
          have hrun := ha.grow (some ⟨zz.1, 0, none⟩) len zz.2.1 olds (by rw [hol, ← hsi] at hload; exact hload) hg' (by omega) (by rw [hbi]; exact nextcap_fit hg' hby h5)
          have hcap := grownCap_ge w (len + cnt) zz.2.1 el
          generalize grownCap w (len + cnt) zz.2.1 el = cap' at hrun hcap
          obtain ⟨s1, s2, s3⟩ := epoch_new (off := len * sz) (nc' := (len + cnt) * sz) (cap' := cap') (ty := el) (arr := (olds ++ news).toArray ++ Builtin.zeroCells z.cells (cap' - (len + cnt))) hR.drew (un_get hgt) hz hnew hnc h16
            (by rw [hlen, ← Nat.add_mul]) hra' (fun j hj => by
              rw [Array.getElem?_append_left (by simp [hol]; omega)]
              simp [List.getElem?_append_right, hol]) (fun j hj => by
              rw [Array.getElem?_append_left (by simp [hol]; omega), ← hog j hj]
              simp [List.getElem?_append_left, hol, hj]) (by
              rw [Array.size_append, zeroCells_size, hzs]
              simp only [List.size_toArray, List.length_append, hol, hlen]
              rw [← Nat.add_mul, ← Nat.add_mul]; congr 1; omega)
          refine ⟨_, _, _, hexec (by rw [hV]; exact hrun), .inr ⟨_, rfl, ?_⟩, ⟨by rw [un_set]; exact s1, s2, s3.of_drew⟩⟩
          simp only [toV, refV, Rn.addB, true_and, if_true, Option.bind_some, Nat.zero_div, Nat.add_zero, Nat.sub_zero]
          rw [if_pos (by exact hcap)]
          rfl
  · have hend : ∀ {A' : Option Addr} {C : Nat}, ac.eval A = .slice A' 0 C → cnt = 0 → k (.ref g b ep off len cap) th n = r → OkW ι KK P w ac.eval o n k r := by
      intro A' C hV h0 hk
      refine ⟨_, _, _, hk, Nat.le_refl _, hH, fun _ => ⟨_, _, ι, hexec (by rw [hV]; exact ha.none h0 A' 0 C (Nat.zero_le _)), .inr ⟨_, rfl, by rw [hs, hV]⟩, Post.refl hR⟩⟩
    have hfresh : ∀ {A' : Option Addr}, ac.eval A = .slice A' 0 0 → cnt ≠ 0 → cnt * bytes ≤ 1048576 → fresh sz new cnt th n k = r → OkW ι KK P w ac.eval o n k r := by
      intro A' hV h0 hfit hk
      refine fresh_ok (olds := []) (sLen := 0) (sCap := 0) ho hc hargs hat hsi hbi hby hzs hV hB ha hR hH hr ?_ (by simp) (by simpa using hnew) (by simpa using hnc) (by omega) (by omega) hfit hk
      cases A' with
      | none => exact run_firstCells_none w.drew _ _ _ _
      | some a => exact run_firstCells_some w.drew _ 0 a 0 0 [] (by simp) (by simp)
    rcases bO_cases h2 with ⟨h3, h4⟩ | ⟨h3, h4⟩
    · have h3 := beq_nat h3
      rcases bO_cases h4 with ⟨h5, h6⟩ | ⟨_, h5⟩
      · obtain ⟨A', C, hV, _, _⟩ := sl_end (.inl (beq_nat h5)) hs
        exact hend hV h3 h6
      · rcases bO_cases h5 with ⟨h6, h7⟩ | ⟨_, h6⟩
        · obtain ⟨A', C, hV, _, _⟩ := sl_end (.inr (.inl (beq_nat h6))) hs
          exact hend hV h3 h7
        · obtain ⟨h7, h8⟩ := bO_inv h6 hr
          obtain ⟨A', C, hV, _, _⟩ := sl_end (.inr (.inr (beq_nat h7))) hs
          exact hend hV h3 h8
    · have h3 := beq_ff h3
      obtain ⟨h5, h6⟩ := bO_inv h4 hr
      have h5 : cnt * bytes ≤ 1048576 := Nat.le_of_ble_eq_true h5
      rcases bO_cases h6 with ⟨h7, h8⟩ | ⟨_, h7⟩
      · obtain ⟨A', C, hV, hA, _⟩ := sl_end (.inl (beq_nat h7)) hs
        rw [(hA (beq_nat h7)).2] at hV
        exact hfresh hV h3 h5 h8
      · obtain ⟨h8, h9⟩ := bO_inv h7 hr
        obtain ⟨A', C, hV, _, hA⟩ := sl_end (.inr (.inr (beq_nat h8))) hs
        rw [(hA (beq_nat h8)).1] at hV
        exact hfresh hV h3 h5 h9
end Ev
/- 'append' (4). -/
namespace Ev
open Go
variable {ι : Rn} {P : Program} {w : World} {o : Oper} {r : Out} {t tx ty el : TypeId} {ac : Act} {l e : T AV} {th : H} {v x y : AV} {n : Nat} {k : KH} {KK : G}
theorem oneCell_of {vs : List Value} (h : vs.all isCell = true) : ∀ v ∈ vs, v.oneCell' = true := by
  intro v hv
  simp only [List.all_eq_true] at h
  have := h v hv
  cases v <;> first | rfl | simp [isCell] at this
/-- the elements' type, as 'append' asks it -/
structure ElTy (P : Program) (el : TypeId) (sz bytes : Nat) (zc : AV) (i : TypeInfo) (z : Value) : Prop where
  hi : P.info? el = some i
  hz : i.zero = some z
  size : i.size = sz
  bytes : i.bytes = bytes
  cells : z.cells.size = sz
theorem elTy {sz bytes : Nat} {zc : AV} (hs : szOf P el = some sz) (hb : byOf P el = some bytes) (hz : zcOf P el = some zc) (hz0 : lenA zc = sz) : ∃ i z, ElTy P el sz bytes zc i z := by
  obtain ⟨i, z, hi, hzz, hzt, hza⟩ := zcOf_ok ⟨fun _ _ => none, fun _ => none, fun _ => none, fun _ => none⟩ hz
  refine ⟨i, z, hi, hzz, by simpa [szOf, hi] using hs, by simpa [byOf, hi] using hb, ?_⟩
  rw [lenA_eq, toT_length hzt] at hz0; simpa using hz0
theorem okApp {A B : Operand} {c : Call} {sz bytes : Nat} {zc : AV} (ho : o.op = .call c) (hc : c.callee = .builtin .append) (hargs : c.args.toList = [A, B]) (hat : c.argTypes = #[t, tx]) (ht : P.underlying t = some (.slice el))
    (htx : (∃ e', P.underlying tx = some (.slice e')) ∨ P.underlying tx = some .string) (hs : szOf P el = some sz) (hb : byOf P el = some bytes) (hz : zcOf P el = some zc) (hz0 : lenA zc = sz) (hsz0 : sz ≠ 0) (hby : bytes ≠ 0)
    (hR : Rel ι (un th KK) w) (hH : HT th n) (hr : NE r) (hx : toV ι x = some (ac.eval A)) (hy : toV ι y = some (ac.eval B)) (h : pApp sz bytes x y th n k = r) : OkW ι KK P w ac.eval o n k r := by
  obtain ⟨i, z, E⟩ := elTy hs hb hz hz0
  have fin : ∀ {new : AV} {news : List Value} {cnt : Nat}, Src P i.size tx (ac.eval B) cnt news w → toT ι new = some news → news.all isCell = true → appTo sz bytes x new cnt th n k = r → OkW ι KK P w ac.eval o n k r :=
    fun hsrc hn hnc hk => appTo_ok ho hc hargs hat E.size E.bytes hby E.cells hsz0 rfl (Adds.ofSrc ht E.hi E.hz hsrc) hR hH hr hx hn hnc hk
  have hnil : ∀ {A' : Option Addr} {C : Nat}, ac.eval B = .slice A' 0 C → appTo sz bytes x .nil 0 th n k = r → OkW ι KK P w ac.eval o n k r := by
    intro A' C hV hk
    refine fin (news := []) ⟨htx, fun W => by rw [hV]; rfl, ?_, ?_, by simp, fun _ h => by cases h⟩ rfl rfl hk
    · rw [hV]; cases A' with
      | none => exact run_firstCells_none w _ _ _ _
      | some a => exact run_firstCells_some w _ 0 a 0 C [] (by simp) (by simp)
    · rw [hV]; cases A' with
      | none => exact run_firstCells_none w.drew _ _ _ _
      | some a => exact run_firstCells_some w.drew _ 0 a 0 C [] (by simp) (by simp)
  cases y with
  | str s =>
    obtain ⟨h1, h2⟩ := bO_inv (show bO (Nat.beq sz 1) (appTo sz bytes x (strL s) s.length th n k) (.err 59) = r from h) hr
    have h1 := beq_nat h1
    obtain ⟨b, hB, hlt, hb⟩ := str_val (f := fun s' => Out.ret (.node .leaf (some (.str s')) .leaf) .leaf 0) (r := Out.ret (.node .leaf (some (.str s)) .leaf) .leaf 0) (show vstr (.str s) _ = _ from rfl) (fun c e => by cases e) hy
    obtain rfl : b = s := by injection hb with hb; injection hb with _ hb; injection hb with hb; injection hb
    refine fin (new := strL b) ⟨htx, fun W => by rw [hB]; simp [Builtin.lenOf, sbytes_size], ?_, ?_, ?_, oneCell_of (strL_cells b)⟩ (toT_strL b hlt) (strL_cells b) h2
    · rw [hB, E.size, h1]; have := firstCells_string (P := P) (sbytes b) w; rwa [sbytes_size] at this
    · rw [hB, E.size, h1]; have := firstCells_string (P := P) (sbytes b) w.drew; rwa [sbytes_size] at this
    · rw [byteCells_length, sbytes_size, E.size, h1, Nat.mul_one]
  | ref g b ep off len cap =>
    rcases isSl_cases (show isSl g (withRow th b fun _ c _ _ => readC c ep (Nat.mul len sz) off fun new => appTo sz bytes x new len th n k) _ = r from h) with ⟨hg, h2⟩ | ⟨_, _, h2⟩
    · obtain ⟨zz, C, hzz, hV, _, _⟩ := sl_val hg hy
      obtain ⟨sz', c0, nc, e', hgt, h3⟩ := withRow_inv h2 hr
      obtain ⟨cs, _, _, hra, _, hce⟩ := row_at hR (un_get hgt) hzz
      obtain ⟨new, news, h4, h5, h6, h7, h8⟩ := readC_inv hce hr h3
      have h5 : news.length = len * sz := h5
      have hcell : ∀ (j : Nat) v, news[j]? = some v → w.cell? ((⟨zz.1, off, none⟩ : Addr).add j) = some v := fun j v hv => by rw [addr_add, cell?_row hra]; exact h7 j v hv
      refine fin ⟨htx, fun W => by rw [hV]; rfl, ?_, ?_, by rw [h5, E.size], oneCell_of h6⟩ h4 h6 h8
      · rw [hV]; exact run_firstCells_some w i.size len _ len C news (by rw [h5, E.size]) hcell
      · rw [hV]; exact run_firstCells_some w.drew i.size len _ len C news (by rw [h5, E.size]) hcell
    · rcases bO_cases h2 with ⟨h5, h6⟩ | ⟨_, h5⟩
      · obtain ⟨A', C, hV, _, _⟩ := sl_end (.inl (beq_nat h5)) hy
        exact hnil hV h6
      · rcases bO_cases h5 with ⟨h6, h7⟩ | ⟨_, h6⟩
        · obtain ⟨A', C, hV, _, _⟩ := sl_end (.inr (.inl (beq_nat h6))) hy
          exact hnil hV h7
        · obtain ⟨h7, h8⟩ := bO_inv h6 hr
          obtain ⟨A', C, hV, _, _⟩ := sl_end (.inr (.inr (beq_nat h7))) hy
          exact hnil hV h8
  | num q i => exact absurd h.symm (hr _)
  | com g x l => exact absurd h.symm (hr _)
  | nil => exact absurd h.symm (hr _)
  | cons a b => exact absurd h.symm (hr _)
theorem okAppZ {A B : Operand} {c : Call} {sz bytes : Nat} {zc : AV} {q' : IntKind} (ho : o.op = .call c) (hc : c.callee = .builtin .append) (hargs : c.args.toList = [A, B]) (hat : c.argTypes = #[t, tx]) (ht : P.underlying t = some (.slice el))
    (htx : P.underlying tx = some (.int q')) (hs : szOf P el = some sz) (hb : byOf P el = some bytes) (hz : zcOf P el = some zc) (hz0 : lenA zc = sz) (hsz0 : sz ≠ 0) (hby : bytes ≠ 0)
    (hR : Rel ι (un th KK) w) (hH : HT th n) (hr : NE r) (hx : toV ι x = some (ac.eval A)) (hy : toV ι y = some (ac.eval B)) (h : pAppZ sz bytes zc x y th n k = r) : OkW ι KK P w ac.eval o n k r := by
  obtain ⟨i, z, E⟩ := elTy hs hb hz hz0
  obtain ⟨i', z', hi', hz', hzt, hza⟩ := zcOf_ok ι hz
  obtain rfl : i' = i := by have := E.hi; rw [hi'] at this; injection this
  obtain rfl : z' = z := by have := E.hz; rw [hz'] at this; injection this
  obtain ⟨q, m, hq, hB, h1⟩ := nat_val h hr hy
  obtain ⟨h2, h3⟩ := bO_inv h1 hr
  have h2 : m * bytes ≤ 1048576 := Nat.le_of_ble_eq_true h2
  exact appTo_ok ho hc hargs hat E.size E.bytes hby E.cells hsz0 hB (Adds.ofZeros ht htx E.hi E.hz (by rw [E.cells, E.size]) (by rw [E.size]; exact hsz0) (by rw [E.bytes]; exact hby) hza (by rw [E.bytes]; exact h2)) hR hH hr hx (toT_lrep hzt m) (rep_all hza m) h3
end Ev
/- The operations as a whole: what only computes. -/
namespace Ev
open Go
variable {ι : Rn} {P : Program} {w : World} {o : Oper} {r : Out} {t : TypeId} {ac : Act} {l e : T AV} {th : H} {n : Nat} {k : KH} {KK : G} {y : Yh} {ih : Ih} {iop : IOp}
def cls : IOp → Nat
  | .mv _ | .p1 _ _ | .p2 _ _ _ | .conv _ _ | .pick _ _ _ | .fad _ _ | .fld _ _ _ _ | .ext _ _ | .iad _ _ _ | .build _ _ | .slS _ _ _ | .mkI _ _ | .mkF _ _ | .mkB _ _ | .eqA _ _ _ _ => 0
  | .ldC _ _ | .ld _ | .slV _ _ _ _ _ | .look _ _ _ _ _ | .b2s _ => 1
  | .alloc _ | .box _ | .rowSl _ _ _ _ | .mkMap | .mkSl _ _ _ _ _ | .s2b _ => 2
  | .st _ _ _ | .mapUpd _ _ _ _ | .app _ _ _ _ | .appZ _ _ _ _ _ => 3
  | .call _ _ | .callv _ _ => 4
  | .bad _ => 5
theorem b2 {α β γ : Type} {a : Option α} {b : Option β} {f : α → β → γ} {c : γ} (h : (do let x ← a; let y ← b; pure (f x y)) = some c) : ∃ x y, a = some x ∧ b = some y ∧ c = f x y := by
  simp only [Option.bind_eq_bind, Option.bind_eq_some_iff, Option.pure_def, Option.some.injEq] at h
  obtain ⟨x, hx, y, hy, h⟩ := h
  exact ⟨x, y, hx, hy, h.symm⟩
theorem b1 {α γ : Type} {a : Option α} {f : α → γ} {c : γ} (h : (do let x ← a; pure (f x)) = some c) : ∃ x, a = some x ∧ c = f x := by
  simp only [Option.bind_eq_bind, Option.bind_eq_some_iff, Option.pure_def, Option.some.injEq] at h
  obtain ⟨x, hx, h⟩ := h
  exact ⟨x, hx, h.symm⟩
theorem does_ok {op : BinOp} {A B : Operand} {yt : TypeId} {f : K} (ho : o.op = .binOp op t A B yt) (hg : (eqGuard op t A B (ac.eval A) (ac.eval B)).run P w = .ok () w) (h : Does2 ι P w op t (ac.eval A) (ac.eval B) f r) : OkV ι P w ac.eval o f r := by
  obtain ⟨v, V, h1, h2, h3⟩ := h
  exact ⟨v, V, h1, h2, exec_bin ho rfl rfl hg h3⟩
theorem isConst_or {A B : Operand} (h : (isConst A || isConst B) = true) : (∃ v, A = .const v) ∨ ∃ v, B = .const v := by
  cases A with
  | const v => exact .inl ⟨v, rfl⟩
  | _ => cases B with
    | const v => exact .inr ⟨v, rfl⟩
    | _ => simp [isConst] at h
/-- operations of two places -/
theorem u_bin {op : BinOp} {A B : Operand} {yt : TypeId} {c : Nat} {x y' : AV} {f : K} (hr : NE r) (ho : o.op = .binOp op t A B yt) (hb : binCode P op t A B = some c) (hx : toV ι x = some (ac.eval A)) (hy : toV ι y' = some (ac.eval B)) (h : den2 c x y' f = r) : OkV ι P w ac.eval o f r := by
  have gi : ∀ {op : BinOp} {F : Nat → Int → Int → Out}, two x y' F = r → (eqGuard op t A B (ac.eval A) (ac.eval B)).run P w = .ok () w := fun h2 => by
    obtain ⟨q, a, b, hq, hX, hY, _⟩ := two_vals h2 hr hx hy
    rw [hX, hY]; exact guard_int
  have gs : ∀ {op : BinOp} {F : List Nat → List Nat → Out}, vstr x (fun a => vstr y' fun b => F a b) = r → (eqGuard op t A B (ac.eval A) (ac.eval B)).run P w = .ok () w := fun h2 => by
    obtain ⟨a, hX, _, h3⟩ := str_val h2 hr hx
    obtain ⟨b, hY, _, _⟩ := str_val h3 hr hy
    rw [hX, hY]; exact guard_str
  have gb : ∀ {op : BinOp} {a b c d : Out}, vbool x (vbool y' a b) (vbool y' c d) = r → (eqGuard op t A B (ac.eval A) (ac.eval B)).run P w = .ok () w := fun h2 => by
    rcases bool_val h2 hr hx with ⟨hX, h3⟩ | ⟨hX, h3⟩ <;> rcases bool_val h3 hr hy with ⟨hY, _⟩ | ⟨hY, _⟩ <;> rw [hX, hY] <;> exact guard_bool
  have nt : ∀ {m : Nat}, nilTy P m t → (m = 4 → (∃ v, A = .const v) ∨ ∃ v, B = .const v) → NilAsk P m t A B := fun h1 h2 => ⟨h1, h2⟩
  have ii : ∀ {q : Nat}, (if isInt P t = true then some q else none) = some c → c = q := fun h2 => by
    split at h2
    · injection h2 with h2; exact h2.symm
    · cases h2
  cases op with
  | add =>
    simp only [binCode] at hb
    split at hb
    · injection hb with hb; subst hb
      exact does_ok ho (gi h) (dAdd hr hx hy h)
    · split at hb
      · injection hb with hb; subst hb
        exact does_ok ho (gs h) (dCat hr hx hy h)
      · cases hb
  | eql =>
    simp only [binCode, eqCode] at hb
    split at hb
    · injection hb with hb; subst hb; exact does_ok ho (gi h) (dEql hr hx hy h)
    · rename_i hu; injection hb with hb; subst hb; exact does_ok ho (gb h) (dEqB hu hr hx hy h)
    · injection hb with hb; subst hb; exact does_ok ho (gs h) (dEqS hr hx hy h)
    · rename_i el hu; injection hb with hb; subst hb; exact dEqN (m := 0) ho (nt ⟨_, hu⟩ (fun h => by cases h)) hr hx hy h
    · rename_i el hu; injection hb with hb; subst hb; exact dEqN (m := 1) ho (nt ⟨_, hu⟩ (fun h => by cases h)) hr hx hy h
    · rename_i a b c hu; injection hb with hb; subst hb; exact dEqN (m := 2) ho (nt ⟨_, _, _, hu⟩ (fun h => by cases h)) hr hx hy h
    · rename_i a b hu; injection hb with hb; subst hb; exact dEqN (m := 3) ho (nt ⟨_, _, hu⟩ (fun h => by cases h)) hr hx hy h
    · rename_i a hu
      split at hb
      · rename_i hcst; injection hb with hb; subst hb; exact dEqN (m := 4) ho (nt ⟨_, hu⟩ (fun _ => isConst_or hcst)) hr hx hy h
      · cases hb
    · cases hb
  | neq =>
    simp only [binCode, eqCode] at hb
    split at hb
    · injection hb with hb; subst hb; exact does_ok ho (gi h) (dNeq hr hx hy h)
    · rename_i hu; injection hb with hb; subst hb; exact does_ok ho (gb h) (dNeB hu hr hx hy h)
    · injection hb with hb; subst hb; exact does_ok ho (gs h) (dNeS hr hx hy h)
    · rename_i el hu; injection hb with hb; subst hb; exact dNeN (m := 0) ho (nt ⟨_, hu⟩ (fun h => by cases h)) hr hx hy h
    · rename_i el hu; injection hb with hb; subst hb; exact dNeN (m := 1) ho (nt ⟨_, hu⟩ (fun h => by cases h)) hr hx hy h
    · rename_i a b c hu; injection hb with hb; subst hb; exact dNeN (m := 2) ho (nt ⟨_, _, _, hu⟩ (fun h => by cases h)) hr hx hy h
    · rename_i a b hu; injection hb with hb; subst hb; exact dNeN (m := 3) ho (nt ⟨_, _, hu⟩ (fun h => by cases h)) hr hx hy h
    · rename_i a hu
      split at hb
      · rename_i hcst; injection hb with hb; subst hb; exact dNeN (m := 4) ho (nt ⟨_, hu⟩ (fun _ => isConst_or hcst)) hr hx hy h
      · cases hb
    · cases hb
  | sub => obtain rfl := ii hb; exact does_ok ho (gi h) (dSub hr hx hy h)
  | mul => obtain rfl := ii hb; exact does_ok ho (gi h) (dMul hr hx hy h)
  | quo => obtain rfl := ii hb; exact does_ok ho (gi h) (dQuo hr hx hy h)
  | rem => obtain rfl := ii hb; exact does_ok ho (gi h) (dRem hr hx hy h)
  | and => obtain rfl := ii hb; exact does_ok ho (gi h) (dAnd hr hx hy h)
  | or => obtain rfl := ii hb; exact does_ok ho (gi h) (dOr hr hx hy h)
  | xor => obtain rfl := ii hb; exact does_ok ho (gi h) (dXor hr hx hy h)
  | shl => obtain rfl := ii hb; exact does_ok ho (by unfold eqGuard; simp) (dShl hr hx hy h)
  | shr => obtain rfl := ii hb; exact does_ok ho (by unfold eqGuard; simp) (dShr hr hx hy h)
  | lss => obtain rfl := ii hb; exact does_ok ho (gi h) (dLss hr hx hy h)
  | leq => obtain rfl := ii hb; exact does_ok ho (gi h) (dLeq hr hx hy h)
  | gtr => obtain rfl := ii hb; exact does_ok ho (gi h) (dGtr hr hx hy h)
  | geq => obtain rfl := ii hb; exact does_ok ho (gi h) (dGeq hr hx hy h)
  | _ => simp [binCode] at hb

theorem some_bind {α β : Type} {a : Option α} {f : α → Option β} {c : β} (h : (a >>= f) = some c) : ∃ x, a = some x ∧ f x = some c := by
  simpa [Option.bind_eq_some_iff] using h
theorem pure_some {α : Type} {a b : α} (h : (pure a : Option α) = some b) : b = a := by
  simp only [Option.pure_def, Option.some.injEq] at h; exact h.symm
theorem fetch2 {A B : Operand} {a b : Opd} {f : AV → AV → Out} (ha : cOpd A = some a) (hb : cOpd B = some b) (hl : TR ι l ac.tmps) (he : TR ι e ac.tmps) (hr : NE r) (h : (fetch l e a fun a => fetch l e b fun b => f a b) = r) :
    ∃ x y, toV ι x = some (ac.eval A) ∧ toV ι y = some (ac.eval B) ∧ f x y = r := by
  obtain ⟨x, hx, h⟩ := fetch_inv ha hl he h hr
  obtain ⟨y, hy, h⟩ := fetch_inv hb hl he h hr
  exact ⟨x, y, hx, hy, h⟩
theorem exec_b2 {b : Builtin} {A B : Operand} {c : Call} {V : Value} (ho : o.op = .call c) (hc : c.callee = .builtin b) (hargs : c.args.toList = [A, B])
    (h : ∀ cs, (builtin b c.argTypes o.type cs #[ac.eval A, ac.eval B]).run P w = .ok (.value V) w) : (execOp ac.eval o).run P w = .ok (.value V) w := by
  have hargs' : c.args = #[A, B] := by rw [← Array.toArray_toList (xs := c.args), hargs]
  unfold execOp; rw [ho]
  simp only [resolve, hc, Sem.run_bind, Sem.run_pure, Result.andThen_ok, invoke]
  rw [hargs']
  simpa using h _
theorem cOpds1 {xs : List Operand} {x : Opd} (h : cOpds xs = some [x]) : ∃ A, xs = [A] ∧ cOpd A = some x := by
  match xs, h with
  | [], h => simp [cOpds] at h
  | [A], h =>
    simp only [cOpds] at h
    split at h
    · rename_i a r ha hr; simp only [Option.some.injEq, List.cons.injEq] at h hr; exact ⟨A, rfl, by rw [ha, h.1]⟩
    · cases h
  | A :: B :: l, h =>
    exfalso
    simp only [cOpds] at h
    split at h
    · rename_i a r ha hr
      split at hr
      · simp only [Option.some.injEq] at hr; subst hr; simp at h
      · cases hr
    · cases h
theorem cOpds2 {xs : List Operand} {x y : Opd} (h : cOpds xs = some [x, y]) : ∃ A B, xs = [A, B] ∧ cOpd A = some x ∧ cOpd B = some y := by
  match xs, h with
  | [], h => simp [cOpds] at h
  | A :: l, h =>
    simp only [cOpds] at h
    split at h
    · rename_i a r ha hr
      simp only [Option.some.injEq, List.cons.injEq] at h
      obtain ⟨rfl, rfl⟩ := h
      obtain ⟨B, rfl, hB⟩ := cOpds1 hr
      exact ⟨A, B, rfl, ha, hB⟩
    · cases h
theorem cOp_append {args : Array Operand} {tys : Array TypeId} (hc : cOp P (.call { callee := .builtin .append, args := args, argTypes := tys }) = some iop) :
    ∃ t tx el A B a b sz by_ z, tys = #[t, tx] ∧ args.toList = [A, B] ∧ cOpd A = some a ∧ cOpd B = some b ∧ P.underlying t = some (.slice el) ∧ szOf P el = some sz ∧ byOf P el = some by_ ∧ zcOf P el = some z ∧ lenA z = sz ∧ sz ≠ 0 ∧ by_ ≠ 0 ∧
      ((∃ q, P.underlying tx = some (.int q) ∧ iop = .appZ sz by_ z a b) ∨ (((∃ e', P.underlying tx = some (.slice e')) ∨ P.underlying tx = some .string) ∧ iop = .app sz by_ a b)) := by
  simp only [cOp] at hc
  split at hc
  · simp at hc
  · rename_i hsz
    simp only [ne_eq, Decidable.not_not] at hsz
    obtain ⟨t, ht, hc⟩ := some_bind hc
    split at hc
    · rename_i el hu
      obtain ⟨xy, hxy, hc⟩ := some_bind hc
      obtain ⟨⟨a, b⟩, hab, hc⟩ := some_bind hc
      split at hab
      · rename_i x y' 
        simp only [Option.some.injEq, Prod.mk.injEq] at hab
        obtain ⟨rfl, rfl⟩ := hab
        obtain ⟨A, B, hA, hcA, hcB⟩ := cOpds2 hxy
        obtain ⟨sz, hs, hc⟩ := some_bind hc
        obtain ⟨by_, hb, hc⟩ := some_bind hc
        obtain ⟨z, hz, hc⟩ := some_bind hc
        split at hc
        · rename_i hcond
          obtain ⟨h1, h2, h3⟩ := hcond
          have htys : ∃ tx, tys = #[t, tx] := by
            obtain ⟨t0, tx, rfl⟩ : ∃ t0 tx, tys = #[t0, tx] := by
              match tys, hsz with
              | ⟨[p, q]⟩, _ => exact ⟨p, q, rfl⟩
              | ⟨[]⟩, h => simp at h
              | ⟨[_]⟩, h => simp at h
              | ⟨_ :: _ :: _ :: _⟩, h => simp at h
            simp at ht; subst ht; exact ⟨tx, rfl⟩
          obtain ⟨tx, rfl⟩ := htys
          refine ⟨t, tx, el, A, B, x, y', sz, by_, z, rfl, hA, hcA, hcB, hu, hs, hb, hz, h1, h2, h3, ?_⟩
          split at hc
          · rename_i q hq
            obtain rfl := pure_some hc
            exact .inl ⟨q, by simpa using hq, rfl⟩
          · rename_i hq
            obtain rfl := pure_some hc
            exact .inr ⟨.inr (by simpa using hq), rfl⟩
          · rename_i e' hq
            obtain rfl := pure_some hc
            exact .inr ⟨.inl ⟨e', by simpa using hq⟩, rfl⟩
          · cases hc
        · cases hc
      · cases hab
    · cases hc
theorem dPureCall {c : Call} (hop : o.op = .call c) (hc : cOp P (.call c) = some iop) (h0 : cls iop = 0) (hl : TR ι l ac.tmps) (he : TR ι e ac.tmps) (hr : NE r) (h : denOp y ih iop l e th n k = r) : OkV ι P w ac.eval o (fun v => k v th n) r := by
  obtain ⟨callee, args, tys⟩ := c
  cases callee with
  | value X =>
    cases X with
    | func f =>
      obtain ⟨a, ha, hc⟩ := some_bind hc
      obtain ⟨b, hb, hc⟩ := some_bind hc
      split at hc
      · obtain rfl := pure_some hc
        cases h0
      · cases hc
    | _ =>
      obtain ⟨a, ha, hc⟩ := some_bind hc
      obtain ⟨b, hb, hc⟩ := some_bind hc
      obtain rfl := pure_some hc
      cases h0
  | invoke _ _ => simp [cOp] at hc
  | builtin b =>
    cases b with
    | len =>
      simp only [cOp] at hc
      split at hc
      · rename_i x hx hu
        injection hc with hc; subst hc
        obtain ⟨A, hA, hcA⟩ := cOpds1 hx
        obtain ⟨s, hs, hu⟩ := Option.bind_eq_some_iff.1 hu
        obtain ⟨v, hv, h⟩ := fetch_inv hcA hl he h hr
        exact okLenS hop rfl hA hs hu hr hv h
      · rename_i x el hx hu
        injection hc with hc; subst hc
        obtain ⟨A, hA, hcA⟩ := cOpds1 hx
        obtain ⟨s, hs, hu⟩ := Option.bind_eq_some_iff.1 hu
        obtain ⟨v, hv, h⟩ := fetch_inv hcA hl he h hr
        exact okLenL hop rfl hA hs hu hr hv h
      · cases hc
    | cap =>
      simp only [cOp] at hc
      split at hc
      · rename_i x el hx hu
        injection hc with hc; subst hc
        obtain ⟨A, hA, hcA⟩ := cOpds1 hx
        obtain ⟨s, hs, hu⟩ := Option.bind_eq_some_iff.1 hu
        obtain ⟨v, hv, h⟩ := fetch_inv hcA hl he h hr
        exact okCap hop rfl hA hs hu hr hv h
      · cases hc
    | min =>
      simp only [cOp] at hc
      split at hc
      · rename_i a b hx
        injection hc with hc; subst hc
        obtain ⟨A, B, hA, hcA, hcB⟩ := cOpds2 hx
        obtain ⟨x, y', hx, hy, h⟩ := fetch2 hcA hcB hl he hr h
        obtain ⟨v, V, h1, h2, h3⟩ := dMin (P := P) (w := w) hr hx hy (show pMinMax false x y' (fun r => k r th n) = r from h)
        exact ⟨v, V, h1, h2, exec_b2 hop rfl hA fun cs => by simp [builtin, Builtin.min_, h3]⟩
      · cases hc
    | max =>
      simp only [cOp] at hc
      split at hc
      · rename_i a b hx
        injection hc with hc; subst hc
        obtain ⟨A, B, hA, hcA, hcB⟩ := cOpds2 hx
        obtain ⟨x, y', hx, hy, h⟩ := fetch2 hcA hcB hl he hr h
        obtain ⟨v, V, h1, h2, h3⟩ := dMax (P := P) (w := w) hr hx hy (show pMinMax true x y' (fun r => k r th n) = r from h)
        exact ⟨v, V, h1, h2, exec_b2 hop rfl hA fun cs => by simp [builtin, Builtin.max_, h3]⟩
      · cases hc
    | append =>
      obtain ⟨t, tx, el, A, B, a, b, sz, by_, z, _, _, _, _, _, _, _, _, _, _, _, h⟩ := cOp_append hc
      rcases h with ⟨q, _, rfl⟩ | ⟨_, rfl⟩ <;> cases h0
    | _ => simp [cOp] at hc
theorem dPure (hc : cOp P o.op = some iop) (h0 : cls iop = 0) (hl : TR ι l ac.tmps) (he : TR ι e ac.tmps) (hr : NE r) (h : denOp y ih iop l e th n k = r) : OkV ι P w ac.eval o (fun v => k v th n) r := by
  cases hop : o.op with
  | move X =>
    rw [hop] at hc
    obtain ⟨x, hx, hc⟩ := some_bind hc
    obtain rfl := pure_some hc
    obtain ⟨v, hv, h⟩ := fetch_inv hx hl he h hr
    exact okMv (.inl hop) hv h
  | assign X =>
    rw [hop] at hc
    obtain ⟨x, hx, hc⟩ := some_bind hc
    obtain rfl := pure_some hc
    obtain ⟨v, hv, h⟩ := fetch_inv hx hl he h hr
    exact okMv (.inr hop) hv h
  | pick C A B =>
    rw [hop] at hc
    obtain ⟨c, hcc, hc⟩ := some_bind hc
    obtain ⟨a, ha, hc⟩ := some_bind hc
    obtain ⟨b, hb, hc⟩ := some_bind hc
    obtain rfl := pure_some hc
    obtain ⟨vc, hvc, h⟩ := fetch_inv hcc hl he h hr
    obtain ⟨va, hva, h⟩ := fetch_inv ha hl he h hr
    obtain ⟨vb, hvb, h⟩ := fetch_inv hb hl he h hr
    exact okPick hop hr hvc hva hvb h
  | alloc t =>
    rw [hop] at hc
    obtain ⟨z, hz, hc⟩ := some_bind hc
    obtain rfl := pure_some hc
    cases h0
  | box t X =>
    rw [hop] at hc
    obtain ⟨z, hz, hc⟩ := some_bind hc
    obtain rfl := pure_some hc
    cases h0
  | build t PS =>
    rw [hop] at hc
    obtain ⟨z, hz, hc⟩ := some_bind hc
    split at hc
    · rename_i fs hu
      split at hc
      · rename_i hf
        obtain ⟨ps, hp, hc⟩ := some_bind hc
        obtain rfl := pure_some hc
        exact okBuildS hop hu hf hz hp hl he hr h
      · cases hc
    · rename_i m el hu
      obtain ⟨sz, hs, hc⟩ := some_bind hc
      obtain ⟨ps, hp, hc⟩ := some_bind hc
      obtain rfl := pure_some hc
      exact okBuildA hop hu hs hz hp hl he hr h
    · cases hc
  | nilCheck X =>
    rw [hop] at hc
    obtain ⟨x, hx, hc⟩ := some_bind hc
    obtain rfl := pure_some hc
    obtain ⟨v, hv, h⟩ := fetch_inv hx hl he h hr
    exact okNilChk hop hr hv h
  | binOp op t A B yt =>
    rw [hop] at hc
    simp only [cOp] at hc
    split at hc
    · rename_i hst
      split at hc
      · cases hc
      · rename_i hg
        split at hc
        · obtain ⟨cl, hcl, hc⟩ := some_bind hc
          obtain ⟨a, ha, hc⟩ := some_bind hc
          obtain ⟨b, hb, hc⟩ := some_bind hc
          obtain rfl := pure_some hc
          obtain ⟨x, y', hx, hy, h⟩ := fetch2 ha hb hl he hr h
          exact okEqA (neg := false) hop hst (by simpa using hg) hcl hr hx hy h
        · obtain ⟨cl, hcl, hc⟩ := some_bind hc
          obtain ⟨a, ha, hc⟩ := some_bind hc
          obtain ⟨b, hb, hc⟩ := some_bind hc
          obtain rfl := pure_some hc
          obtain ⟨x, y', hx, hy, h⟩ := fetch2 ha hb hl he hr h
          exact okEqA (neg := true) hop hst (by simpa using hg) hcl hr hx hy h
        · cases hc
    · obtain ⟨c, hcc, hc⟩ := some_bind hc
      obtain ⟨a, ha, hc⟩ := some_bind hc
      obtain ⟨b, hb, hc⟩ := some_bind hc
      obtain rfl := pure_some hc
      obtain ⟨x, y', hx, hy, h⟩ := fetch2 ha hb hl he hr h
      exact u_bin hr hop hcc hx hy h
  | unOp op t X =>
    rw [hop] at hc
    simp only [cOp] at hc
    split at hc
    · obtain ⟨x, hx, hc⟩ := some_bind hc
      obtain rfl := pure_some hc
      obtain ⟨v, hv, h⟩ := fetch_inv hx hl he h hr
      exact okNeg hop hr hv h
    · obtain ⟨x, hx, hc⟩ := some_bind hc
      obtain rfl := pure_some hc
      obtain ⟨v, hv, h⟩ := fetch_inv hx hl he h hr
      exact okNot hop hr hv h
    · cases hc
  | convert S D X =>
    rw [hop] at hc
    simp only [cOp] at hc
    split at hc
    · rename_i a b hS hD
      obtain ⟨x, hx, hc⟩ := some_bind hc
      obtain rfl := pure_some hc
      obtain ⟨v, hv, h⟩ := fetch_inv hx hl he h hr
      exact okConvI hop hS hD hr hv h
    · rename_i hS hD
      obtain ⟨x, hx, hc⟩ := some_bind hc
      obtain rfl := pure_some hc
      obtain ⟨v, hv, h⟩ := fetch_inv hx hl he h hr
      exact okConvS hop hS hD hr hv h
    · split at hc
      · obtain ⟨x, hx, hc⟩ := some_bind hc
        obtain rfl := pure_some hc
        cases h0
      · cases hc
    · split at hc
      · obtain ⟨x, hx, hc⟩ := some_bind hc
        obtain rfl := pure_some hc
        cases h0
      · cases hc
    · cases hc
  | makeInterface t X =>
    rw [hop] at hc
    simp only [cOp] at hc
    split at hc
    · cases hc
    · cases hc
    · rename_i d hn hu
      obtain ⟨x, hx, hc⟩ := some_bind hc
      obtain rfl := pure_some hc
      obtain ⟨v, hv, h⟩ := fetch_inv hx hl he h hr
      exact okMkI hop hu (fun a e => hn a (by rw [← e])) hv h
  | makeFunc f first caps =>
    rw [hop] at hc
    cases f with
    | func f =>
      simp only [cOp] at hc
      split at hc
      · rename_i hz
        obtain ⟨x, hx, hc⟩ := some_bind hc
        obtain rfl := pure_some hc
        obtain ⟨v, hv, h⟩ := fetchs_inv hx hl he h hr
        obtain rfl : first = #[] := Array.size_eq_zero_iff.1 hz
        exact okMkF hop hv h
      · split at hc
        · rename_i hz
          obtain ⟨x, hx, hc⟩ := some_bind hc
          obtain rfl := pure_some hc
          obtain ⟨v, hv, h⟩ := fetchs_inv hx hl he h hr
          obtain rfl : caps = #[] := Array.size_eq_zero_iff.1 hz
          exact okMkB hop hv h
        · cases hc
    | _ => simp [cOp] at hc
  | slice t X lo hi mx =>
    rw [hop] at hc
    simp only [cOp] at hc
    split at hc
    · rename_i hu
      split at hc
      · obtain ⟨x, hx, hc⟩ := some_bind hc
        obtain ⟨a, ha, hc⟩ := some_bind hc
        obtain ⟨b, hb, hc⟩ := some_bind hc
        obtain rfl := pure_some hc
        obtain ⟨v, hv, h⟩ := fetch_inv hx hl he h hr
        obtain ⟨va, h, hva⟩ := fetchO_inv ha hl he h hr
        obtain ⟨vb, h, hvb⟩ := fetchO_inv hb hl he h hr
        exact okSlS hop hu hr hv hva hvb h
      · cases hc
    · obtain ⟨sz, hs, hc⟩ := some_bind hc
      split at hc
      · obtain ⟨x, hx, hc⟩ := some_bind hc
        obtain ⟨a, ha, hc⟩ := some_bind hc
        obtain ⟨b, hb, hc⟩ := some_bind hc
        obtain ⟨c, hcc, hc⟩ := some_bind hc
        obtain rfl := pure_some hc
        cases h0
      · cases hc
    · cases hc
  | fieldAddr s X i =>
    rw [hop] at hc
    simp only [cOp] at hc
    split at hc
    · rename_i fs hu
      obtain ⟨f, hf, hc⟩ := some_bind hc
      obtain ⟨sz, hs, hc⟩ := some_bind hc
      split at hc
      · cases hc
      · rename_i hz
        obtain ⟨x, hx, hc⟩ := some_bind hc
        obtain rfl := pure_some hc
        obtain ⟨v, hv, h⟩ := fetch_inv hx hl he h hr
        exact okFad hop hu hf hs hz hr hv h
    · cases hc
  | field s X i =>
    rw [hop] at hc
    simp only [cOp] at hc
    split at hc
    · rename_i fs hu
      obtain ⟨f, hf, hc⟩ := some_bind hc
      obtain ⟨sz, hs, hc⟩ := some_bind hc
      obtain ⟨ag, hg, hc⟩ := some_bind hc
      obtain ⟨x, hx, hc⟩ := some_bind hc
      obtain rfl := pure_some hc
      obtain ⟨v, hv, h⟩ := fetch_inv hx hl he h hr
      exact okFld hop hu hf hs hg hr hv h
    · cases hc
  | indexAddr t X I =>
    rw [hop] at hc
    simp only [cOp] at hc
    split at hc
    · rename_i el hu
      obtain ⟨sz, hs, hc⟩ := some_bind hc
      obtain ⟨a, ha, hc⟩ := some_bind hc
      obtain ⟨b, hb, hc⟩ := some_bind hc
      obtain rfl := pure_some hc
      obtain ⟨x, y', hx, hy, h⟩ := fetch2 ha hb hl he hr h
      exact okIad hop hu hs hr hx hy h
    · cases hc
  | index t X I =>
    rw [hop] at hc
    simp only [cOp] at hc
    split at hc
    · rename_i hu
      obtain ⟨a, ha, hc⟩ := some_bind hc
      obtain ⟨b, hb, hc⟩ := some_bind hc
      obtain rfl := pure_some hc
      obtain ⟨x, y', hx, hy, h⟩ := fetch2 ha hb hl he hr h
      exact okIdxS hop hu hr hx hy h
    · cases hc
  | extract X i =>
    rw [hop] at hc
    obtain ⟨x, hx, hc⟩ := some_bind hc
    obtain rfl := pure_some hc
    obtain ⟨v, hv, h⟩ := fetch_inv hx hl he h hr
    exact okExt hop hr hv h
  | load t X =>
    rw [hop] at hc
    obtain ⟨ag, hg, hc⟩ := some_bind hc
    split at hc
    · obtain ⟨a, ha, hc⟩ := some_bind hc
      obtain ⟨b, hb, hc⟩ := some_bind hc
      obtain rfl := pure_some hc
      cases h0
    · obtain ⟨b, hb, hc⟩ := some_bind hc
      obtain rfl := pure_some hc
      cases h0
  | store t A B =>
    rw [hop] at hc
    obtain ⟨a, ha, hc⟩ := some_bind hc
    obtain ⟨b, hb, hc⟩ := some_bind hc
    obtain ⟨c, hcc, hc⟩ := some_bind hc
    obtain rfl := pure_some hc
    cases h0
  | lookup t A B ok =>
    rw [hop] at hc
    simp only [cOp] at hc
    split at hc
    · obtain ⟨a, ha, hc⟩ := some_bind hc
      obtain ⟨b, hb, hc⟩ := some_bind hc
      obtain ⟨c, hcc, hc⟩ := some_bind hc
      obtain ⟨d, hd, hc⟩ := some_bind hc
      obtain rfl := pure_some hc
      cases h0
    · cases hc
  | mapUpdate t A B C =>
    rw [hop] at hc
    simp only [cOp] at hc
    split at hc
    · obtain ⟨a, ha, hc⟩ := some_bind hc
      obtain ⟨b, hb, hc⟩ := some_bind hc
      obtain ⟨c, hcc, hc⟩ := some_bind hc
      obtain ⟨d, hd, hc⟩ := some_bind hc
      obtain rfl := pure_some hc
      cases h0
    · cases hc
  | makeMap t r' =>
    rw [hop] at hc
    cases r' with
    | none => simp only [cOp, Option.some.injEq] at hc; subst hc; cases h0
    | some r' => simp [cOp] at hc
  | makeSlice t A B =>
    rw [hop] at hc
    simp only [cOp] at hc
    split at hc
    · obtain ⟨a, ha, hc⟩ := some_bind hc
      obtain ⟨b, hb, hc⟩ := some_bind hc
      obtain ⟨c, hcc, hc⟩ := some_bind hc
      split at hc
      · obtain ⟨a, ha, hc⟩ := some_bind hc
        obtain ⟨b, hb, hc⟩ := some_bind hc
        obtain rfl := pure_some hc
        cases h0
      · cases hc
    · cases hc
  | buildSlice t m PS =>
    rw [hop] at hc
    simp only [cOp] at hc
    split at hc
    · obtain ⟨a, ha, hc⟩ := some_bind hc
      obtain ⟨b, hb, hc⟩ := some_bind hc
      split at hc
      · obtain ⟨a, ha, hc⟩ := some_bind hc
        obtain rfl := pure_some hc
        cases h0
      · cases hc
    · cases hc
  | call c =>
    rw [hop] at hc
    exact dPureCall hop hc h0 hl he hr h
  | _ => rw [hop] at hc; simp [cOp] at hc
end Ev
/- The operations as a whole: what reads, makes, writes. -/
namespace Ev
open Go
variable {ι : Rn} {P : Program} {w : World} {o : Oper} {r : Out} {t : TypeId} {ac : Act} {l e : T AV} {th : H} {n : Nat} {k : KH} {KK : G} {y : Yh} {ih : Ih} {iop : IOp} {g : G}
/-- the classes that an operation may have -/
def clsOp : Op → List Nat
  | .move _ | .assign _ | .pick _ _ _ | .build _ _ | .nilCheck _ | .binOp _ _ _ _ _ | .unOp _ _ _ | .makeInterface _ _ | .makeFunc _ _ _ | .fieldAddr _ _ _ | .field _ _ _ | .indexAddr _ _ _ | .index _ _ _ | .extract _ _ => [0]
  | .convert _ _ _ => [0, 1, 2]
  | .slice _ _ _ _ _ => [0, 1]
  | .load _ _ | .lookup _ _ _ _ => [1]
  | .alloc _ | .box _ _ | .buildSlice _ _ _ | .makeMap _ _ | .makeSlice _ _ _ => [2]
  | .store _ _ _ | .mapUpdate _ _ _ _ => [3]
  | .call c => match c.callee with
    | .builtin .append => [3]
    | .builtin _ => [0]
    | _ => [4]
  | _ => []
theorem cls_of {op : Op} (hc : cOp P op = some iop) : cls iop ∈ clsOp op := by
  cases op with
  | call c =>
    obtain ⟨callee, args, tys⟩ := c
    cases callee with
    | value X =>
      cases X with
      | func f =>
        obtain ⟨a, ha, hc⟩ := some_bind hc
        obtain ⟨b, hb, hc⟩ := some_bind hc
        split at hc
        · obtain rfl := pure_some hc
          exact .head _
        · cases hc
      | _ =>
        obtain ⟨a, ha, hc⟩ := some_bind hc
        obtain ⟨b, hb, hc⟩ := some_bind hc
        obtain rfl := pure_some hc
        exact .head _
    | invoke _ _ => simp [cOp] at hc
    | builtin b =>
      cases b with
      | append =>
        obtain ⟨t, tx, el, A, B, a, b, sz, by_, z, _, _, _, _, _, _, _, _, _, _, _, h⟩ := cOp_append hc
        rcases h with ⟨q, _, rfl⟩ | ⟨_, rfl⟩ <;> exact .head _
      | len | cap | min | max =>
        simp only [cOp] at hc
        split at hc <;> first | (cases hc; done) | (injection hc with hc; subst hc; exact .head _)
      | _ => simp [cOp] at hc
  | makeMap t r' =>
    cases r' with
    | none => simp only [cOp, Option.some.injEq] at hc; subst hc; exact .head _
    | some r' => simp [cOp] at hc
  | makeFunc f a b =>
    cases f with
    | func f =>
      simp only [cOp] at hc
      repeat' split at hc
      all_goals first
        | (cases hc; done)
        | (simp only [Option.bind_eq_bind, Option.bind_eq_some_iff, Option.pure_def, Option.some.injEq] at hc
           obtain ⟨_, _, hc⟩ := hc
           subst hc; simp [cls, clsOp])
    | _ => simp [cOp] at hc
  | _ =>
    simp only [cOp] at hc
    repeat' first
      | (cases hc; done)
      | (obtain ⟨_, _, hc⟩ := hc)
      | split at hc
      | (simp only [Option.bind_eq_bind, Option.bind_eq_some_iff, Option.pure_def, Option.some.injEq] at hc)
    all_goals simp [cls, clsOp]
theorem dRead (hc : cOp P o.op = some iop) (h0 : cls iop = 1) (hR : Rel ι (un th KK) w) (hl : TR ι l ac.tmps) (he : TR ι e ac.tmps) (hr : NE r) (h : denOp y ih iop l e th n k = r) : OkV ι P w ac.eval o (fun v => k v th n) r := by
  cases hop : o.op with
  | load t X =>
    rw [hop] at hc
    obtain ⟨ag, hg, hc⟩ := some_bind hc
    cases ag with
    | true =>
      obtain ⟨sz, hs, hc⟩ := some_bind hc
      obtain ⟨x, hx, hc⟩ := some_bind hc
      obtain rfl := pure_some hc
      obtain ⟨v, hv, h⟩ := fetch_inv hx hl he h hr
      exact okLdC hop hg hs hR hr hv h
    | false =>
      obtain ⟨x, hx, hc⟩ := some_bind hc
      obtain rfl := pure_some hc
      obtain ⟨v, hv, h⟩ := fetch_inv hx hl he h hr
      exact okLd hop hg hR hr hv h
  | lookup t A B ok =>
    rw [hop] at hc
    simp only [cOp] at hc
    split at hc
    · rename_i kt et hu
      obtain ⟨s, hk, hc⟩ := some_bind hc
      obtain ⟨z, hz, hc⟩ := some_bind hc
      obtain ⟨a, ha, hc⟩ := some_bind hc
      obtain ⟨b, hb, hc⟩ := some_bind hc
      obtain rfl := pure_some hc
      obtain ⟨x, y', hx, hy, h⟩ := fetch2 ha hb hl he hr h
      refine okLook hop hu hk hz hR hr hx hy ?_
      cases ok <;> exact h
    · cases hc
  | slice t X lo hi mx =>
    rw [hop] at hc
    simp only [cOp] at hc
    split at hc
    · rename_i hu
      split at hc
      · obtain ⟨x, hx, hc⟩ := some_bind hc
        obtain ⟨a, ha, hc⟩ := some_bind hc
        obtain ⟨b, hb, hc⟩ := some_bind hc
        obtain rfl := pure_some hc
        cases h0
      · cases hc
    · rename_i el hu
      obtain ⟨sz, hs, hc⟩ := some_bind hc
      split at hc
      · rename_i hcond
        obtain ⟨x, hx, hc⟩ := some_bind hc
        obtain ⟨a, ha, hc⟩ := some_bind hc
        obtain ⟨b, hb, hc⟩ := some_bind hc
        obtain ⟨c, hcc, hc⟩ := some_bind hc
        obtain rfl := pure_some hc
        obtain ⟨v, hv, h⟩ := fetch_inv hx hl he h hr
        obtain ⟨va, h, hva⟩ := fetchO_inv ha hl he h hr
        obtain ⟨vb, h, hvb⟩ := fetchO_inv hb hl he h hr
        obtain ⟨vc, h, hvc⟩ := fetchO_inv hcc hl he h hr
        exact okSlV hop hu hs hcond.1 hcond.2 hR hr hv hva hvb hvc h
      · cases hc
    · cases hc
  | convert S D X =>
    rw [hop] at hc
    simp only [cOp] at hc
    split at hc
    · obtain ⟨x, hx, hc⟩ := some_bind hc
      obtain rfl := pure_some hc
      cases h0
    · obtain ⟨x, hx, hc⟩ := some_bind hc
      obtain rfl := pure_some hc
      cases h0
    · split at hc
      · obtain ⟨x, hx, hc⟩ := some_bind hc
        obtain rfl := pure_some hc
        cases h0
      · cases hc
    · rename_i el hS hD
      split at hc
      · rename_i hel
        obtain ⟨x, hx, hc⟩ := some_bind hc
        obtain rfl := pure_some hc
        obtain ⟨v, hv, h⟩ := fetch_inv hx hl he h hr
        exact okB2S hop hS hD hel hR hr hv h
      · cases hc
    · cases hc
  | _ => have := cls_of hc; rw [hop, h0] at this; simp [clsOp] at this; try (split at this <;> simp at this)
theorem dAlloc (hc : cOp P o.op = some iop) (h0 : cls iop = 2) (hR : Rel ι g w) (hn : g n = none) (hl : TR ι l ac.tmps) (he : TR ι e ac.tmps) (hr : NE r) (h : denOp y ih iop l e th n k = r) : OkA ι g P w ac.eval o th n k r := by
  cases hop : o.op with
  | alloc t =>
    rw [hop] at hc
    obtain ⟨z, hz, hc⟩ := some_bind hc
    obtain rfl := pure_some hc
    exact okAlloc hop hz hR hn hr h
  | box t X =>
    rw [hop] at hc
    obtain ⟨x, hx, hc⟩ := some_bind hc
    obtain rfl := pure_some hc
    obtain ⟨v, hv, h⟩ := fetch_inv hx hl he h hr
    exact okBox hop hR hn hr hv h
  | buildSlice t m PS =>
    rw [hop] at hc
    simp only [cOp] at hc
    split at hc
    · rename_i el hu
      obtain ⟨sz, hs, hc⟩ := some_bind hc
      obtain ⟨z, hz, hc⟩ := some_bind hc
      split at hc
      · rename_i hcond
        obtain ⟨ps, hp, hc⟩ := some_bind hc
        obtain rfl := pure_some hc
        exact okRowSl hop hu hs hz hcond.1 hcond.2.1 hcond.2.2 hp hl he hR hn hr h
      · cases hc
    · cases hc
  | makeMap t r' =>
    rw [hop] at hc
    cases r' with
    | none => simp only [cOp, Option.some.injEq] at hc; subst hc; exact okMkMap hop hR hn h
    | some r' => simp [cOp] at hc
  | makeSlice t A B =>
    rw [hop] at hc
    simp only [cOp] at hc
    split at hc
    · rename_i el hu
      obtain ⟨sz, hs, hc⟩ := some_bind hc
      obtain ⟨z, hz, hc⟩ := some_bind hc
      obtain ⟨by_, hb, hc⟩ := some_bind hc
      split at hc
      · rename_i hcond
        obtain ⟨a, ha, hc⟩ := some_bind hc
        obtain ⟨b, hbb, hc⟩ := some_bind hc
        obtain rfl := pure_some hc
        obtain ⟨x, y', hx, hy, h⟩ := fetch2 ha hbb hl he hr h
        exact okMkSl hop hu hs hb hz hcond.1 hcond.2.1 hcond.2.2 hR hn hr hx hy h
      · cases hc
    · cases hc
  | convert S D X =>
    rw [hop] at hc
    simp only [cOp] at hc
    split at hc
    · obtain ⟨x, hx, hc⟩ := some_bind hc
      obtain rfl := pure_some hc
      cases h0
    · obtain ⟨x, hx, hc⟩ := some_bind hc
      obtain rfl := pure_some hc
      cases h0
    · rename_i el hS hD
      split at hc
      · rename_i hel
        obtain ⟨x, hx, hc⟩ := some_bind hc
        obtain rfl := pure_some hc
        obtain ⟨v, hv, h⟩ := fetch_inv hx hl he h hr
        exact okS2B hop hS hD hel hR hn hr hv h
      · cases hc
    · split at hc
      · obtain ⟨x, hx, hc⟩ := some_bind hc
        obtain rfl := pure_some hc
        cases h0
      · cases hc
    · cases hc
  | _ => have := cls_of hc; rw [hop, h0] at this; simp [clsOp] at this; try (split at this <;> simp at this)
theorem dWrite (hc : cOp P o.op = some iop) (h0 : cls iop = 3) (hR : Rel ι (un th KK) w) (hH : HT th n) (hl : TR ι l ac.tmps) (he : TR ι e ac.tmps) (hr : NE r) (h : denOp y ih iop l e th n k = r) : OkW ι KK P w ac.eval o n k r := by
  cases hop : o.op with
  | store t A B =>
    rw [hop] at hc
    obtain ⟨sz, hs, hc⟩ := some_bind hc
    obtain ⟨a, ha, hc⟩ := some_bind hc
    obtain ⟨b, hb, hc⟩ := some_bind hc
    obtain rfl := pure_some hc
    obtain ⟨x, y', hx, hy, h⟩ := fetch2 ha hb hl he hr h
    exact okSt hop hs hR hH hr hx hy h
  | mapUpdate t A B C =>
    rw [hop] at hc
    simp only [cOp] at hc
    split at hc
    · rename_i kt et hu
      obtain ⟨s, hk, hc⟩ := some_bind hc
      obtain ⟨a, ha, hc⟩ := some_bind hc
      obtain ⟨b, hb, hc⟩ := some_bind hc
      obtain ⟨c, hcc, hc⟩ := some_bind hc
      obtain rfl := pure_some hc
      obtain ⟨x, hx, h⟩ := fetch_inv ha hl he h hr
      obtain ⟨x2, hx2, h⟩ := fetch_inv hb hl he h hr
      obtain ⟨x3, hx3, h⟩ := fetch_inv hcc hl he h hr
      exact okMapUpd hop hu hk hR hH hr hx hx2 hx3 h
    · cases hc
  | call c =>
    rw [hop] at hc
    obtain ⟨callee, args, tys⟩ := c
    cases callee with
    | builtin b =>
      cases b with
      | append =>
        obtain ⟨t, tx, el, A, B, a, b, sz, by_, z, hty, hA, hcA, hcB, hu, hs, hb, hz, hz0, h1, h2, h3⟩ := cOp_append hc
        rcases h3 with ⟨q, hq, rfl⟩ | ⟨hq, rfl⟩
        · obtain ⟨x, y', hx, hy, h⟩ := fetch2 hcA hcB hl he hr h
          exact okAppZ hop rfl hA hty hu hq hs hb hz hz0 h1 h2 hR hH hr hx hy h
        · obtain ⟨x, y', hx, hy, h⟩ := fetch2 hcA hcB hl he hr h
          exact okApp hop rfl hA hty hu hq hs hb hz hz0 h1 h2 hR hH hr hx hy h
      | _ => have := cls_of hc; rw [h0] at this; simp [clsOp] at this
    | _ => have := cls_of hc; rw [h0] at this; simp [clsOp] at this
  | _ => have := cls_of hc; rw [hop, h0] at this; simp [clsOp] at this
end Ev
/- The counter does not fall (1). -/
namespace Ev
open Go
variable {r : Out}
theorem h_pAdd {x y : AV} {K : K} (hr : NE r) (h : pAdd x y K = r) : ∃ v, K v = r := by
  unfold pAdd at h
  obtain ⟨_, _, _, _, _, _, h⟩ := two_inv h hr
  rw [pI_eq] at h
  exact ⟨_, h⟩
theorem h_pSub {x y : AV} {K : K} (hr : NE r) (h : pSub x y K = r) : ∃ v, K v = r := by
  unfold pSub at h
  obtain ⟨_, _, _, _, _, _, h⟩ := two_inv h hr
  rw [pI_eq] at h
  exact ⟨_, h⟩
theorem h_pMul {x y : AV} {K : K} (hr : NE r) (h : pMul x y K = r) : ∃ v, K v = r := by
  unfold pMul at h
  obtain ⟨_, _, _, _, _, _, h⟩ := two_inv h hr
  rw [pI_eq] at h
  exact ⟨_, h⟩
theorem h_pQuo {x y : AV} {K : K} (hr : NE r) (h : pQuo x y K = r) : ∃ v, K v = r := by
  unfold pQuo at h
  obtain ⟨_, _, _, _, _, _, h⟩ := two_inv h hr
  rcases bO_cases h with ⟨_, h⟩ | ⟨_, h⟩
  · exact absurd h.symm (hr _)
  · rw [pI_eq] at h
    exact ⟨_, h⟩
theorem h_pRem {x y : AV} {K : K} (hr : NE r) (h : pRem x y K = r) : ∃ v, K v = r := by
  unfold pRem at h
  obtain ⟨_, _, _, _, _, _, h⟩ := two_inv h hr
  rcases bO_cases h with ⟨_, h⟩ | ⟨_, h⟩
  · exact absurd h.symm (hr _)
  · rw [pI_eq] at h
    exact ⟨_, h⟩
theorem h_pShl {x y : AV} {K : K} (hr : NE r) (h : pShl x y K = r) : ∃ v, K v = r := by
  unfold pShl at h
  obtain ⟨_, _, _, _, h⟩ := vint_inv h hr
  obtain ⟨_, _, _, _, h⟩ := vnat_inv h hr
  rcases bO_cases h with ⟨_, h⟩ | ⟨_, h⟩
  · rw [pI_eq] at h
    exact ⟨_, h⟩
  · obtain ⟨_, h⟩ := bO_inv h hr
    obtain ⟨_, h⟩ := bO_inv h hr
    rw [pI_eq] at h
    exact ⟨_, h⟩
theorem h_pShr {x y : AV} {K : K} (hr : NE r) (h : pShr x y K = r) : ∃ v, K v = r := by
  unfold pShr at h
  obtain ⟨_, _, _, _, h⟩ := vint_inv h hr
  obtain ⟨_, _, _, _, h⟩ := vnat_inv h hr
  rcases bO_cases h with ⟨_, h⟩ | ⟨_, h⟩
  · obtain ⟨_, _, h⟩ := natI_inv h hr
    rw [pI_eq] at h
    exact ⟨_, h⟩
  · obtain ⟨_, h⟩ := bO_inv h hr
    obtain ⟨_, h⟩ := bO_inv h hr
    obtain ⟨_, _, h⟩ := natI_inv h hr
    rw [pI_eq] at h
    exact ⟨_, h⟩
theorem h_pEql {x y : AV} {K : K} (hr : NE r) (h : pEql x y K = r) : ∃ v, K v = r := by
  unfold pEql at h
  obtain ⟨_, _, _, _, _, _, h⟩ := two_inv h hr
  rw [pB_eq] at h
  exact ⟨_, h⟩
theorem h_pNeq {x y : AV} {K : K} (hr : NE r) (h : pNeq x y K = r) : ∃ v, K v = r := by
  unfold pNeq at h
  obtain ⟨_, _, _, _, _, _, h⟩ := two_inv h hr
  rw [nB_eq] at h
  exact ⟨_, h⟩
theorem h_pLss {x y : AV} {K : K} (hr : NE r) (h : pLss x y K = r) : ∃ v, K v = r := by
  unfold pLss at h
  obtain ⟨_, _, _, _, _, _, h⟩ := two_inv h hr
  rw [nB_eq] at h
  exact ⟨_, h⟩
theorem h_pLeq {x y : AV} {K : K} (hr : NE r) (h : pLeq x y K = r) : ∃ v, K v = r := by
  unfold pLeq at h
  obtain ⟨_, _, _, _, _, _, h⟩ := two_inv h hr
  rw [pB_eq] at h
  exact ⟨_, h⟩
theorem h_pGtr {x y : AV} {K : K} (hr : NE r) (h : pGtr x y K = r) : ∃ v, K v = r := by
  unfold pGtr at h
  obtain ⟨_, _, _, _, _, _, h⟩ := two_inv h hr
  rw [nB_eq] at h
  exact ⟨_, h⟩
theorem h_pGeq {x y : AV} {K : K} (hr : NE r) (h : pGeq x y K = r) : ∃ v, K v = r := by
  unfold pGeq at h
  obtain ⟨_, _, _, _, _, _, h⟩ := two_inv h hr
  rw [pB_eq] at h
  exact ⟨_, h⟩
theorem h_pNeg {x : AV} {K : K} (hr : NE r) (h : pNeg x K = r) : ∃ v, K v = r := by
  unfold pNeg at h
  obtain ⟨_, _, _, _, h⟩ := vint_inv h hr
  rw [pI_eq] at h
  exact ⟨_, h⟩
theorem h_pNot {x : AV} {K : K} (hr : NE r) (h : pNot x K = r) : ∃ v, K v = r := by
  unfold pNot at h
  rcases vbool_inv h hr with ⟨_, h⟩ | ⟨_, _, _, h⟩ <;> exact ⟨_, h⟩
theorem h_pEqB {x y : AV} {K : K} (hr : NE r) (h : pEqB x y K = r) : ∃ v, K v = r := by
  unfold pEqB at h
  rcases vbool_inv h hr with ⟨_, h⟩ | ⟨_, _, _, h⟩ <;> rcases vbool_inv h hr with ⟨_, h⟩ | ⟨_, _, _, h⟩ <;> exact ⟨_, h⟩
theorem h_pNeB {x y : AV} {K : K} (hr : NE r) (h : pNeB x y K = r) : ∃ v, K v = r := by
  unfold pNeB at h
  rcases vbool_inv h hr with ⟨_, h⟩ | ⟨_, _, _, h⟩ <;> rcases vbool_inv h hr with ⟨_, h⟩ | ⟨_, _, _, h⟩ <;> exact ⟨_, h⟩
theorem h_pEqS {x y : AV} {K : K} (hr : NE r) (h : pEqS x y K = r) : ∃ v, K v = r := by
  unfold pEqS at h
  obtain ⟨_, _, h⟩ := vstr_inv h hr
  obtain ⟨_, _, h⟩ := vstr_inv h hr
  rw [pB_eq] at h
  exact ⟨_, h⟩
theorem h_pNeS {x y : AV} {K : K} (hr : NE r) (h : pNeS x y K = r) : ∃ v, K v = r := by
  unfold pNeS at h
  obtain ⟨_, _, h⟩ := vstr_inv h hr
  obtain ⟨_, _, h⟩ := vstr_inv h hr
  rw [nB_eq] at h
  exact ⟨_, h⟩
theorem h_pCat {x y : AV} {K : K} (hr : NE r) (h : pCat x y K = r) : ∃ v, K v = r := by
  unfold pCat at h
  obtain ⟨_, _, h⟩ := vstr_inv h hr
  obtain ⟨_, _, h⟩ := vstr_inv h hr
  obtain ⟨_, h⟩ := bO_inv h hr
  exact ⟨_, h⟩
theorem h_pNilChk {x : AV} {K : K} (hr : NE r) (h : pNilChk x K = r) : ∃ v, K v = r := by
  unfold pNilChk at h
  obtain ⟨_, h⟩ := bO_inv h hr
  obtain ⟨_, h⟩ := bO_inv h hr
  exact ⟨_, h⟩
theorem h_pIdxS {x y : AV} {K : K} (hr : NE r) (h : pIdxS x y K = r) : ∃ v, K v = r := by
  unfold pIdxS at h
  obtain ⟨_, _, _, _, h⟩ := vnat_inv h hr
  obtain ⟨_, _, h⟩ := vstr_inv h hr
  obtain ⟨_, _, h⟩ := snth_inv h hr
  exact ⟨_, h⟩
theorem h_pIdxByte {x y : AV} {K : K} (hr : NE r) (h : pIdxByte x y K = r) : ∃ v, K v = r := by
  unfold pIdxByte at h
  obtain ⟨_, _, h⟩ := vstr_inv h hr
  obtain ⟨_, _, _, _, h⟩ := vnat_inv h hr
  rw [pI_eq] at h
  exact ⟨_, h⟩
theorem h_pLenS {x : AV} {K : K} (hr : NE r) (h : pLenS x K = r) : ∃ v, K v = r := by
  unfold pLenS at h
  obtain ⟨_, _, h⟩ := vstr_inv h hr
  rw [pI_eq] at h
  exact ⟨_, h⟩
theorem h_pStr {x : AV} {K : K} (hr : NE r) (h : pStr x K = r) : ∃ v, K v = r := by
  unfold pStr at h
  obtain ⟨_, _, h⟩ := vstr_inv h hr
  exact ⟨_, h⟩
theorem h_pLenL {x : AV} {K : K} (hr : NE r) (h : pLenL x K = r) : ∃ v, K v = r := by
  unfold pLenL at h
  obtain ⟨_, _, _, _, _, _, _, h⟩ := vref_inv h hr
  rcases isSl_cases h with ⟨_, h⟩ | ⟨_, _, h⟩
  · exact ⟨_, h⟩
  · rcases bO_cases h with ⟨_, h⟩ | ⟨_, h⟩
    · exact ⟨_, h⟩
    · rcases bO_cases h with ⟨_, h⟩ | ⟨_, h⟩
      · exact ⟨_, h⟩
      · obtain ⟨_, h⟩ := bO_inv h hr
        exact ⟨_, h⟩
theorem h_pCap {x : AV} {K : K} (hr : NE r) (h : pCap x K = r) : ∃ v, K v = r := by
  unfold pCap at h
  obtain ⟨_, _, _, _, _, _, _, h⟩ := vref_inv h hr
  rcases bO_cases h with ⟨_, h⟩ | ⟨_, h⟩
  · exact ⟨_, h⟩
  · rcases bO_cases h with ⟨_, h⟩ | ⟨_, h⟩
    · exact ⟨_, h⟩
    · obtain ⟨_, h⟩ := bO_inv h hr
      exact ⟨_, h⟩
theorem h_pEqN {m : Nat} {x y : AV} {K : K} (hr : NE r) (h : pEqN m x y K = r) : ∃ v, K v = r := by
  unfold pEqN isNil at h
  obtain ⟨_, h⟩ := bO_inv h hr
  rcases bO_cases h with ⟨_, h⟩ | ⟨_, h⟩
  · obtain ⟨_, h⟩ := bO_inv h hr
    rcases bO_cases h with ⟨_, h⟩ | ⟨_, h⟩ <;> exact ⟨_, h⟩
  · obtain ⟨_, h⟩ := bO_inv h hr
    obtain ⟨_, h⟩ := bO_inv h hr
    exact ⟨_, h⟩
theorem h_pNeN {m : Nat} {x y : AV} {K : K} (hr : NE r) (h : pNeN m x y K = r) : ∃ v, K v = r := by
  unfold pNeN isNil at h
  obtain ⟨_, h⟩ := bO_inv h hr
  rcases bO_cases h with ⟨_, h⟩ | ⟨_, h⟩
  · obtain ⟨_, h⟩ := bO_inv h hr
    rcases bO_cases h with ⟨_, h⟩ | ⟨_, h⟩ <;> exact ⟨_, h⟩
  · obtain ⟨_, h⟩ := bO_inv h hr
    obtain ⟨_, h⟩ := bO_inv h hr
    exact ⟨_, h⟩
theorem h_pBit {g : Nat → Nat → Nat} {x y : AV} {K : K} (hr : NE r) (h : pBit g x y K = r) : ∃ v, K v = r := by
  unfold pBit at h
  obtain ⟨_, _, _, _, _, _, h⟩ := two_inv h hr
  obtain ⟨_, _, h⟩ := natI_inv h hr
  obtain ⟨_, _, h⟩ := natI_inv h hr
  rw [pI_eq] at h
  exact ⟨_, h⟩
theorem h_pMinMax {b : Bool} {x y : AV} {K : K} (hr : NE r) (h : pMinMax b x y K = r) : ∃ v, K v = r := by
  unfold pMinMax at h
  obtain ⟨_, _, _, _, _, _, h⟩ := two_inv h hr
  cases b <;> rcases bO_cases h with ⟨_, h⟩ | ⟨_, h⟩ <;> exact ⟨_, h⟩
theorem h_eqLeaf {c : Nat} {x y : AV} {f : Bool → Out} (hr : NE r) (h : eqLeaf c x y f = r) : ∃ b, f b = r := by
  unfold eqLeaf at h
  split at h
  · obtain ⟨_, _, _, _, _, _, h⟩ := two_inv h hr; exact ⟨_, h⟩
  · obtain ⟨_, _, h⟩ := vstr_inv h hr
    obtain ⟨_, _, h⟩ := vstr_inv h hr
    exact ⟨_, h⟩
  · rcases vbool_inv h hr with ⟨_, h⟩ | ⟨_, _, _, h⟩ <;> rcases vbool_inv h hr with ⟨_, h⟩ | ⟨_, _, _, h⟩ <;> exact ⟨_, h⟩
theorem h_eqCells : ∀ {cl : List Nat} {a b : AV} {f : Bool → Out}, NE r → eqCells cl a b f = r → ∃ b, f b = r
  | [], _, _, _, _, h => ⟨_, h⟩
  | c :: cl, a, b, f, hr, h => by
    obtain ⟨_, _, _, h⟩ := lcons_inv (show lcons a _ = r from h) hr
    obtain ⟨_, _, _, h⟩ := lcons_inv h hr
    obtain ⟨_, h⟩ := h_eqLeaf hr h
    rcases bO_cases h with ⟨_, h⟩ | ⟨_, h⟩
    · exact h_eqCells hr h
    · exact ⟨_, h⟩
theorem h_pEqA {cl : List Nat} {x y : AV} {K : K} (hr : NE r) (h : pEqA cl x y K = r) : ∃ v, K v = r := by
  unfold pEqA at h
  obtain ⟨_, _, _, h⟩ := vagg_inv h hr
  obtain ⟨_, _, _, h⟩ := vagg_inv h hr
  obtain ⟨_, h⟩ := h_eqCells hr h
  rw [pB_eq] at h
  exact ⟨_, h⟩
theorem h_pNeA {cl : List Nat} {x y : AV} {K : K} (hr : NE r) (h : pNeA cl x y K = r) : ∃ v, K v = r := by
  unfold pNeA at h
  obtain ⟨_, _, _, h⟩ := vagg_inv h hr
  obtain ⟨_, _, _, h⟩ := vagg_inv h hr
  obtain ⟨_, h⟩ := h_eqCells hr h
  rw [nB_eq] at h
  exact ⟨_, h⟩
theorem h_pPick {c a b : AV} {K : K} (hr : NE r) (h : pPick c a b K = r) : ∃ v, K v = r := by
  unfold pPick at h
  rcases vbool_inv h hr with ⟨_, h⟩ | ⟨_, _, _, h⟩ <;> exact ⟨_, h⟩
theorem h_pConv {q : Nat} {x : AV} {K : K} (hr : NE r) (h : pConv q x K = r) : ∃ v, K v = r := by
  unfold pConv at h
  obtain ⟨_, _, _, _, h⟩ := vint_inv h hr
  rw [pI_eq] at h
  exact ⟨_, h⟩
theorem h_pFad {q : Nat} {x : AV} {K : K} (hr : NE r) (h : pFad q x K = r) : ∃ v, K v = r := by
  unfold pFad at h
  obtain ⟨_, _, _, _, _, _, h⟩ := vptr_inv h hr
  rw [forceN_eq] at h
  exact ⟨_, h⟩
theorem h_pFld {off sz : Nat} {ag : Bool} {x : AV} {K : K} (hr : NE r) (h : pFld off sz ag x K = r) : ∃ v, K v = r := by
  unfold pFld at h
  obtain ⟨_, l, _, h⟩ := vagg_inv h hr
  cases ag with
  | false => obtain ⟨_, _, h⟩ := lnth_inv (show lnth l off K = r from h) hr; exact ⟨_, h⟩
  | true => obtain ⟨_, h⟩ := bO_inv h hr; exact ⟨_, h⟩
theorem h_pExt {i : Nat} {x : AV} {K : K} (hr : NE r) (h : pExt i x K = r) : ∃ v, K v = r := by
  unfold pExt at h
  obtain ⟨_, _, _, h⟩ := vtup_inv h hr
  obtain ⟨_, _, h⟩ := lnth_inv h hr
  exact ⟨_, h⟩
theorem h_pIad {sz : Nat} {x y : AV} {K : K} (hr : NE r) (h : pIad sz x y K = r) : ∃ v, K v = r := by
  unfold pIad at h
  obtain ⟨_, _, _, _, h⟩ := vnat_inv h hr
  obtain ⟨_, _, _, _, _, _, _, h⟩ := vref_inv h hr
  rcases isSl_cases h with ⟨_, h⟩ | ⟨_, _, h⟩
  · obtain ⟨_, h⟩ := bO_inv h hr
    rw [forceN_eq] at h
    exact ⟨_, h⟩
  · exact absurd h.symm (hr _)
theorem h_readC {c : T Cell} {ep : Nat} : ∀ {n o : Nat} {K : K}, NE r → readC c ep n o K = r → ∃ v, K v = r
  | 0, _, _, _, h => ⟨_, h⟩
  | n + 1, o, K, hr, h => by
    obtain ⟨_, _, _, _, h⟩ := cell_inv (show cell (c.get o) ep (fun v => readC c ep n (Nat.succ o) fun r => K (.cons v r)) = r from h) hr
    obtain ⟨_, h⟩ := h_readC hr h
    exact ⟨_, h⟩
theorem h_pLdC {sz : Nat} {x : AV} {t : H} {K : K} (hr : NE r) (h : pLdC sz x t K = r) : ∃ v, K v = r := by
  unfold pLdC at h
  obtain ⟨_, _, _, _, _, _, h⟩ := vptr_inv h hr
  obtain ⟨_, _, _, _, _, h⟩ := withRow_inv h hr
  obtain ⟨_, h⟩ := h_readC hr h
  exact ⟨_, h⟩
theorem h_pLd {x : AV} {t : H} {K : K} (hr : NE r) (h : pLd x t K = r) : ∃ v, K v = r := by
  unfold pLd at h
  obtain ⟨_, _, _, _, _, _, h⟩ := vptr_inv h hr
  obtain ⟨_, _, _, _, _, h⟩ := withRow_inv h hr
  obtain ⟨_, _, _, _, h⟩ := cell_inv h hr
  exact ⟨_, h⟩
theorem h_cellsK {v : AV} {f : AV → Out} (hr : NE r) (h : cellsK v f = r) : ∃ l, f l = r := by
  cases v with
  | num q n => exact ⟨_, h⟩
  | str s => exact ⟨_, h⟩
  | ref g b e o l c => exact ⟨_, h⟩
  | com g x l =>
    rcases bO_cases (show bO (Nat.beq g 0) (f l) (bO (Nat.beq g 1) (.err 64) (f (.cons (.com g x l) .nil))) = r from h) with ⟨_, h⟩ | ⟨_, h⟩
    · exact ⟨_, h⟩
    · rcases bO_cases h with ⟨_, h⟩ | ⟨_, h⟩
      · exact absurd h.symm (hr _)
      · exact ⟨_, h⟩
  | nil => exact absurd h.symm (hr _)
  | cons a b => exact absurd h.symm (hr _)
theorem h_parts1 {z : AV} {off sz : Nat} {v : AV} {K : K} (hr : NE r) (h : parts1 z off sz v K = r) : ∃ v, K v = r := by
  unfold parts1 at h
  obtain ⟨_, h⟩ := h_cellsK hr h
  obtain ⟨_, h⟩ := bO_inv h hr
  obtain ⟨_, h⟩ := bO_inv h hr
  exact ⟨_, h⟩
theorem h_fetch {l e : T AV} {x : Opd} {K : K} (hr : NE r) (h : fetch l e x K = r) : ∃ v, K v = r := by
  cases x with
  | k v => exact ⟨_, h⟩
  | t i =>
    change Option.rec (motive := fun _ => Out) (V i e K) K (l.get i) = r at h
    cases hg : l.get i with
    | some v => rw [hg] at h; exact ⟨_, h⟩
    | none => rw [hg] at h; obtain ⟨v, _, h⟩ := V_inv h hr; exact ⟨v, h⟩
theorem h_fetchs {l e : T AV} : ∀ {xs : List Opd} {K : K}, NE r → fetchs l e xs K = r → ∃ v, K v = r
  | [], _, _, h => ⟨_, h⟩
  | x :: xs, K, hr, h => by
    obtain ⟨_, h⟩ := h_fetch hr (show fetch l e x (fun v => fetchs l e xs fun r => K (.cons v r)) = r from h)
    obtain ⟨_, h⟩ := h_fetchs hr h
    exact ⟨_, h⟩
theorem h_fetchO {l e : T AV} {x : Option Opd} {f : Option AV → Out} (hr : NE r) (h : fetchO l e x f = r) : ∃ v, f v = r := by
  cases x with
  | none => exact ⟨_, h⟩
  | some x => obtain ⟨_, h⟩ := h_fetch hr (show fetch l e x _ = r from h); exact ⟨_, h⟩
theorem h_denParts {l e : T AV} : ∀ {ps : List (Nat × Nat × Opd)} {z : AV} {K : K}, NE r → denParts l e ps z K = r → ∃ v, K v = r
  | [], _, _, _, h => ⟨_, h⟩
  | p :: ps, z, K, hr, h => by
    obtain ⟨_, h⟩ := h_fetch hr (show fetch l e p.2.2 (fun v => parts1 z p.1 p.2.1 v fun z => denParts l e ps z K) = r from h)
    obtain ⟨_, h⟩ := h_parts1 hr h
    exact h_denParts hr h
theorem h_bnd {x : Option AV} {d : Nat} {f : Nat → Out} (hr : NE r) (h : bnd x d f = r) : ∃ n, f n = r := by
  cases x with
  | none => exact ⟨_, h⟩
  | some v => obtain ⟨_, _, _, _, h⟩ := vnat_inv (show vnat v f = r from h) hr; exact ⟨_, h⟩
theorem h_pSlS {v : AV} {lo hi : Option AV} {K : K} (hr : NE r) (h : pSlS v lo hi K = r) : ∃ v, K v = r := by
  unfold pSlS at h
  obtain ⟨_, _, h⟩ := vstr_inv h hr
  obtain ⟨_, h⟩ := h_bnd hr h
  obtain ⟨_, h⟩ := h_bnd hr h
  obtain ⟨_, h⟩ := bO_inv h hr
  obtain ⟨_, h⟩ := bO_inv h hr
  exact ⟨_, h⟩
theorem h_cut {sz g b ep o cap l hh m : Nat} {full : Bool} {K : K} (hr : NE r) (h : cut sz g b ep o cap l hh m full K = r) : ∃ v, K v = r := by
  unfold cut at h
  obtain ⟨_, h⟩ := bO_inv h hr
  obtain ⟨_, h⟩ := bO_inv h hr
  obtain ⟨_, h⟩ := bO_inv h hr
  rcases bO_cases h with ⟨_, h⟩ | ⟨_, h⟩
  · cases full with
    | true => exact ⟨_, h⟩
    | false =>
      rcases bO_cases (show bO (Nat.beq g 3) (K (.ref 3 b ep o 0 0)) (bO (Nat.beq l 0) (K (.ref 4 b ep o 0 0)) (K (.ref 5 b ep o l 0))) = r from h) with ⟨_, h⟩ | ⟨_, h⟩
      · exact ⟨_, h⟩
      · rcases bO_cases h with ⟨_, h⟩ | ⟨_, h⟩ <;> exact ⟨_, h⟩
  · rw [forceN_eq, forceN_eq, forceN_eq] at h
    exact ⟨_, h⟩
theorem h_szOk {sz g b l : Nat} {t : H} {q : Out} (hr : NE r) (h : szOk sz g b l t q = r) : q = r := by
  unfold szOk at h
  rcases bO_cases h with ⟨_, h⟩ | ⟨_, h⟩
  · exact h
  · rcases bO_cases h with ⟨_, h⟩ | ⟨_, h⟩
    · exact h
    · obtain ⟨_, _, _, _, _, h⟩ := withRow_inv h hr
      obtain ⟨_, h⟩ := bO_inv h hr
      exact h
theorem h_pSlV {sz : Nat} {v : AV} {lo hi mx : Option AV} {t : H} {K : K} (hr : NE r) (h : pSlV sz v lo hi mx t K = r) : ∃ v, K v = r := by
  unfold pSlV at h
  obtain ⟨g, b, ep, o, len, cap, _, h⟩ := vref_inv h hr
  rcases isSl_cases h with ⟨_, h⟩ | ⟨_, _, h⟩
  · cases mx with
    | none =>
      obtain ⟨_, h⟩ := h_bnd hr (show bnd hi len _ = r from h)
      obtain ⟨_, h⟩ := h_bnd hr h
      exact h_cut hr (h_szOk hr h)
    | some m =>
      obtain ⟨_, _, _, _, h⟩ := vnat_inv (show vnat m _ = r from h) hr
      obtain ⟨_, h⟩ := h_bnd hr h
      obtain ⟨_, h⟩ := h_bnd hr h
      exact h_cut hr (h_szOk hr h)
  · rcases bO_cases h with ⟨_, h⟩ | ⟨_, h⟩
    · obtain ⟨_, h⟩ := h_bnd hr h
      obtain ⟨_, h⟩ := h_bnd hr h
      obtain ⟨_, h⟩ := h_bnd hr h
      obtain ⟨_, h⟩ := bO_inv h hr
      exact ⟨_, h⟩
    · rcases bO_cases h with ⟨_, h⟩ | ⟨_, h⟩
      · obtain ⟨_, h⟩ := h_bnd hr h
        obtain ⟨_, h⟩ := h_bnd hr h
        obtain ⟨_, h⟩ := h_bnd hr h
        obtain ⟨_, h⟩ := bO_inv h hr
        exact ⟨_, h⟩
      · obtain ⟨_, h⟩ := bO_inv h hr
        obtain ⟨_, h⟩ := h_bnd hr h
        obtain ⟨_, h⟩ := h_bnd hr h
        cases mx with
        | none => exact absurd h.symm (hr _)
        | some m =>
          obtain ⟨_, _, _, _, h⟩ := vnat_inv (show vnat m _ = r from h) hr
          obtain ⟨_, h⟩ := bO_inv h hr
          exact ⟨_, h⟩
theorem h_kcls {s : Bool} {q : AV} {f : Out} (hr : NE r) (h : kcls s q f = r) : f = r := (kcls_inv h hr).2
theorem h_eqCell {x y : AV} {f : Bool → Out} (hr : NE r) (h : eqCell x y f = r) : ∃ b, f b = r := by
  cases x with
  | num q a =>
    obtain ⟨_, _, _, h⟩ := vnum_inv (show vnum y _ = r from h) hr
    obtain ⟨_, h⟩ := bO_inv h hr
    exact ⟨_, h⟩
  | str s => obtain ⟨_, _, h⟩ := vstr_inv (show vstr y _ = r from h) hr; exact ⟨_, h⟩
  | _ => exact absurd h.symm (hr _)
theorem h_mfind {q : AV} {no : Out} {K : K} : ∀ {es : ML}, NE r → mfind q es no K = r → no = r ∨ ∃ v, K v = r
  | .nil, _, h => .inl h
  | .cons k' v es, hr, h => by
    obtain ⟨_, h⟩ := h_eqCell hr (show eqCell q k' (fun b => bO b (K v) (mfind q es no K)) = r from h)
    rcases bO_cases h with ⟨_, h⟩ | ⟨_, h⟩
    · exact .inr ⟨_, h⟩
    · exact h_mfind hr h
theorem h_vmap {v : AV} {t : H} {f : ML → Out} (hr : NE r) (h : vmap v t f = r) : ∃ es, f es = r := by
  unfold vmap at h
  obtain ⟨_, _, _, _, _, _, _, h⟩ := vref_inv h hr
  rcases bO_cases h with ⟨_, h⟩ | ⟨_, h⟩
  · obtain ⟨_, _, h⟩ := withMap_inv h hr; exact ⟨_, h⟩
  · obtain ⟨_, h⟩ := bO_inv h hr; exact ⟨_, h⟩
theorem h_pLook {s : Bool} {z m q : AV} {t : H} {K : K} (hr : NE r) (h : pLook s z m q t K = r) : ∃ v, K v = r := by
  unfold pLook at h
  obtain ⟨_, h⟩ := h_vmap hr (h_kcls hr h)
  rcases h_mfind hr h with h | h
  · exact ⟨_, h⟩
  · exact h
theorem h_pLookOk {s : Bool} {z m q : AV} {t : H} {K : K} (hr : NE r) (h : pLookOk s z m q t K = r) : ∃ v, K v = r := by
  unfold pLookOk at h
  obtain ⟨_, h⟩ := h_vmap hr (h_kcls hr h)
  rcases h_mfind hr h with h | ⟨_, h⟩
  · exact ⟨_, h⟩
  · exact ⟨_, h⟩
theorem h_lstr : ∀ {l : AV} {f : List Nat → Out}, NE r → lstr l f = r → ∃ s, f s = r := by
  intro l
  induction l with
  | cons a b _ ih =>
    intro f hr h
    obtain ⟨_, _, _, h⟩ := vnum_inv (show vnum a (fun q i => bO (Nat.beq q 4) (natI i fun c => bO (Nat.blt c 256) (lstr b fun r => f (c :: r)) (.err 61)) (.err 61)) = r from h) hr
    obtain ⟨_, h⟩ := bO_inv h hr
    obtain ⟨_, _, h⟩ := natI_inv h hr
    obtain ⟨_, h⟩ := bO_inv h hr
    obtain ⟨_, h⟩ := ih hr h
    exact ⟨_, h⟩
  | _ => intro f hr h; exact ⟨_, h⟩
theorem h_pB2S {v : AV} {t : H} {K : K} (hr : NE r) (h : pB2S v t K = r) : ∃ v, K v = r := by
  unfold pB2S at h
  obtain ⟨_, _, _, _, _, _, _, h⟩ := vref_inv h hr
  rcases isSl_cases h with ⟨_, h⟩ | ⟨_, _, h⟩
  · obtain ⟨_, _, _, _, _, h⟩ := withRow_inv h hr
    obtain ⟨_, h⟩ := h_readC hr h
    obtain ⟨_, h⟩ := h_lstr hr h
    exact ⟨_, h⟩
  · rcases bO_cases h with ⟨_, h⟩ | ⟨_, h⟩
    · exact ⟨_, h⟩
    · rcases bO_cases h with ⟨_, h⟩ | ⟨_, h⟩
      · exact ⟨_, h⟩
      · obtain ⟨_, h⟩ := bO_inv h hr
        exact ⟨_, h⟩
end Ev
/- The counter does not fall (2). -/
namespace Ev
open Go
variable {r : Out} {th : H} {n : Nat} {k : KH}
/-- it is handed on -/
def On (n : Nat) (k : KH) (r : Out) : Prop := ∃ v t' n', n ≤ n' ∧ k v t' n' = r
/-- one block more -/
def On1 (th : H) (n : Nat) (k : KH) (r : Out) : Prop := ∃ v ob, k v (th.set ob n) (n + 1) = r
theorem On1.on (h : On1 th n k r) : On n k r := let ⟨v, _, h⟩ := h; ⟨v, _, n + 1, by omega, h⟩
theorem o_pBox {v : AV} (hr : NE r) (h : pBox v th n k = r) : On1 th n k r := by
  unfold pBox at h
  obtain ⟨_, h⟩ := h_cellsK hr h
  rw [newRow_eq] at h
  exact ⟨_, _, h⟩
theorem o_pRowSl {sz ln : Nat} {v : AV} (hr : NE r) (h : pRowSl sz ln v th n k = r) : On1 th n k r := by
  unfold pRowSl at h
  obtain ⟨_, h⟩ := bO_inv h hr
  rw [newRow_eq] at h
  exact ⟨_, _, h⟩
theorem o_pMkMap (h : pMkMap th n k = r) : On1 th n k r := by
  unfold pMkMap at h
  rw [T.seq_eq, forceN_eq] at h
  exact ⟨_, _, h⟩
theorem o_pMkSl {sz b : Nat} {z l c : AV} (hr : NE r) (h : pMkSl sz b z l c th n k = r) : On1 th n k r := by
  unfold pMkSl at h
  obtain ⟨_, _, _, _, h⟩ := vnat_inv h hr
  obtain ⟨_, _, _, _, h⟩ := vnat_inv h hr
  obtain ⟨_, h⟩ := bO_inv h hr
  obtain ⟨_, h⟩ := bO_inv h hr
  rw [newRow_eq] at h
  exact ⟨_, _, h⟩
theorem o_pS2B {v : AV} (hr : NE r) (h : pS2B v th n k = r) : On1 th n k r := by
  unfold pS2B at h
  obtain ⟨_, _, h⟩ := vstr_inv h hr
  rw [newRow_eq] at h
  exact ⟨_, _, h⟩
theorem h_stAt {b ep o : Nat} {l : AV} {f : H → Out} (hr : NE r) (h : stAt b ep o l th f = r) : ∃ t', f t' = r := by
  unfold stAt at h
  obtain ⟨_, _, _, _, _, h⟩ := withRow_inv h hr
  obtain ⟨_, h⟩ := bO_inv h hr
  obtain ⟨_, h, _⟩ := storeC_inv hr h
  rw [T.seq_eq] at h
  exact ⟨_, h⟩
theorem h_pSt {sz : Nat} {p v : AV} {f : H → Out} (hr : NE r) (h : pSt sz p v th f = r) : ∃ t', f t' = r := by
  unfold pSt at h
  obtain ⟨_, h⟩ := h_cellsK hr h
  obtain ⟨_, h⟩ := bO_inv h hr
  obtain ⟨_, _, _, _, _, _, h⟩ := vptr_inv h hr
  exact h_stAt hr h
theorem h_mput {q v : AV} : ∀ {es : ML} {f : ML → Out}, NE r → mput q v es f = r → ∃ es', f es' = r
  | .nil, _, _, h => ⟨_, h⟩
  | .cons k' v' es, f, hr, h => by
    obtain ⟨_, h⟩ := h_eqCell hr (show eqCell q k' (fun b => bO b (f (.cons q v es)) (mput q v es fun r' => f (.cons k' v' r'))) = r from h)
    rcases bO_cases h with ⟨_, h⟩ | ⟨_, h⟩
    · exact ⟨_, h⟩
    · obtain ⟨_, h⟩ := h_mput hr h; exact ⟨_, h⟩
theorem h_pMapUpd {s : Bool} {m q v : AV} {f : H → Out} (hr : NE r) (h : pMapUpd s m q v th f = r) : ∃ t', f t' = r := by
  unfold pMapUpd at h
  obtain ⟨_, _, _, _, _, _, _, h⟩ := vref_inv (h_kcls hr h) hr
  obtain ⟨_, h⟩ := bO_inv h hr
  obtain ⟨_, _, h⟩ := withMap_inv h hr
  obtain ⟨_, h⟩ := h_mput hr h
  rw [T.seq_eq] at h
  exact ⟨_, h⟩
theorem o_fresh {sz : Nat} {l : AV} {c : Nat} (h : fresh sz l c th n k = r) : On n k r := by
  unfold fresh at h
  rw [newRow_eq] at h
  exact ⟨_, _, _, by omega, h⟩
theorem o_appTo {sz bytes : Nat} {s new : AV} {cnt : Nat} (hr : NE r) (h : appTo sz bytes s new cnt th n k = r) : On n k r := by
  unfold appTo at h
  obtain ⟨g, b, ep, o, len, cap, _, h⟩ := vref_inv h hr
  rcases isSl_cases h with ⟨_, h⟩ | ⟨_, _, h⟩
  · rw [forceN_eq] at h
    rcases bO_cases h with ⟨_, h⟩ | ⟨_, h⟩
    · obtain ⟨_, h⟩ := h_stAt hr h; exact ⟨_, _, _, Nat.le_refl _, h⟩
    · obtain ⟨_, h⟩ := bO_inv h hr
      rcases bO_cases h with ⟨_, h⟩ | ⟨_, h⟩
      · obtain ⟨_, _, _, _, _, h⟩ := withRow_inv h hr
        obtain ⟨_, h⟩ := h_readC hr h
        exact o_fresh h
      · obtain ⟨_, h⟩ := bO_inv h hr
        obtain ⟨_, h⟩ := bO_inv h hr
        obtain ⟨_, _, _, _, _, h⟩ := withRow_inv h hr
        obtain ⟨_, h⟩ := bO_inv h hr
        obtain ⟨_, h⟩ := bO_inv h hr
        obtain ⟨_, h⟩ := bO_inv h hr
        rw [forceN_eq, forceN_eq, T.seq_eq, T.seq_eq] at h
        exact ⟨_, _, _, Nat.le_refl _, h⟩
  · rcases bO_cases h with ⟨_, h⟩ | ⟨_, h⟩
    · rcases bO_cases h with ⟨_, h⟩ | ⟨_, h⟩
      · exact ⟨_, _, _, Nat.le_refl _, h⟩
      · rcases bO_cases h with ⟨_, h⟩ | ⟨_, h⟩
        · exact ⟨_, _, _, Nat.le_refl _, h⟩
        · obtain ⟨_, h⟩ := bO_inv h hr; exact ⟨_, _, _, Nat.le_refl _, h⟩
    · obtain ⟨_, h⟩ := bO_inv h hr
      rcases bO_cases h with ⟨_, h⟩ | ⟨_, h⟩
      · exact o_fresh h
      · obtain ⟨_, h⟩ := bO_inv h hr; exact o_fresh h
theorem o_pApp {sz bytes : Nat} {x y : AV} (hr : NE r) (h : pApp sz bytes x y th n k = r) : On n k r := by
  cases y with
  | str s => obtain ⟨_, h⟩ := bO_inv (show bO (Nat.beq sz 1) _ (.err 59) = r from h) hr; exact o_appTo hr h
  | ref g b ep o len c =>
    rcases isSl_cases (show isSl g (withRow th b fun _ c _ _ => readC c ep (Nat.mul len sz) o fun new => appTo sz bytes x new len th n k) _ = r from h) with ⟨_, h⟩ | ⟨_, _, h⟩
    · obtain ⟨_, _, _, _, _, h⟩ := withRow_inv h hr
      obtain ⟨_, h⟩ := h_readC hr h
      exact o_appTo hr h
    · rcases bO_cases h with ⟨_, h⟩ | ⟨_, h⟩
      · exact o_appTo hr h
      · rcases bO_cases h with ⟨_, h⟩ | ⟨_, h⟩
        · exact o_appTo hr h
        · obtain ⟨_, h⟩ := bO_inv h hr; exact o_appTo hr h
  | _ => exact absurd h.symm (hr _)
theorem o_pAppZ {sz bytes : Nat} {z x c : AV} (hr : NE r) (h : pAppZ sz bytes z x c th n k = r) : On n k r := by
  unfold pAppZ at h
  obtain ⟨_, _, _, _, h⟩ := vnat_inv h hr
  obtain ⟨_, h⟩ := bO_inv h hr
  exact o_appTo hr h
end Ev
/- The counter does not fall (3). -/
namespace Ev
open Go
variable {r : Out} {l e : T AV} {th : H} {n : Nat} {k : KH} {y : Yh} {ih : Ih}
def YM (y : Yh) : Prop := ∀ id a t n v t' n', y id a t n = .ok v t' n' → n ≤ n'
def IM (ih : Ih) : Prop := ∀ y f a t n v t' n', YM y → ih y f a t n = .ok v t' n' → n ≤ n'
theorem noY_m : YM noY := fun _ _ _ _ _ _ _ h => by cases h
theorem C_inv {f : Nat} {a : AV} (hr : NE r) (h : C ih f a th n k = r) : ∃ v t' n', ih noY f a th n = .ok v t' n' ∧ k v t' n' = r := by
  unfold C at h
  cases hc : ih noY f a th n with
  | ok v t' n' => rw [hc] at h; exact ⟨v, t', n', rfl, h⟩
  | err c => rw [hc] at h; exact absurd h.symm (hr _)
  | _ => rw [hc] at h; exact absurd h.symm (hr _)
theorem Cy_inv {id : Nat} {a : AV} (hr : NE r) (h : Cy y id a th n k = r) : ∃ v t' n', y id a th n = .ok v t' n' ∧ k v t' n' = r := by
  unfold Cy at h
  cases hc : y id a th n with
  | ok v t' n' => rw [hc] at h; exact ⟨v, t', n', rfl, h⟩
  | err c => rw [hc] at h; exact absurd h.symm (hr _)
  | _ => rw [hc] at h; exact absurd h.symm (hr _)
theorem B_inv {x : Out} (hr : NE r) (h : B x k = r) : ∃ v t' n', x = .ok v t' n' ∧ k v t' n' = r := by
  cases x with
  | ok v t' n' => exact ⟨v, t', n', rfl, h⟩
  | err c => exact absurd h.symm (hr _)
  | _ => exact absurd h.symm (hr _)
/-- a call of a func value: what it is -/
theorem Cv_inv {x a : AV} (hr : NE r) (h : Cv y ih x a th n k = r) :
    (∃ b ep o l' c, x = .ref 11 b ep o l' c ∧ Cy y b a th n k = r) ∨ (∃ f l', x = .com 2 f l' ∧ C ih f (lapp a l') th n k = r) ∨ ∃ f l', x = .com 4 f l' ∧ C ih f (lapp l' a) th n k = r := by
  cases x with
  | ref g b ep o l' c =>
    obtain ⟨h1, h⟩ := bO_inv (show bO (Nat.beq g 11) (Cy y b a th n k) (.err 20) = r from h) hr
    obtain rfl := beq_nat h1
    exact .inl ⟨_, _, _, _, _, rfl, h⟩
  | com g f l' =>
    rcases bO_cases (show bO (Nat.beq g 2) (C ih f (lapp a l') th n k) (bO (Nat.beq g 4) (C ih f (lapp l' a) th n k) (.err 20)) = r from h) with ⟨h1, h⟩ | ⟨_, h⟩
    · obtain rfl := beq_nat h1
      exact .inr (.inl ⟨_, _, rfl, h⟩)
    · obtain ⟨h1, h⟩ := bO_inv h hr
      obtain rfl := beq_nat h1
      exact .inr (.inr ⟨_, _, rfl, h⟩)
  | _ => exact absurd h.symm (hr _)
theorem h_den1 {c : Nat} {x : AV} {K : K} (hr : NE r) (h : den1 c x K = r) : ∃ v, K v = r := by
  unfold den1 at h
  split at h
  · exact h_pNilChk hr h
  · exact h_pNeg hr h
  · exact h_pNot hr h
  · exact h_pLenS hr h
  · exact h_pCap hr h
  · exact h_pLenL hr h
  · exact h_pStr hr h
  · exact absurd h.symm (hr _)
theorem h_den2 {c : Nat} {x y : AV} {K : K} (hr : NE r) (h : den2 c x y K = r) : ∃ v, K v = r := by
  unfold den2 at h
  split at h
  · exact h_pAdd hr h
  · exact h_pSub hr h
  · exact h_pMul hr h
  · exact h_pQuo hr h
  · exact h_pRem hr h
  · exact h_pBit hr h
  · exact h_pBit hr h
  · exact h_pBit hr h
  · exact h_pShl hr h
  · exact h_pShr hr h
  · exact h_pEql hr h
  · exact h_pNeq hr h
  · exact h_pLss hr h
  · exact h_pLeq hr h
  · exact h_pGtr hr h
  · exact h_pGeq hr h
  · exact h_pEqB hr h
  · exact h_pNeB hr h
  · exact h_pEqS hr h
  · exact h_pNeS hr h
  · exact h_pCat hr h
  · exact h_pMinMax hr h
  · exact h_pMinMax hr h
  · exact h_pIdxByte hr h
  · exact h_pIdxS hr h
  · exact h_pEqN hr h
  · exact h_pNeN hr h
  · exact h_pEqN hr h
  · exact h_pNeN hr h
  · exact h_pEqN hr h
  · exact h_pNeN hr h
  · exact h_pEqN hr h
  · exact h_pNeN hr h
  · exact h_pEqN hr h
  · exact h_pNeN hr h
  · exact absurd h.symm (hr _)
theorem On.pure {p : Out} (h : ∃ v, k v th n = r) : On n k r := let ⟨v, h⟩ := h; ⟨v, th, n, Nat.le_refl _, h⟩
theorem o_C {f : Nat} {a : AV} (hI : IM ih) (hr : NE r) (h : C ih f a th n k = r) : On n k r := by
  obtain ⟨v, t', n', h1, h2⟩ := C_inv hr h
  exact ⟨v, t', n', hI _ _ _ _ _ _ _ _ noY_m h1, h2⟩
theorem o_alloc {o : IOp} (hc : cls o = 2) (hr : NE r) (h : denOp y ih o l e th n k = r) : On1 th n k r := by
  cases o with
  | alloc z => exact o_pBox hr h
  | box x => obtain ⟨_, h⟩ := h_fetch hr h; exact o_pBox hr h
  | rowSl sz ln z ps => obtain ⟨_, h⟩ := h_denParts hr h; exact o_pRowSl hr h
  | mkMap => exact o_pMkMap h
  | mkSl sz b z a c => obtain ⟨_, h⟩ := h_fetch hr h; obtain ⟨_, h⟩ := h_fetch hr h; exact o_pMkSl hr h
  | s2b x => obtain ⟨_, h⟩ := h_fetch hr h; exact o_pS2B hr h
  | _ => cases hc
theorem o_pure {o : IOp} (hc : cls o < 2) (hr : NE r) (h : denOp y ih o l e th n k = r) : ∃ v, k v th n = r := by
  cases o with
  | mv x => obtain ⟨_, h⟩ := h_fetch hr h; exact ⟨_, h⟩
  | p1 c x => obtain ⟨_, h⟩ := h_fetch hr h; obtain ⟨_, h⟩ := h_den1 hr h; exact ⟨_, h⟩
  | p2 c x z => obtain ⟨_, h⟩ := h_fetch hr h; obtain ⟨_, h⟩ := h_fetch hr h; obtain ⟨_, h⟩ := h_den2 hr h; exact ⟨_, h⟩
  | conv q x => obtain ⟨_, h⟩ := h_fetch hr h; obtain ⟨_, h⟩ := h_pConv hr h; exact ⟨_, h⟩
  | pick c a b => obtain ⟨_, h⟩ := h_fetch hr h; obtain ⟨_, h⟩ := h_fetch hr h; obtain ⟨_, h⟩ := h_fetch hr h; obtain ⟨_, h⟩ := h_pPick hr h; exact ⟨_, h⟩
  | fad off x => obtain ⟨_, h⟩ := h_fetch hr h; obtain ⟨_, h⟩ := h_pFad hr h; exact ⟨_, h⟩
  | fld off sz ag x => obtain ⟨_, h⟩ := h_fetch hr h; obtain ⟨_, h⟩ := h_pFld hr h; exact ⟨_, h⟩
  | ext i x => obtain ⟨_, h⟩ := h_fetch hr h; obtain ⟨_, h⟩ := h_pExt hr h; exact ⟨_, h⟩
  | iad sz x i => obtain ⟨_, h⟩ := h_fetch hr h; obtain ⟨_, h⟩ := h_fetch hr h; obtain ⟨_, h⟩ := h_pIad hr h; exact ⟨_, h⟩
  | ldC sz x => obtain ⟨_, h⟩ := h_fetch hr h; obtain ⟨_, h⟩ := h_pLdC hr h; exact ⟨_, h⟩
  | ld x => obtain ⟨_, h⟩ := h_fetch hr h; obtain ⟨_, h⟩ := h_pLd hr h; exact ⟨_, h⟩
  | build z ps => obtain ⟨_, h⟩ := h_denParts hr h; exact ⟨_, h⟩
  | slS x lo hi => obtain ⟨_, h⟩ := h_fetch hr h; obtain ⟨_, h⟩ := h_fetchO hr h; obtain ⟨_, h⟩ := h_fetchO hr h; obtain ⟨_, h⟩ := h_pSlS hr h; exact ⟨_, h⟩
  | slV sz x lo hi mx => obtain ⟨_, h⟩ := h_fetch hr h; obtain ⟨_, h⟩ := h_fetchO hr h; obtain ⟨_, h⟩ := h_fetchO hr h; obtain ⟨_, h⟩ := h_fetchO hr h; obtain ⟨_, h⟩ := h_pSlV hr h; exact ⟨_, h⟩
  | look ok s z m q =>
    obtain ⟨_, h⟩ := h_fetch hr h; obtain ⟨_, h⟩ := h_fetch hr h
    cases ok with
    | false => obtain ⟨_, h⟩ := h_pLook hr h; exact ⟨_, h⟩
    | true => obtain ⟨_, h⟩ := h_pLookOk hr h; exact ⟨_, h⟩
  | eqA neg cl a b =>
    obtain ⟨_, h⟩ := h_fetch hr h; obtain ⟨_, h⟩ := h_fetch hr h
    cases neg with
    | false => obtain ⟨_, h⟩ := h_pEqA hr h; exact ⟨_, h⟩
    | true => obtain ⟨_, h⟩ := h_pNeA hr h; exact ⟨_, h⟩
  | mkI ty x => obtain ⟨_, h⟩ := h_fetch hr h; exact ⟨_, h⟩
  | mkF f caps => obtain ⟨_, h⟩ := h_fetchs hr h; exact ⟨_, h⟩
  | mkB f first => obtain ⟨_, h⟩ := h_fetchs hr h; exact ⟨_, h⟩
  | b2s x => obtain ⟨_, h⟩ := h_fetch hr h; obtain ⟨_, h⟩ := h_pB2S hr h; exact ⟨_, h⟩
  | _ => simp [cls] at hc
theorem o_denOp {o : IOp} (hI : IM ih) (hY : YM y) (hr : NE r) (h : denOp y ih o l e th n k = r) : On n k r := by
  have fin : (∃ v, k v th n = r) → On n k r := fun ⟨v, h⟩ => ⟨v, th, n, Nat.le_refl _, h⟩
  cases o with
  | mv x => obtain ⟨_, h⟩ := h_fetch hr h; exact fin ⟨_, h⟩
  | p1 c x => obtain ⟨_, h⟩ := h_fetch hr h; obtain ⟨_, h⟩ := h_den1 hr h; exact fin ⟨_, h⟩
  | p2 c x z => obtain ⟨_, h⟩ := h_fetch hr h; obtain ⟨_, h⟩ := h_fetch hr h; obtain ⟨_, h⟩ := h_den2 hr h; exact fin ⟨_, h⟩
  | conv q x => obtain ⟨_, h⟩ := h_fetch hr h; obtain ⟨_, h⟩ := h_pConv hr h; exact fin ⟨_, h⟩
  | pick c a b => obtain ⟨_, h⟩ := h_fetch hr h; obtain ⟨_, h⟩ := h_fetch hr h; obtain ⟨_, h⟩ := h_fetch hr h; obtain ⟨_, h⟩ := h_pPick hr h; exact fin ⟨_, h⟩
  | fad off x => obtain ⟨_, h⟩ := h_fetch hr h; obtain ⟨_, h⟩ := h_pFad hr h; exact fin ⟨_, h⟩
  | fld off sz ag x => obtain ⟨_, h⟩ := h_fetch hr h; obtain ⟨_, h⟩ := h_pFld hr h; exact fin ⟨_, h⟩
  | ext i x => obtain ⟨_, h⟩ := h_fetch hr h; obtain ⟨_, h⟩ := h_pExt hr h; exact fin ⟨_, h⟩
  | iad sz x i => obtain ⟨_, h⟩ := h_fetch hr h; obtain ⟨_, h⟩ := h_fetch hr h; obtain ⟨_, h⟩ := h_pIad hr h; exact fin ⟨_, h⟩
  | ldC sz x => obtain ⟨_, h⟩ := h_fetch hr h; obtain ⟨_, h⟩ := h_pLdC hr h; exact fin ⟨_, h⟩
  | ld x => obtain ⟨_, h⟩ := h_fetch hr h; obtain ⟨_, h⟩ := h_pLd hr h; exact fin ⟨_, h⟩
  | build z ps => obtain ⟨_, h⟩ := h_denParts hr h; exact fin ⟨_, h⟩
  | slS x lo hi => obtain ⟨_, h⟩ := h_fetch hr h; obtain ⟨_, h⟩ := h_fetchO hr h; obtain ⟨_, h⟩ := h_fetchO hr h; obtain ⟨_, h⟩ := h_pSlS hr h; exact fin ⟨_, h⟩
  | slV sz x lo hi mx => obtain ⟨_, h⟩ := h_fetch hr h; obtain ⟨_, h⟩ := h_fetchO hr h; obtain ⟨_, h⟩ := h_fetchO hr h; obtain ⟨_, h⟩ := h_fetchO hr h; obtain ⟨_, h⟩ := h_pSlV hr h; exact fin ⟨_, h⟩
  | look ok s z m q =>
    obtain ⟨_, h⟩ := h_fetch hr h; obtain ⟨_, h⟩ := h_fetch hr h
    cases ok with
    | false => obtain ⟨_, h⟩ := h_pLook hr h; exact fin ⟨_, h⟩
    | true => obtain ⟨_, h⟩ := h_pLookOk hr h; exact fin ⟨_, h⟩
  | eqA neg cl a b =>
    obtain ⟨_, h⟩ := h_fetch hr h; obtain ⟨_, h⟩ := h_fetch hr h
    cases neg with
    | false => obtain ⟨_, h⟩ := h_pEqA hr h; exact fin ⟨_, h⟩
    | true => obtain ⟨_, h⟩ := h_pNeA hr h; exact fin ⟨_, h⟩
  | mkI ty x => obtain ⟨_, h⟩ := h_fetch hr h; exact fin ⟨_, h⟩
  | mkF f caps => obtain ⟨_, h⟩ := h_fetchs hr h; exact fin ⟨_, h⟩
  | mkB f first => obtain ⟨_, h⟩ := h_fetchs hr h; exact fin ⟨_, h⟩
  | b2s x => obtain ⟨_, h⟩ := h_fetch hr h; obtain ⟨_, h⟩ := h_pB2S hr h; exact fin ⟨_, h⟩
  | alloc z => exact (o_pBox hr h).on
  | box x => obtain ⟨_, h⟩ := h_fetch hr h; exact (o_pBox hr h).on
  | rowSl sz ln z ps => obtain ⟨_, h⟩ := h_denParts hr h; exact (o_pRowSl hr h).on
  | mkMap => exact (o_pMkMap h).on
  | mkSl sz b z a c => obtain ⟨_, h⟩ := h_fetch hr h; obtain ⟨_, h⟩ := h_fetch hr h; exact (o_pMkSl hr h).on
  | s2b x => obtain ⟨_, h⟩ := h_fetch hr h; exact (o_pS2B hr h).on
  | st sz p v => obtain ⟨_, h⟩ := h_fetch hr h; obtain ⟨_, h⟩ := h_fetch hr h; obtain ⟨_, h⟩ := h_pSt hr h; exact ⟨_, _, _, Nat.le_refl _, h⟩
  | mapUpd s m q v => obtain ⟨_, h⟩ := h_fetch hr h; obtain ⟨_, h⟩ := h_fetch hr h; obtain ⟨_, h⟩ := h_fetch hr h; obtain ⟨_, h⟩ := h_pMapUpd hr h; exact ⟨_, _, _, Nat.le_refl _, h⟩
  | app sz b x z => obtain ⟨_, h⟩ := h_fetch hr h; obtain ⟨_, h⟩ := h_fetch hr h; exact o_pApp hr h
  | appZ sz b z x c => obtain ⟨_, h⟩ := h_fetch hr h; obtain ⟨_, h⟩ := h_fetch hr h; exact o_pAppZ hr h
  | call f args => obtain ⟨_, h⟩ := h_fetchs hr h; exact o_C hI hr h
  | callv x args =>
    obtain ⟨_, h⟩ := h_fetch hr h; obtain ⟨_, h⟩ := h_fetchs hr h
    rcases Cv_inv hr h with ⟨b, ep, o, l', c, _, h⟩ | ⟨f, l', _, h⟩ | ⟨f, l', _, h⟩
    · obtain ⟨v, t', n', h1, h2⟩ := Cy_inv hr h
      exact ⟨v, t', n', hY _ _ _ _ _ _ _ h1, h2⟩
    · exact o_C hI hr h
    · exact o_C hI hr h
  | bad w => exact absurd h.symm (hr _)
end Ev
/- The counter does not fall (4): code. -/
namespace Ev
open Go
variable {r : Out} {l e : T AV} {th : H} {n : Nat} {y : Yh} {ih : Ih}
/-- it is left otherwise than at its end -/
def Left (n : Nat) (r : Out) : Prop := (∃ id e t n', n ≤ n' ∧ r = .exit id e t n') ∨ (∃ id e t n', n ≤ n' ∧ r = .goto id e t n') ∨ ∃ e t n', n ≤ n' ∧ r = .ret e t n'
def Thru (n : Nat) (k : KD) (r : Out) : Prop := (∃ e' t' n', n ≤ n' ∧ k e' t' n' = r) ∨ Left n r
theorem Left.mono {m n : Nat} (h : m ≤ n) : Left n r → Left m r
  | .inl ⟨id, e, t, n', h1, h2⟩ => .inl ⟨id, e, t, n', by omega, h2⟩
  | .inr (.inl ⟨id, e, t, n', h1, h2⟩) => .inr (.inl ⟨id, e, t, n', by omega, h2⟩)
  | .inr (.inr ⟨e, t, n', h1, h2⟩) => .inr (.inr ⟨e, t, n', by omega, h2⟩)
theorem Thru.mono {m n : Nat} {k : KD} (h : m ≤ n) : Thru n k r → Thru m k r
  | .inl ⟨e', t', n', h1, h2⟩ => .inl ⟨e', t', n', by omega, h2⟩
  | .inr h1 => .inr (h1.mono h)
/-- a code's meaning hands the counter on -/
def DM (c : DC) : Prop := ∀ (y : Yh) (ih : Ih) (e : T AV) (t : H) (n : Nat) (k : KD) (r : Out), YM y → IM ih → NE r → c y ih e t n k = r → Thru n k r
theorem h_gB {g : AV} {w : Bool} {a b : Out} (h : gB g w a b = r) : a = r ∨ b = r := by
  cases g with
  | num q i =>
    rcases bO_cases (show bO (Nat.beq q 8) (Int.rec (motive := fun _ => Out) (fun m => Nat.rec (motive := fun _ => Out) (Bool.rec (motive := fun _ => Out) a b w) (fun _ _ => Bool.rec (motive := fun _ => Out) b a w) m) (fun _ => b) i) b = r from h) with ⟨_, h⟩ | ⟨_, h⟩
    · cases i with
      | ofNat m => cases m <;> cases w <;> first | exact .inl h | exact .inr h
      | negSucc m => exact .inr h
    · exact .inr h
  | _ => exact .inr h
theorem h_put {d : Dst} {v : AV} {f : T AV → T AV → Out} (h : put d v l e f = r) : ∃ l' e', f l' e' = r := by
  cases d with
  | no => exact ⟨_, _, h⟩
  | loc d => exact ⟨_, _, h⟩
  | env d => exact ⟨_, _, by simpa [put, W_eq] using h⟩
theorem o_denOper {o : IOper} {k : AV → T AV → T AV → H → Nat → Out} (hY : YM y) (hI : IM ih) (hr : NE r) (h : denOper y ih o l e th n k = r) : ∃ v l' e' t' n', n ≤ n' ∧ k v l' e' t' n' = r := by
  unfold denOper at h
  split at h
  · obtain ⟨v, t', n', h1, h2⟩ := o_denOp hI hY hr h
    obtain ⟨l', e', h3⟩ := h_put h2
    exact ⟨_, _, _, _, _, h1, h3⟩
  · obtain ⟨g, h⟩ := h_fetch hr h
    rcases h_gB h with h | h
    · obtain ⟨v, t', n', h1, h2⟩ := o_denOp hI hY hr h
      obtain ⟨l', e', h3⟩ := h_put h2
      exact ⟨_, _, _, _, _, h1, h3⟩
    · obtain ⟨l', e', h3⟩ := h_put h
      exact ⟨_, _, _, _, _, Nat.le_refl _, h3⟩
theorem o_denOps : ∀ {ops : List IOper} {l e : T AV} {th : H} {n : Nat} {k : KD}, YM y → IM ih → NE r → denOps y ih ops l e th n k = r → ∃ e' t' n', n ≤ n' ∧ k e' t' n' = r
  | [], _, _, _, _, _, _, _, _, h => ⟨_, _, _, Nat.le_refl _, h⟩
  | o :: ops, l, e, th, n, k, hY, hI, hr, h => by
    obtain ⟨_, _, _, _, n1, h1, h2⟩ := o_denOper hY hI hr h
    obtain ⟨e', t', n', h3, h4⟩ := o_denOps hY hI hr h2
    exact ⟨e', t', n', by omega, h4⟩
theorem ok_ne {v : AV} {t : H} {n : Nat} : NE (.ok v t n) := fun c h => by cases h
theorem o_denOperD {o : IOper} {k : AV → T AV → T AV → H → Nat → Out} (hY : YM y) (hI : IM ih) (hr : NE r) (h : denOperD y ih o l e th n k = r) : ∃ v l' e' t' n', n ≤ n' ∧ k v l' e' t' n' = r := by
  unfold denOperD at h
  split at h
  · obtain ⟨v, t1, n1, h1, h2⟩ := B_inv hr h
    obtain ⟨v', t', n', h3, h4⟩ := o_denOp hI hY ok_ne h1
    obtain ⟨l', e', h5⟩ := h_put h2
    have h4 : Out.ok v' t' n' = .ok v t1 n1 := h4
    injection h4 with _ _ h4
    exact ⟨_, _, _, _, _, by omega, h5⟩
  · obtain ⟨g, h⟩ := h_fetch hr h
    obtain ⟨v, t1, n1, h1, h2⟩ := B_inv hr h
    obtain ⟨l', e', h5⟩ := h_put h2
    rcases h_gB h1 with h1 | h1
    · obtain ⟨v', t', n', h3, h4⟩ := o_denOp hI hY ok_ne h1
      have h4 : Out.ok v' t' n' = .ok v t1 n1 := h4
      injection h4 with _ _ h4
      exact ⟨_, _, _, _, _, by omega, h5⟩
    · have h4 : Out.ok unit th n = .ok v t1 n1 := h1
      injection h4 with _ _ h4
      exact ⟨_, _, _, _, _, by omega, h5⟩
theorem o_denOpsD : ∀ {ops : List IOper} {l e : T AV} {th : H} {n : Nat} {hs : List H} {k : T AV → T AV → H → Nat → List H → Out}, YM y → IM ih → NE r → denOpsD y ih ops l e th n hs k = r → ∃ l' e' t' n' hs', n ≤ n' ∧ k l' e' t' n' hs' = r
  | [], _, _, _, _, _, _, _, _, _, h => ⟨_, _, _, _, _, Nat.le_refl _, h⟩
  | o :: ops, l, e, th, n, hs, k, hY, hI, hr, h => by
    obtain ⟨_, _, _, _, n1, h1, h2⟩ := o_denOperD hY hI hr h
    obtain ⟨l', e', t', n', hs', h3, h4⟩ := o_denOpsD hY hI hr h2
    exact ⟨l', e', t', n', hs', by omega, h4⟩
theorem h_denSame {o : IOper} {v : AV} {hs : List H} : ∀ {c lo : Nat} {q : Out}, NE r → denSame o v l e hs lo c q = r → q = r
  | 0, _, _, _, h => h
  | c + 1, lo, q, hr, h => by
    unfold denSame at h
    split at h
    · exact absurd h.symm (hr _)
    · unfold eqAt at h
      obtain ⟨_, _, _, _, h⟩ := B_inv hr h
      obtain ⟨_, h⟩ := bO_inv h hr
      exact h_denSame hr h
theorem h_denChk {hs : List H} : ∀ {ch : List (Nat × Nat × IOper × Nat)} {q : Out}, NE r → denChk l e hs ch q = r → q = r
  | [], _, _, h => h
  | (lo, c, o, d) :: ch, q, hr, h => by
    unfold denChk at h
    split at h
    · obtain ⟨_, h⟩ := h_fetch hr h
      exact h_denChk hr (h_denSame hr h)
    · obtain ⟨_, h⟩ := h_fetch hr h
      rcases h_gB h with h | h
      · obtain ⟨_, h⟩ := h_fetch hr h
        exact h_denChk hr (h_denSame hr h)
      · exact h_denChk hr h
theorem dm_ops (ops : List IOper) : DM (cOps ops) := fun _ _ _ _ _ _ _ hY hI hr h => .inl (o_denOps hY hI hr h)
theorem dm_drawn (ops : List IOper) (ch : List (Nat × Nat × IOper × Nat)) : DM (cDrawn ops ch) := fun _ _ _ _ _ _ _ hY hI hr h => by
  obtain ⟨l', e', t', n', hs', h1, h2⟩ := o_denOpsD hY hI hr h
  exact .inl ⟨_, _, _, h1, h_denChk hr h2⟩
theorem dm_seq {a b : DC} (ha : DM a) (hb : DM b) : DM (cSeq a b) := fun _ _ _ _ _ _ _ hY hI hr h => by
  rcases ha _ _ _ _ _ _ _ hY hI hr h with ⟨e', t', n', h1, h2⟩ | h1
  · exact (hb _ _ _ _ _ _ _ hY hI hr h2).mono h1
  · exact .inr h1
theorem dm_if {c : Opd} {a b : DC} (ha : DM a) (hb : DM b) : DM (cIf c a b) := fun _ _ _ _ _ _ _ hY hI hr h => by
  obtain ⟨_, h⟩ := h_fetch hr h
  rcases vbool_inv h hr with ⟨_, h⟩ | ⟨_, _, _, h⟩
  · exact hb _ _ _ _ _ _ _ hY hI hr h
  · exact ha _ _ _ _ _ _ _ hY hI hr h
end Ev
/- The counter does not fall (5): code, functions, runs. -/
namespace Ev
open Go
variable {r : Out} {l e : T AV} {th : H} {n : Nat} {y : Yh} {ih : Ih}
def top : Out → Nat
  | .ok _ _ n | .nor _ _ n | .exit _ _ _ n | .goto _ _ _ n | .ret _ _ n => n
  | .err _ => 0
theorem Left.top (h : Left n r) : n ≤ top r := by
  rcases h with ⟨id, e, t, n', h1, rfl⟩ | ⟨id, e, t, n', h1, rfl⟩ | ⟨e, t, n', h1, rfl⟩ <;> exact h1
theorem Thru.top (h : Thru n nor r) : n ≤ top r := by
  rcases h with ⟨e', t', n', h1, rfl⟩ | h
  · exact h1
  · exact h.top
theorem dm_nor {c : DC} (hc : DM c) (hY : YM y) (hI : IM ih) (hr : NE (c y ih e th n nor)) : n ≤ top (c y ih e th n nor) := (hc _ _ _ _ _ _ _ hY hI hr rfl).top
theorem ne_of {x : Out} (h : ∀ c, x ≠ .err c) : NE x := h
theorem dm_block {id : Nat} {b : DC} (hb : DM b) : DM (cBlock id b) := fun y ih e t n k r hY hI hr h => by
  unfold cBlock at h
  cases hx : b y ih e t n nor with
  | err c => rw [hx] at h; exact absurd h.symm (hr _)
  | ok v t1 n1 => rw [hx] at h; exact absurd h.symm (hr _)
  | nor e1 t1 n1 =>
    rw [hx] at h
    have := dm_nor hb hY hI (e := e) (th := t) (n := n) (by rw [hx]; intro c h; cases h)
    rw [hx] at this
    exact .inl ⟨_, _, _, this, h⟩
  | exit i e1 t1 n1 =>
    have := dm_nor hb hY hI (e := e) (th := t) (n := n) (by rw [hx]; intro c h; cases h)
    rw [hx] at this
    rw [hx] at h
    rcases bO_cases (show bO (Nat.beq i id) (k e1 t1 n1) (.exit i e1 t1 n1) = r from h) with ⟨_, h⟩ | ⟨_, h⟩
    · exact .inl ⟨_, _, _, this, h⟩
    · exact .inr (.inl ⟨_, _, _, _, this, h.symm⟩)
  | goto i e1 t1 n1 =>
    have := dm_nor hb hY hI (e := e) (th := t) (n := n) (by rw [hx]; intro c h; cases h)
    rw [hx] at this
    rw [hx] at h
    exact .inr (.inr (.inl ⟨_, _, _, _, this, h.symm⟩))
  | ret e1 t1 n1 =>
    have := dm_nor hb hY hI (e := e) (th := t) (n := n) (by rw [hx]; intro c h; cases h)
    rw [hx] at this
    rw [hx] at h
    exact .inr (.inr (.inr ⟨_, _, _, this, h.symm⟩))
theorem dm_loop_n {b : DC} (hb : DM b) (hY : YM y) (hI : IM ih) (hr : NE r) : ∀ (f : Nat) (e : T AV) (t : H) (n : Nat),
    (Nat.rec (motive := fun _ => T AV → H → Nat → Out) (fun _ _ _ => .err 8) (fun _ rec e t n => b y ih e t n rec) f : T AV → H → Nat → Out) e t n = r → Left n r
  | 0, _, _, _, h => absurd h.symm (hr _)
  | f + 1, e, t, n, h => by
    rcases hb _ _ _ _ _ _ _ hY hI hr h with ⟨e', t', n', h1, h2⟩ | h1
    · exact (dm_loop_n hb hY hI hr f e' t' n' h2).mono h1
    · exact h1
theorem dm_loop {b : DC} (hb : DM b) : DM (cLoop b) := fun _ _ _ _ _ _ _ hY hI hr h => .inr (dm_loop_n hb hY hI hr fuelL _ _ _ h)
theorem dm_scope_n {l1 l2 : Nat} {r1 r2 : DC} {k : KD} (h1 : DM r1) (h2 : DM r2) (hY : YM y) (hI : IM ih) (hr : NE r) : ∀ (f : Nat) (o : Out),
    (Nat.rec (motive := fun _ => Out → Out) (fun _ => .err 9)
      (fun _ rec o => Out.rec (motive := fun _ => Out) (fun _ _ _ => .err 7) k (fun i e t n => .exit i e t n)
        (fun l e t n => bO (Nat.beq l l1) (rec (r1 y ih e t n nor)) (bO (Nat.beq l l2) (rec (r2 y ih e t n nor)) (.goto l e t n))) (fun e t n => .ret e t n) (fun c => .err c) o) f : Out → Out) o = r → Thru (top o) k r
  | 0, _, h => absurd h.symm (hr _)
  | f + 1, o, h => by
    cases o with
    | ok v t n => exact absurd h.symm (hr _)
    | err c => exact absurd h.symm (hr _)
    | nor e t n => exact .inl ⟨_, _, _, Nat.le_refl _, h⟩
    | exit i e t n => exact .inr (.inl ⟨_, _, _, _, Nat.le_refl _, h.symm⟩)
    | ret e t n => exact .inr (.inr (.inr ⟨_, _, _, Nat.le_refl _, h.symm⟩))
    | goto q e t n =>
      have hne : ∀ {x : Out}, Thru (top x) k r → (x = .err (top x) → False) → True := fun _ _ => trivial
      rcases bO_cases (show bO (Nat.beq q l1) _ _ = r from h) with ⟨_, h⟩ | ⟨_, h⟩
      · have h3 := dm_scope_n h1 h2 hY hI hr f _ h
        cases hx : r1 y ih e t n nor with
        | err c => rw [hx] at h; cases f <;> exact absurd h.symm (hr _)
        | _ =>
          have := dm_nor h1 hY hI (e := e) (th := t) (n := n) (by rw [hx]; intro c h; cases h)
          exact h3.mono this
      · rcases bO_cases h with ⟨_, h⟩ | ⟨_, h⟩
        · have h3 := dm_scope_n h1 h2 hY hI hr f _ h
          cases hx : r2 y ih e t n nor with
          | err c => rw [hx] at h; cases f <;> exact absurd h.symm (hr _)
          | _ =>
            have := dm_nor h2 hY hI (e := e) (th := t) (n := n) (by rw [hx]; intro c h; cases h)
            exact h3.mono this
        · exact .inr (.inr (.inl ⟨_, _, _, _, Nat.le_refl _, h.symm⟩))
theorem dm_scope {b : DC} {l1 l2 : Nat} {r1 r2 : DC} (hb : DM b) (h1 : DM r1) (h2 : DM r2) : DM (cScope b l1 r1 l2 r2) := fun y ih e t n k r hY hI hr h => by
  have h0 : scGo y ih l1 r1 l2 r2 k fuelL (b y ih e t n nor) = r := h
  generalize fuelL = fu at h0
  have h3 := dm_scope_n (k := k) h1 h2 hY hI hr fu (b y ih e t n nor) h0
  cases hx : b y ih e t n nor with
  | err c =>
    exfalso
    rw [hx] at h0
    have : ∀ f, scGo y ih l1 r1 l2 r2 k f (.err c) = r → False := fun f hf => by cases f <;> exact absurd hf.symm (hr _)
    exact this _ h0
  | _ =>
    have := dm_nor hb hY hI (e := e) (th := t) (n := n) (by rw [hx]; intro c h; cases h)
    exact h3.mono this
theorem round_m {id i v : Nat} {asg b : DC} (ha : DM asg) (hb : DM b) (hY : YM y) (hI : IM ih) : YM (round y ih id i v asg b e) := fun id' a t n w t' n' h => by
  unfold round at h
  obtain ⟨_, h⟩ := bO_inv h ok_ne
  obtain ⟨_, _, _, h⟩ := lcons_inv h ok_ne
  obtain ⟨_, _, _, h⟩ := lcons_inv h ok_ne
  obtain ⟨_, h⟩ := bO_inv h ok_ne
  rw [T.seq_eq] at h
  generalize hx : asg y ih _ t n _ = x at h
  cases x with
  | nor e1 t1 n1 =>
    have h : Out.ok tt t1 n1 = .ok w t' n' := h
    injection h with _ _ h
    have := (dm_seq ha hb) _ _ _ _ _ nor _ hY hI (by intro c h; cases h) hx
    have := this.top
    simp only [top] at this
    omega
  | _ => cases h
theorem dm_back {f : Opd} {i v : Nat} {asg b : DC} (ha : DM asg) (hb : DM b) : DM (cBack f i v asg b) := fun y ih e t n k r hY hI hr h => by
  unfold cBack at h
  obtain ⟨x, h⟩ := h_fetch hr h
  obtain ⟨g, caps, _, h⟩ := vfn_inv h hr
  rw [forceN_eq] at h
  generalize hx : ih _ g _ t _ = x at h
  cases x with
  | ok w t1 n1 =>
    have := hI _ _ _ _ _ _ _ _ (round_m ha hb hY hI) hx
    exact .inl ⟨_, _, _, by omega, h⟩
  | _ => exact absurd h.symm (hr _)
theorem dm : ∀ c : IC, DM (den c)
  | .skip => fun _ _ _ _ _ _ _ _ _ _ h => .inl ⟨_, _, _, Nat.le_refl _, h⟩
  | .ops l => dm_ops l
  | .draw l c => dm_drawn l c
  | .seq a b => dm_seq (dm a) (dm b)
  | .cond c a b => dm_if (dm a) (dm b)
  | .block id b => dm_block (dm b)
  | .loop b => dm_loop (dm b)
  | .scope b l1 r1 l2 r2 => dm_scope (dm b) (dm r1) (dm r2)
  | .back f i v asg b => dm_back (dm asg) (dm b)
  | .exit id => fun _ _ _ _ _ _ _ _ _ _ h => .inr (.inl ⟨_, _, _, _, Nat.le_refl _, h.symm⟩)
  | .goto l => fun _ _ _ _ _ _ _ _ _ _ h => .inr (.inr (.inl ⟨_, _, _, _, Nat.le_refl _, h.symm⟩))
  | .ret => fun _ _ _ _ _ _ _ _ _ _ h => .inr (.inr (.inr ⟨_, _, _, Nat.le_refl _, h.symm⟩))
  | .bad w => fun _ _ _ _ _ _ _ _ _ hr h => absurd h.symm (hr _)
theorem h_denRes {t : H} : ∀ {rs : List IRes} {K : K}, NE r → denRes e t rs K = r → ∃ v, K v = r
  | [], _, _, h => ⟨_, h⟩
  | .t i :: rs, K, hr, h => by
    obtain ⟨_, _, h⟩ := V_inv (show V i e _ = r from h) hr
    obtain ⟨_, h⟩ := h_denRes hr h
    exact ⟨_, h⟩
  | .cellC i sz :: rs, K, hr, h => by
    obtain ⟨_, _, h⟩ := V_inv (show V i e _ = r from h) hr
    obtain ⟨_, h⟩ := h_pLdC hr h
    obtain ⟨_, h⟩ := h_denRes hr h
    exact ⟨_, h⟩
  | .cell i :: rs, K, hr, h => by
    obtain ⟨_, _, h⟩ := V_inv (show V i e _ = r from h) hr
    obtain ⟨_, h⟩ := h_pLd hr h
    obtain ⟨_, h⟩ := h_denRes hr h
    exact ⟨_, h⟩
/-- a function's meaning hands the counter on -/
theorem fn_m (f : IFn) {a : AV} {t t' : H} {n n' : Nat} {v : AV} (hY : YM y) (hI : IM ih) (h : denF f y ih a t n = .ok v t' n') : n ≤ n' := by
  unfold denF func at h
  obtain ⟨_, h⟩ := bO_inv h ok_ne
  have key : ∀ {e1 : T AV} {t1 : H} {n1 : Nat}, n ≤ n1 → denRes e1 t1 f.res (fun r => .ok (one r) t1 n1) = .ok v t' n' → n ≤ n' := by
    intro e1 t1 n1 h1 h2
    obtain ⟨_, h3⟩ := h_denRes ok_ne h2
    injection h3 with _ _ h3
    omega
  generalize hx : den f.body y ih _ t n nor = x at h
  have hm : NE x → n ≤ top x := fun hn => by
    rw [← hx]; exact dm_nor (dm f.body) hY hI (by rw [hx]; exact hn)
  cases x with
  | nor e1 t1 n1 => exact key (hm (by intro c h; cases h)) h
  | ret e1 t1 n1 => exact key (hm (by intro c h; cases h)) h
  | _ => cases h
/-- an entry of the table hands the counter on -/
def DMono (d : FnD) : Prop := ∀ (y : Yh) (ih : Ih) (a : AV) (t : H) (n : Nat) (v : AV) (t' : H) (n' : Nat), YM y → IM ih → d y ih a t n = .ok v t' n' → n ≤ n'
def Tab (tab : T FnD) : Prop := ∀ f d, tab.get f = some d → DMono d
theorem run_m {tab : T FnD} (ht : Tab tab) : ∀ fuel, IM (run tab fuel)
  | 0 => fun _ _ _ _ _ _ _ _ _ h => by cases h
  | fuel + 1 => fun y f a t n v t' n' hY h => by
    have h : tag f (Option.rec (motive := fun _ => Out) (.err 98) (fun d => d y (run tab fuel) a t n) (tab.get f)) = .ok v t' n' := h
    cases hg : tab.get f with
    | none => rw [hg] at h; cases h
    | some d =>
      rw [hg] at h
      have hd := ht f d hg
      have h : tag f (d y (run tab fuel) a t n) = .ok v t' n' := h
      generalize hx : d y (run tab fuel) a t n = x at h
      cases x with
      | ok v1 t1 n1 =>
        have h : Out.ok v1 t1 n1 = .ok v t' n' := h
        injection h with _ _ h
        have := hd _ _ _ _ _ _ _ _ hY (run_m ht fuel) hx
        omega
      | _ => cases h
end Ev
/- Operations in the calculus. -/
namespace Ev
open Go
abbrev Tok := Nat → Option (IntKind × Int)
variable {ι : Rn} {P : Program} {tk : Tok} {w : World} {o : Oper} {r : Out} {ac : Act} {l e : T AV} {th : H} {n m N : Nat} {k : KH} {KK : G} {y : Yh} {ih : Ih} {iop : IOp} {ro : Option Nat}
/-- no range over a function has begun under a number that is still to come -/
def YT (ι : Rn) (n : Nat) : Prop := ∀ b, n ≤ b → ι.yl b = none
theorem YT.mono {n' : Nat} (h : YT ι n) (hn : n ≤ n') : YT ι n' := fun b hb => h b (by omega)
/-- what a piece of code leaves -/
structure PC (K : G) (ι : Rn) (w : World) (t' : H) (n' : Nat) (ι' : Rn) (w' : World) : Prop where
  rel : Rel ι' (un t' K) w'
  ext : ExtC w.heap.size ι ι'
  frm : Frm ι w w'
  ht : HT t' n'
  yt : YT ι' n'
theorem PC.trans {K : G} {ι ι' ι'' : Rn} {w w' w'' : World} {t' t'' : H} {n' n'' : Nat} (h : PC K ι w t' n' ι' w') (k : PC K ι' w' t'' n'' ι'' w'') : PC K ι w t'' n'' ι'' w'' :=
  ⟨k.rel, h.ext.trans k.ext h.frm.size, h.frm.trans h.ext k.frm, k.ht, k.yt⟩
theorem PC.refl {K : G} {t : H} (h : Rel ι (un t K) w) (ht : HT t n) (hy : YT ι n) : PC K ι w t n ι w := ⟨h, .refl _ _, .refl _ _, ht, hy⟩
theorem PC.of {K : G} {ι' : Rn} {w' : World} {t' : H} {n' : Nat} (h : Post K ι w t' ι' w') (ht : HT t' n') (hy : YT ι n) (hn : n ≤ n') : PC K ι w t' n' ι' w' :=
  ⟨h.rel, h.ext.toExtC, h.frm, ht, by intro b hb; rw [h.ext.yl]; exact hy b (by omega)⟩
/-- a function that is entered when it is called -/
def Enters (P : Program) (f : FuncId) : Prop := ∀ (args : Array Value) (w : World), (callFunc f args).run P w = .ok (.enter f args) w
theorem enters_of {f : FuncId} {fn : Func} (hf : P.funcs[f]? = some fn) (hb : fn.body.isSome = true) (hn : (fn.name != "runtime.NumGoroutine") = true) : Enters P f := fun args w => by
  have hb' : ¬ fn.body = none := by cases h : fn.body <;> simp_all
  have hn' : ¬ fn.name = "runtime.NumGoroutine" := by simpa using hn
  simp [callFunc, hf, hn', hb']
/-- the ints of which nothing is known -/
def TkOK (tk : Tok) (ι : Rn) : Prop := ∀ b x, tk b = some x → ι.tok b = some x
/-- what a call of a range's 'yield' does -/
def YOK (P : Program) (tk : Tok) (y : Yh) (ι : Rn) (w : World) : Prop := TkOK tk ι ∧ ∀ id a t n v t' n', y id a t n = .ok v t' n' → ∃ l, ι.yl id = some l ∧ ∀ (K : G) (ι1 : Rn) (w1 : World) (args : Array Value),
  ExtC w.heap.size ι ι1 → Frm ι w w1 → KT K n' → Rel ι1 (un t K) w1 → HT t n → YT ι1 n → toT ι1 a = some args.toList →
  ∃ f tmps assign body, (Instr.yield l args).run P w1 = .ok (.round l f tmps assign body) w1 ∧
    RoundIn Fence.wide 0 P l f tmps assign body w1 fun x w' => ∃ V ι', x = .returned V ∧ toV ι' v = some V ∧ PC K ι1 w1 t' n' ι' w'
theorem YOK.mono {ι' : Rn} {w' : World} (h : YOK P tk y ι w) (he : ExtC w.heap.size ι ι') (hf : Frm ι w w') : YOK P tk y ι' w' := ⟨fun b x hb => he.le.tok b x (h.1 b x hb), fun id a t n v t' n' hy => by
  obtain ⟨l, h1, h2⟩ := h.2 id a t n v t' n' hy
  exact ⟨l, he.le.yl _ _ h1, fun K ι1 w1 args he1 hf1 => h2 K ι1 w1 args (he.trans he1 hf.size) (hf.trans he hf1)⟩⟩
theorem YOK.no (h : TkOK tk ι) : YOK P tk noY ι w := ⟨h, fun _ _ _ _ _ _ _ h => by cases h⟩
/-- what is known of calls -/
def IhOK (P : Program) (tk : Tok) (ih : Ih) : Prop := ∀ y f a t n v t' n', YM y → ih y f a t n = .ok v t' n' → Enters P f ∧ ∀ (K : G) (ι : Rn) (w : World) (args : Array Value), YOK P tk y ι w → KT K n' → Rel ι (un t K) w → HT t n → YT ι n → toT ι a = some args.toList →
  CallsIn Fence.wide 0 P f args w fun x w' => ∃ V ι', x = .returned V ∧ toV ι' v = some V ∧ PC K ι w t' n' ι' w'
/-- the fences of a plain frame, of a round's -/
def Fr : Option Nat → Fence
  | none => Fence.wide
  | some l => Fence.wide.inRound l
theorem fr_fn (ro : Option Nat) (f : FuncId) : (Fr ro).fn f := by cases ro <;> trivial
theorem fr_depth (ro : Option Nat) : (Fr ro).depth.isSome = false := by cases ro <;> rfl
theorem fr_round (ro : Option Nat) : (Fr ro).round = ro := by cases ro <;> rfl
theorem callsIn_wide_any {n n' : Nat} {f : FuncId} {args : Array Value} {R : Ending → World → Prop} (h : CallsIn Fence.wide n P f args w R) : CallsIn Fence.wide n' P f args w R := callsIn_wide.2 (callsIn_wide.1 h)
theorem callsIn_fr {n n' : Nat} {f : FuncId} {args : Array Value} {R : Ending → World → Prop} (h : CallsIn Fence.wide n P f args w R) : CallsIn (Fr ro) n' P f args w R := by
  cases ro with
  | none => exact callsIn_wide_any h
  | some l => exact (callsIn_wide_any h : CallsIn Fence.wide n' P f args w R)
theorem roundIn_fr {n n' : Nat} {l : Nat} {f : FuncId} {tmps : Array Value} {assign body : Code} {R : Ending → World → Prop} (h : RoundIn Fence.wide n P l f tmps assign body w R) : RoundIn (Fr ro) n' P l f tmps assign body w R := by
  have : RoundIn Fence.wide n' P l f tmps assign body w R := ⟨h.1, fun c cs _ => h.2 c cs (room_wide _)⟩
  cases ro with
  | none => exact this
  | some l' => exact this
theorem about_fr {a : Act} : ∀ f, o.about P w a.eval = some f → (Fr ro).fn f := fun f _ => fr_fn ro f
/-- no operation of ours defers -/
theorem not_defer (hc : cOp P o.op = some iop) : ∀ c, o.op ≠ .defer c := fun c h => by rw [h] at hc; simp [cOp] at hc
theorem not_select (hc : cOp P o.op = some iop) : ∀ c b, o.op ≠ .select c b := fun c b h => by rw [h] at hc; simp [cOp] at hc
theorem sem_fr (hd : ∀ c, o.op ≠ .defer c) : o.semAt (Fr ro).round ac.eval = execOp ac.eval o := Oper.semAt_eq _ _ _ hd
section
variable {next : Act → World → Prop} {Q : Exit → Act → World → Prop}
theorem wp_value {V : Value} {w' : World} (hd : ∀ c, o.op ≠ .defer c) (h : (execOp ac.eval o).run P w = .ok (.value V) w') (hn : next (ac.put o.dst V) w') : o.wpIn (Fr ro) m P ac w next Q :=
  ⟨about_fr, by rw [sem_fr hd, h]; exact hn⟩
theorem wp_skip {w' : World} (hd : ∀ c, o.op ≠ .defer c) (h : (execOp ac.eval o).run P w = .ok .skip w') (hn : next (ac.put o.dst undef) w') : o.wpIn (Fr ro) m P ac w next Q :=
  ⟨about_fr, by rw [sem_fr hd, h]; exact hn⟩
theorem unit_ok : toV ι unit = some undef := by simp [unit, toV, toT, comV]; rfl
theorem wp_enter {f : FuncId} {args : Array Value} (hd : ∀ c, o.op ≠ .defer c) (h : (execOp ac.eval o).run P w = .ok (.enter f args) w)
    (hc : CallsIn Fence.wide 0 P f args w fun x w' => ∃ V, x = .returned V ∧ next (ac.put o.dst V) w') : o.wpIn (Fr ro) m P ac w next Q := by
  refine ⟨about_fr, ?_⟩
  rw [sem_fr hd, h, Oper.uponIn_enter]
  refine ⟨fun h => (by rw [fr_depth] at h; cases h), callsIn_fr (CallsIn.mono hc ?_)⟩
  rintro x w' ⟨V, rfl, h⟩
  exact h
theorem wp_round {l : Nat} {f : FuncId} {tmps : Array Value} {assign body : Code} (hd : ∀ c, o.op ≠ .defer c) (h : (execOp ac.eval o).run P w = .ok (.round l f tmps assign body) w)
    (hc : RoundIn Fence.wide 0 P l f tmps assign body w fun x w' => ∃ V, x = .returned V ∧ next (ac.put o.dst V) w') : o.wpIn (Fr ro) m P ac w next Q := by
  refine ⟨about_fr, ?_⟩
  rw [sem_fr hd, h, Oper.uponIn_round]
  refine ⟨fun h => (by rw [fr_depth] at h; cases h), roundIn_fr (RoundIn.mono hc ?_)⟩
  rintro x w' ⟨V, rfl, h⟩
  exact h
/-- a call of the func that a value is -/
theorem call_ok {c : Call} {X : Operand} {f : FuncId} {first caps args : Array Value} {a : AV} {t' : H} {v : AV} {n' : Nat} (ho : o.op = .call c) (hc : c.callee = .value X) (hX : ac.eval X = .func (.func f) first caps)
    (htk : TkOK tk ι) (hih : IhOK P tk ih) (hR : Rel ι (un th KK) w) (hH : HT th n) (hY : YT ι n) (ha : toT ι a = some args.toList) (hargs : args = first ++ c.args.map ac.eval ++ caps) (hC : ih noY f a th n = .ok v t' n') (hK : KT KK n')
    (hn : ∀ V ι' w', toV ι' v = some V → PC KK ι w t' n' ι' w' → next (ac.put o.dst V) w') : o.wpIn (Fr ro) m P ac w next Q := by
  obtain ⟨hE, hC⟩ := hih _ _ _ _ _ _ _ _ noY_m hC
  refine wp_enter (f := f) (args := args) (fun c h => by rw [ho] at h; cases h) ?_ (CallsIn.mono (hC KK ι w args (.no htk) hK hR hH hY ha) ?_)
  · unfold execOp; rw [ho]
    simp only [resolve, hc, hX, Deferred.ofValue, Sem.run_bind, Sem.run_pure, Result.andThen_ok, invoke]
    rw [← hargs]; exact hE args w
  · rintro x w' ⟨V, ι', rfl, h1, h2⟩
    exact ⟨V, rfl, hn V ι' w' h1 h2⟩
theorem cells_app {a b c : List Value} {X Y Z : Array Value} (ha : X.toList = a) (hb : Y.toList = b) (hc : Z.toList = c) : (X ++ Y ++ Z).toList = a ++ b ++ c := by simp [ha, hb, hc]
/-- an operation -/
theorem op_ok (hc : cOp P o.op = some iop) (hYM : YM y) (hI : IM ih) (hyo : YOK P tk y ι w) (hih : IhOK P tk ih) (hR : Rel ι (un th KK) w) (hH : HT th n) (hY : YT ι n) (hl : TR ι l ac.tmps) (he : TR ι e ac.tmps) (hr : NE r)
    (h : denOp y ih iop l e th n k = r) (hk : ∀ v t' n', k v t' n' = r → KT KK n')
    (hn : ∀ v t' n' ι' w' V, k v t' n' = r → toV ι' v = some V → PC KK ι w t' n' ι' w' → n ≤ n' → next (ac.put o.dst V) w') : o.wpIn (Fr ro) m P ac w next Q := by
  have hd := not_defer hc
  have hcl := cls_of hc
  have h5 : cls iop < 5 := by
    generalize cls iop = q at hcl
    unfold clsOp at hcl
    repeat' split at hcl
    all_goals simp at hcl
    all_goals omega
  have pure_ : OkV ι P w ac.eval o (fun v => k v th n) r → o.wpIn (Fr ro) m P ac w next Q := by
    rintro ⟨v, V, h1, h2, h3⟩
    exact wp_value hd h3 (hn v th n ι w V h1 h2 (.refl hR hH hY) (Nat.le_refl _))
  rcases (by omega : cls iop = 0 ∨ cls iop = 1 ∨ cls iop = 2 ∨ cls iop = 3 ∨ cls iop = 4) with h0 | h0 | h0 | h0 | h0
  · exact pure_ (dPure hc h0 hl he hr h)
  · exact pure_ (dRead hc h0 hR hl he hr h)
  · have hno : un th KK n = none := by
      obtain ⟨v, t', h1⟩ := o_alloc h0 hr h
      exact un_none hH (hk _ _ _ h1) (Nat.lt_succ_self n)
    obtain ⟨v, ob, h1, V, w', ι', h2, h3, h4, h5, h6⟩ := dAlloc hc h0 hR hno hl he hr h
    refine wp_value hd h2 (hn v _ _ ι' w' V h1 h3 ⟨by rw [un_set]; exact h4, h5.toExtC, h6, hH.next, ?_⟩ (by omega))
    intro b hb; rw [h5.yl]; exact hY b (by omega)
  · obtain ⟨v, t', n', h1, h2, h3, h4⟩ := dWrite hc h0 hR hH hl he hr h
    obtain ⟨x, w', ι', h5, h6, h7⟩ := h4 (hk _ _ _ h1)
    have hp := PC.of h7 h3 hY h2
    rcases h6 with ⟨rfl, rfl⟩ | ⟨V, rfl, h8⟩
    · exact wp_skip hd h5 (hn _ _ _ ι' w' undef h1 unit_ok hp h2)
    · exact wp_value hd h5 (hn _ _ _ ι' w' V h1 h8 hp h2)
  · cases hop : o.op with
    | call c =>
      rw [hop] at hc
      obtain ⟨callee, args, tys⟩ := c
      cases callee with
      | value X =>
        have run : ∀ {f : FuncId} {first caps argv : Array Value} {a : AV}, ac.eval X = .func (.func f) first caps → toT ι a = some argv.toList → argv = first ++ args.map ac.eval ++ caps → C ih f a th n k = r → o.wpIn (Fr ro) m P ac w next Q := by
          intro f first caps argv a hX ha hargs hC
          obtain ⟨v, t', n', h1, h2⟩ := C_inv hr hC
          exact call_ok hop rfl hX hyo.1 hih hR hH hY ha hargs h1 (hk _ _ _ h2) fun V ι' w' h3 h4 => hn _ _ _ _ _ _ h2 h3 h4 (hI _ _ _ _ _ _ _ _ noY_m h1)
        have gen : ∀ {x : Opd} {l' : List Opd}, cOpd X = some x → cOpds args.toList = some l' → iop = .callv x l' → o.wpIn (Fr ro) m P ac w next Q := by
          intro x l' hx hl' hio
          subst hio
          obtain ⟨v, hv, h⟩ := fetch_inv hx hl he (show fetch l e x _ = r from h) hr
          obtain ⟨a, ha, h⟩ := fetchs_inv hl' hl he h hr
          rcases Cv_inv hr h with ⟨b, ep, off, l0, c0, rfl, h⟩ | ⟨f, l0, rfl, h⟩ | ⟨f, l0, rfl, h⟩
          · obtain ⟨v, t', n', h1, h2⟩ := Cy_inv hr h
            obtain ⟨q, hq, h3⟩ := hyo.2 _ _ _ _ _ _ _ h1
            simp only [toV, refV, hq, Option.map_some, Option.some.injEq] at hv
            obtain ⟨f, tmps, asg, body, h4, h5⟩ := h3 KK ι w (args.map ac.eval) (.refl _ _) (.refl _ _) (hk _ _ _ h2) hR hH hY (by simpa using ha)
            refine wp_round (l := q) hd ?_ (RoundIn.mono h5 ?_)
            · unfold execOp; rw [hop]
              simp only [resolve, ← hv, Deferred.ofValue, Sem.run_bind, Sem.run_pure, Result.andThen_ok, invoke]
              simpa using h4
            · rintro x w' ⟨V, ι', rfl, h6, h7⟩
              exact ⟨V, rfl, hn _ _ _ _ _ _ h2 h6 h7 (hYM _ _ _ _ _ _ _ h1)⟩
          · simp only [toV, Option.bind_eq_some_iff] at hv
            obtain ⟨vs, hvs, hX⟩ := hv
            simp only [comV, Option.some.injEq] at hX
            exact run (first := #[]) (caps := vs.toArray) (argv := args.map ac.eval ++ vs.toArray) hX.symm (by rw [Array.toList_append]; exact toT_append (by simpa using ha) (by simpa using hvs)) (by simp) h
          · simp only [toV, Option.bind_eq_some_iff] at hv
            obtain ⟨vs, hvs, hX⟩ := hv
            simp only [comV, Option.some.injEq] at hX
            exact run (first := vs.toArray) (caps := #[]) (argv := vs.toArray ++ args.map ac.eval) hX.symm (by rw [Array.toList_append]; exact toT_append (by simpa using hvs) (by simpa using ha)) (by simp) h
        cases X with
        | func f =>
          obtain ⟨l', hl', hc⟩ := some_bind hc
          obtain ⟨fn, hf, hc⟩ := some_bind hc
          split at hc
          · obtain rfl := pure_some hc
            obtain ⟨a, ha, h⟩ := fetchs_inv hl' hl he (show fetchs l e l' _ = r from h) hr
            exact run (f := f) (first := #[]) (caps := #[]) (argv := args.map ac.eval) rfl (by simpa using ha) (by simp) h
          · cases hc
        | tmp t =>
          obtain ⟨x, hx, hc⟩ := some_bind hc
          obtain ⟨l', hl', hc⟩ := some_bind hc
          obtain rfl := pure_some hc
          exact gen hx hl' rfl
        | const t =>
          obtain ⟨x, hx, hc⟩ := some_bind hc
          obtain ⟨l', hl', hc⟩ := some_bind hc
          obtain rfl := pure_some hc
          exact gen hx hl' rfl
        | global t =>
          obtain ⟨x, hx, hc⟩ := some_bind hc
          obtain ⟨l', hl', hc⟩ := some_bind hc
          obtain rfl := pure_some hc
          exact gen hx hl' rfl
      | invoke _ _ => simp [cOp] at hc
      | builtin b => rw [h0, hop] at hcl; cases b <;> simp [clsOp] at hcl
    | _ => rw [h0, hop] at hcl; simp [clsOp] at hcl
end
end Ev
/- Regions in the text's order. -/
namespace Ev
open Go
variable {ι : Rn} {P : Program} {tk : Tok} {w : World} {o : Oper} {r : Out} {ac : Act} {l e : T AV} {th : H} {n m N : Nat} {k : KH} {KK : G} {y : Yh} {ih : Ih} {iop : IOp} {ro : Option Nat} {L : List Nat} {ops : Array Oper}
/-- the slots within a region -/
structure RI (L : List Nat) (N : Nat) (ι : Rn) (l e : T AV) (tm : Array Value) : Prop where
  tl : TR ι l tm
  te : TR ι e tm
  el : ∀ d ∈ L, e.get d = none
  ll : ∀ d, d ∉ L → l.get d = none
  sz : tm.size = N
theorem TR.set {tm : Array Value} {d : Nat} {v : AV} {V : Value} (h : TR ι e tm) (hv : toV ι v = some V) (hd : d < tm.size) : TR ι (e.set v d) (tm.setIfInBounds d V) := by
  intro i u hu
  rw [T.get_set_if] at hu
  by_cases hi : d = i
  · subst hi
    rw [if_pos rfl] at hu; injection hu with hu; subst hu
    exact ⟨V, hv, by simp [hd]⟩
  · rw [if_neg hi] at hu
    obtain ⟨x, hx, hg⟩ := h i u hu
    exact ⟨x, hx, by rw [Array.getElem?_setIfInBounds_ne hi]; exact hg⟩
theorem TR.out {tm : Array Value} {d : Nat} {V : Value} (h : TR ι e tm) (hd : e.get d = none) : TR ι e (tm.setIfInBounds d V) := by
  intro i u hu
  obtain ⟨x, hx, hg⟩ := h i u hu
  have hi : d ≠ i := fun hi => by subst hi; rw [hd] at hu; cases hu
  exact ⟨x, hx, by rw [Array.getElem?_setIfInBounds_ne hi]; exact hg⟩
theorem RI.mono {ι' : Rn} {tm : Array Value} (h : RI L N ι l e tm) (hi : ι.le ι') : RI L N ι' l e tm := ⟨h.tl.mono hi, h.te.mono hi, h.el, h.ll, h.sz⟩
/-- what is put -/
theorem RI.put {dst : Option Tmp} {v : AV} {V : Value} {f : T AV → T AV → Out} (h : RI L N ι l e ac.tmps) (hv : toV ι v = some V) (hd : ∀ d, dst = some d → d < N) (hp : put (cDst L dst) v l e f = r) :
    ∃ l' e', f l' e' = r ∧ RI L N ι l' e' (ac.put dst V).tmps := by
  cases dst with
  | none => exact ⟨l, e, hp, h⟩
  | some d =>
    have hd : d < ac.tmps.size := by rw [h.sz]; exact hd d rfl
    simp only [cDst] at hp
    by_cases hL : L.contains d = true
    · rw [if_pos hL] at hp
      have hL' : d ∈ L := by simpa using hL
      refine ⟨_, _, hp, h.tl.set hv hd, h.te.out (h.el d hL'), h.el, fun i hi => ?_, by simp [Act.put, h.sz]⟩
      rw [T.get_set_ne _ _ _ _ (fun e => hi (by rw [← e]; exact hL'))]; exact h.ll i hi
    · rw [if_neg hL] at hp
      have hL' : d ∉ L := by simpa using hL
      have hp : T.seq (T.set e v d) (fun e' => f l e') = r := hp
      rw [T.seq_eq] at hp
      refine ⟨_, _, hp, h.tl.out (h.ll d hL'), h.te.set hv hd, fun i hi => ?_, h.ll, by simp [Act.put, h.sz]⟩
      rw [T.get_set_ne _ _ _ _ (fun e => hL' (by rw [e]; exact hi))]; exact h.el i hi
/-- a guard -/
theorem gB_ok {g : AV} {b : Bool} {x z : Out} {V : Value} (h : gB g b x z = r) (hg : toV ι g = some V) : (V = .bool b ∧ x = r) ∨ ((V = .bool b → False) ∧ z = r) := by
  cases g with
  | num q i =>
    rcases bO_cases (show bO (Nat.beq q 8) _ z = r from h) with ⟨h1, h2⟩ | ⟨h1, h2⟩
    · obtain rfl := beq_nat h1
      simp only [toV, numV, if_true] at hg
      cases i with
      | ofNat j =>
        cases j with
        | zero =>
          have hg : Value.bool false = V := by simpa using hg
          subst hg
          cases b
          · exact .inl ⟨rfl, h2⟩
          · exact .inr ⟨fun h => (by cases h), h2⟩
        | succ j =>
          have hg : Value.bool true = V := by
            by_cases hj : j = 0
            · subst hj; simpa using hg
            · exfalso
              have h1 : (Int.ofNat (j + 1) : Int) ≠ 0 := by simp only [Int.ofNat_eq_natCast]; omega
              have h2 : (Int.ofNat (j + 1) : Int) ≠ 1 := by simp only [Int.ofNat_eq_natCast]; omega
              rw [if_neg h1, if_neg h2] at hg; cases hg
          subst hg
          cases b
          · exact .inr ⟨fun h => (by cases h), h2⟩
          · exact .inl ⟨rfl, h2⟩
      | negSucc j =>
        have h1 : (Int.negSucc j : Int) ≠ 0 := by omega
        have h2 : (Int.negSucc j : Int) ≠ 1 := by omega
        rw [if_neg h1, if_neg h2] at hg; cases hg
    · refine .inr ⟨fun hV => ?_, h2⟩
      subst hV
      have h1 := beq_ff h1
      simp only [toV, numV, if_neg h1] at hg
      split at hg <;> cases hg
  | str s =>
    refine .inr ⟨fun hV => ?_, h⟩
    subst hV; simp [toV] at hg
  | ref g1 b1 e1 o1 l1 c1 =>
    refine .inr ⟨fun hV => ?_, h⟩
    subst hV
    simp only [toV] at hg
    unfold refV at hg
    split at hg <;> first
      | (cases hg; done)
      | (simp only [Option.map_eq_some_iff] at hg; obtain ⟨_, _, hg⟩ := hg; first | (cases hg; done) | (split at hg <;> cases hg))
      | (simp only [Option.bind_eq_some_iff] at hg; obtain ⟨_, _, hg⟩ := hg; split at hg <;> cases hg)
  | com g1 x1 l1 =>
    refine .inr ⟨fun hV => ?_, h⟩
    subst hV
    simp only [toV, Option.bind_eq_some_iff] at hg
    obtain ⟨vs, _, hg⟩ := hg
    unfold comV at hg
    split at hg <;> first
      | (cases hg; done)
      | (split at hg <;> cases hg)
  | nil => simp [toV] at hg
  | cons a b => simp [toV] at hg
theorem fetch_t {s : Nat} {f : K} (hl : TR ι l ac.tmps) (he : TR ι e ac.tmps) (hr : NE r) (h : fetch l e (.t s) f = r) : ∃ v V, toV ι v = some V ∧ ac.tmps[s]? = some V ∧ f v = r := by
  have h : Option.rec (motive := fun _ => Out) (V s e f) f (l.get s) = r := h
  cases hg : l.get s with
  | some v =>
    rw [hg] at h
    obtain ⟨x, hx, hi⟩ := hl s v hg
    exact ⟨v, x, hx, hi, h⟩
  | none =>
    rw [hg] at h
    obtain ⟨v, hv, h⟩ := V_inv h hr
    obtain ⟨x, hx, hi⟩ := he s v hv
    exact ⟨v, x, hx, hi, h⟩
theorem wanted_some {j s : Nat} {b : Bool} {V : Value} (hg : o.guard = some (j, b)) (hs : gslot ops j = some s) (hV : ac.tmps[s]? = some V) : Region.wanted o (yielded ops ac.tmps) = true ↔ V = .bool b := by
  unfold Region.wanted
  rw [hg]
  have hs' : (ops[j]?).bind (·.dst) = some s := hs
  simp only [yielded, hs', Option.bind_some, hV]
  cases V <;> simp
theorem wanted_none (hg : o.guard = none) : Region.wanted o (yielded ops ac.tmps) = true := by unfold Region.wanted; rw [hg]
/-- one operation of a region, wanted or not -/
def wpG (ro : Option Nat) (m : Nat) (P : Program) (ops : Array Oper) (o : Oper) (ac : Act) (w : World) (next : Act → World → Prop) (Q : Exit → Act → World → Prop) : Prop :=
  if Region.wanted o (yielded ops ac.tmps) = true then o.wpIn (Fr ro) m P ac w next Q else next (ac.put o.dst undef) w
section
variable {next : Act → World → Prop} {Q : Exit → Act → World → Prop}
theorem opOf_cOp {f : IOp → Out} (h : f ((cOp P o.op).getD (.bad 0)) = r) (hb : f (.bad 0) ≠ r) : ∃ iop, cOp P o.op = some iop ∧ f iop = r := by
  cases hc : cOp P o.op with
  | none => rw [hc] at h; exact absurd h hb
  | some iop => rw [hc] at h; exact ⟨iop, rfl, h⟩
theorem oper_ok {f : AV → T AV → T AV → H → Nat → Out} (hYM : YM y) (hI : IM ih) (hyo : YOK P tk y ι w) (hih : IhOK P tk ih) (hR : Rel ι (un th KK) w) (hH : HT th n) (hY : YT ι n) (hi : RI L N ι l e ac.tmps) (hd : ∀ d, o.dst = some d → d < N) (hr : NE r)
    (h : denOper y ih (cOper P L ops o) l e th n f = r) (hk : ∀ v l' e' t' n', f v l' e' t' n' = r → KT KK n')
    (hn : ∀ v l' e' t' n' ι' w' V, f v l' e' t' n' = r → PC KK ι w t' n' ι' w' → RI L N ι' l' e' (ac.put o.dst V).tmps → n ≤ n' → next (ac.put o.dst V) w') : wpG ro m P ops o ac w next Q := by
  have main : ∀ {iop : IOp}, cOp P o.op = some iop → denOp y ih iop l e th n (fun v t n => put (cDst L o.dst) v l e fun l e => f v l e t n) = r → o.wpIn (Fr ro) m P ac w next Q := by
    intro iop hc h
    refine op_ok hc hYM hI hyo hih hR hH hY hi.tl hi.te hr h (fun v t' n' h1 => ?_) (fun v t' n' ι' w' V h1 h2 h3 h4 => ?_)
    · obtain ⟨l', e', h2⟩ := h_put h1
      exact hk _ _ _ _ _ h2
    · obtain ⟨l', e', h5, h6⟩ := (hi.mono h3.ext.le).put h2 hd h1
      exact hn _ _ _ _ _ _ _ V h5 h3 h6 h4
  have badne : ∀ {k : KH}, denOp y ih (.bad 0) l e th n k ≠ r := fun h => hr _ h.symm
  unfold cOper at h
  cases hg : o.guard with
  | none =>
    rw [hg] at h
    obtain ⟨iop, hc, h⟩ := opOf_cOp (f := fun iop => denOp y ih iop l e th n fun v t n => put (cDst L o.dst) v l e fun l e => f v l e t n) h badne
    rw [wpG, if_pos (wanted_none hg)]
    exact main hc h
  | some q =>
    obtain ⟨j, b⟩ := q
    rw [hg] at h
    cases hs : gslot ops j with
    | none =>
      simp only [hs] at h
      exact absurd h.symm (hr _)
    | some s =>
      simp only [hs] at h
      obtain ⟨g, V, hgV, hV, h⟩ := fetch_t hi.tl hi.te hr (show fetch l e (.t s) _ = r from h)
      rcases gB_ok h hgV with ⟨hb, h⟩ | ⟨hb, h⟩
      · obtain ⟨iop, hc, h⟩ := opOf_cOp (f := fun iop => denOp y ih iop l e th n fun v t n => put (cDst L o.dst) v l e fun l e => f v l e t n) h badne
        rw [wpG, if_pos ((wanted_some hg hs hV).2 hb)]
        exact main hc h
      · rw [wpG, if_neg (fun h => hb ((wanted_some hg hs hV).1 h))]
        obtain ⟨l', e', h5, h6⟩ := hi.put unit_ok hd h
        exact hn _ _ _ _ _ _ _ undef h5 (.refl hR hH hY) h6 (Nat.le_refl _)
/-- a region in the text's order -/
theorem opsIn_ok : ∀ (os : List Oper) (j : Nat) (l e : T AV) (th : H) (n : Nat) (ι : Rn) (ac : Act) (w : World) (k : KD), ops.toList.drop j = os → YM y → IM ih → YOK P tk y ι w → IhOK P tk ih → Rel ι (un th KK) w → HT th n → YT ι n → RI L N ι l e ac.tmps →
    (∀ o ∈ os, ∀ d, o.dst = some d → d < N) → NE r → denOps y ih (os.map (cOper P L ops)) l e th n k = r → (∀ e' t' n', k e' t' n' = r → KT KK n') →
    (∀ l' e' t' n' ι' ac' w', k e' t' n' = r → n ≤ n' → PC KK ι w t' n' ι' w' → RI L N ι' l' e' ac'.tmps → ac'.defers = ac.defers → Q .normal ac' w') →
    wpOpsIn (Fr ro) m P ops Q (List.range' j os.length) ac w := by
  intro os
  induction os with
  | nil =>
    intro j l e th n ι ac w k _ _ _ _ _ hR hH hY hi _ _ h _ hQ
    exact hQ l e th n ι ac w h (Nat.le_refl _) (.refl hR hH hY) hi rfl
  | cons o os ihl =>
    intro j l e th n ι ac w k hdr hYM hI hyo hih hR hH hY hi hd hr h hk hQ
    have ho : ops[j]? = some o := by
      have := congrArg (·[0]?) hdr
      simpa using this
    have hdr' : ops.toList.drop (j + 1) = os := by
      rw [← List.drop_drop, hdr]; rfl
    show wpOpsIn (Fr ro) m P ops Q (j :: List.range' (j + 1) os.length) ac w
    have key : wpG ro m P ops o ac w (wpOpsIn (Fr ro) m P ops Q (List.range' (j + 1) os.length)) Q := by
      refine oper_ok hYM hI hyo hih hR hH hY hi (fun d h => hd o (.head _) d h) hr (show denOper y ih (cOper P L ops o) l e th n (fun _ l e t n => denOps y ih (os.map (cOper P L ops)) l e t n k) = r from h) (fun v l' e' t' n' h1 => ?_) (fun v l' e' t' n' ι' w' V h1 h2 h3 h4 => ?_)
      · obtain ⟨e2, t2, n2, h3, h4⟩ := o_denOps hYM hI hr h1
        exact (hk _ _ _ h4).mono h3
      · exact ihl (j + 1) l' e' t' n' ι' _ w' k hdr' hYM hI (hyo.mono h2.ext h2.frm) hih h2.rel h2.ht h2.yt h3 (fun o ho => hd o (.tail _ ho)) hr h1 hk
          (fun l2 e2 t2 n2 ι2 ac2 w2 g1 g2 g3 g4 g5 => hQ l2 e2 t2 n2 ι2 ac2 w2 g1 (by omega) (h2.trans g3) g4 (by rw [g5]; cases o.dst <;> rfl))
    simp only [wpOpsIn, ho]
    unfold wpG at key
    split
    · rename_i hw; rw [if_pos hw] at key; exact key
    · rename_i hw; rw [if_neg hw] at key; exact ⟨fun f _ => fr_fn ro f, key⟩
end
end Ev
/- A drawn region, read as the text has it. -/
namespace Ev
open Go
variable {r : Out} {l e l' e' : T AV} {th : H} {n : Nat} {k : KH} {y : Yh} {ih : Ih}
/-- what a slot holds -/
noncomputable def lk (l e : T AV) (i : Nat) : Option AV := match l.get i with
  | some v => some v
  | none => e.get i
theorem fetch_lk (i : Nat) (k : K) : fetch l e (.t i) k = match lk l e i with | some v => k v | none => .err 1 := by
  show Option.rec (motive := fun _ => Out) (V i e k) k (l.get i) = _
  unfold lk
  cases l.get i with
  | some v => rfl
  | none =>
    show V i e k = _
    unfold V
    cases e.get i <;> rfl
/-! ### only the slots that are read matter -/
def SameR (R : List Nat) (l e l' e' : T AV) : Prop := ∀ i ∈ R, lk l e i = lk l' e' i
theorem SameR.left {A B : List Nat} (h : SameR (A ++ B) l e l' e') : SameR A l e l' e' := fun i hi => h i (List.mem_append_left _ hi)
theorem SameR.right {A B : List Nat} (h : SameR (A ++ B) l e l' e') : SameR B l e l' e' := fun i hi => h i (List.mem_append_right _ hi)
theorem c_fetch {x : Opd} (h : SameR (opdS x) l e l' e') : fetch l e x = fetch l' e' x := by
  funext k
  cases x with
  | k v => rfl
  | t i => rw [fetch_lk, fetch_lk, h i (by simp [opdS])]
theorem c_fetchO {x : Option Opd} (h : SameR (opdO x) l e l' e') : fetchO l e x = fetchO l' e' x := by
  funext k
  cases x with
  | none => rfl
  | some x => show fetch l e x _ = fetch l' e' x _; rw [c_fetch h]
theorem c_fetchs : ∀ {xs : List Opd}, SameR (opdsS xs) l e l' e' → fetchs l e xs = fetchs l' e' xs
  | [], _ => rfl
  | x :: xs, h => by
    funext k
    show fetch l e x (fun v => fetchs l e xs fun r => k (.cons v r)) = fetch l' e' x (fun v => fetchs l' e' xs fun r => k (.cons v r))
    rw [c_fetch (SameR.left h), c_fetchs (SameR.right h)]
theorem c_parts : ∀ {ps : List (Nat × Nat × Opd)}, SameR (partS ps) l e l' e' → denParts l e ps = denParts l' e' ps
  | [], _ => rfl
  | p :: ps, h => by
    funext z k
    show fetch l e p.2.2 (fun v => parts1 z p.1 p.2.1 v fun z => denParts l e ps z k) = fetch l' e' p.2.2 (fun v => parts1 z p.1 p.2.1 v fun z => denParts l' e' ps z k)
    rw [c_fetch (SameR.left h), c_parts (SameR.right h)]
theorem c_denOp {o : IOp} (h : SameR (iopS o) l e l' e') : denOp y ih o l e th n k = denOp y ih o l' e' th n k := by
  cases o with
  | mv x => simp only [denOp, c_fetch h]
  | p1 c x => simp only [denOp, c_fetch h]
  | conv c x => simp only [denOp, c_fetch h]
  | fad c x => simp only [denOp, c_fetch h]
  | fld a b c x => simp only [denOp, c_fetch h]
  | ext c x => simp only [denOp, c_fetch h]
  | ldC c x => simp only [denOp, c_fetch h]
  | ld x => simp only [denOp, c_fetch h]
  | mkI c x => simp only [denOp, c_fetch h]
  | b2s x => simp only [denOp, c_fetch h]
  | box x => simp only [denOp, c_fetch h]
  | s2b x => simp only [denOp, c_fetch h]
  | p2 c a b => simp only [denOp, c_fetch (SameR.left h), c_fetch (SameR.right h)]
  | iad c a b => simp only [denOp, c_fetch (SameR.left h), c_fetch (SameR.right h)]
  | look c d q a b => cases c <;> simp only [denOp, c_fetch (SameR.left h), c_fetch (SameR.right h)]
  | eqA c d a b => cases c <;> simp only [denOp, c_fetch (SameR.left h), c_fetch (SameR.right h)]
  | mkSl c d q a b => simp only [denOp, c_fetch (SameR.left h), c_fetch (SameR.right h)]
  | st c a b => simp only [denOp, c_fetch (SameR.left h), c_fetch (SameR.right h)]
  | app c d a b => simp only [denOp, c_fetch (SameR.left h), c_fetch (SameR.right h)]
  | appZ c d q a b => simp only [denOp, c_fetch (SameR.left h), c_fetch (SameR.right h)]
  | pick a b c => simp only [denOp, c_fetch (SameR.left h), c_fetch (SameR.left (SameR.right h)), c_fetch (SameR.right (SameR.right h))]
  | mapUpd q a b c => simp only [denOp, c_fetch (SameR.left h), c_fetch (SameR.left (SameR.right h)), c_fetch (SameR.right (SameR.right h))]
  | build z ps => simp only [denOp, c_parts h]
  | rowSl a b z ps => simp only [denOp, c_parts h]
  | slS x lo hi => simp only [denOp, c_fetch (SameR.left h), c_fetchO (SameR.left (SameR.right h)), c_fetchO (SameR.right (SameR.right h))]
  | slV s x lo hi mx => simp only [denOp, c_fetch (SameR.left h), c_fetchO (SameR.left (SameR.right h)), c_fetchO (SameR.left (SameR.right (SameR.right h))), c_fetchO (SameR.right (SameR.right (SameR.right h)))]
  | mkF f xs => simp only [denOp, c_fetchs h]
  | mkB f xs => simp only [denOp, c_fetchs h]
  | call f xs => simp only [denOp, c_fetchs h]
  | callv x xs => simp only [denOp, c_fetch (SameR.left h), c_fetchs (SameR.right h)]
  | alloc z => rfl
  | mkMap => rfl
  | bad w => rfl
/-- just these slots -/
noncomputable def pickE (l e : T AV) : List Nat → T AV
  | [] => .leaf
  | i :: R => match lk l e i with
    | some v => (pickE l e R).set v i
    | none => pickE l e R
theorem pickE_get : ∀ (R : List Nat) (i : Nat), (pickE l e R).get i = if i ∈ R then lk l e i else none
  | [], i => by simp [pickE, T.get_leaf]
  | j :: R, i => by
    unfold pickE
    cases hj : lk l e j with
    | some v =>
      simp only
      rw [T.get_set_if, pickE_get R i]
      by_cases hij : j = i
      · subst hij; simp [hj]
      · have : ¬ i = j := fun h => hij h.symm
        simp [hij, this]
    | none =>
      simp only
      rw [pickE_get R i]
      by_cases hij : i = j
      · subst hij; simp [hj]
      · simp [hij]
theorem pickE_lk {R : List Nat} {i : Nat} (hi : i ∈ R) : lk .leaf (pickE l e R) i = lk l e i := by
  unfold lk
  rw [T.get_leaf, pickE_get, if_pos hi]; rfl
/-! ### guards, what is put -/
def gV (g : AV) (b : Bool) : Bool := match g with
  | .num q (.ofNat 0) => Nat.beq q 8 && !b
  | .num q (.ofNat (_ + 1)) => Nat.beq q 8 && b
  | _ => false
theorem gB_gV (g : AV) (b : Bool) (x z : Out) : gB g b x z = bO (gV g b) x z := by
  cases g with
  | num q i =>
    show bO (Nat.beq q 8) _ z = _
    cases i with
    | ofNat j =>
      cases j with
      | zero =>
        show bO (Nat.beq q 8) (Bool.rec (motive := fun _ => Out) x z b) z = bO (Nat.beq q 8 && !b) x z
        cases Nat.beq q 8 <;> cases b <;> rfl
      | succ j =>
        show bO (Nat.beq q 8) (Bool.rec (motive := fun _ => Out) z x b) z = bO (Nat.beq q 8 && b) x z
        cases Nat.beq q 8 <;> cases b <;> rfl
    | negSucc j => show bO (Nat.beq q 8) z z = z; cases Nat.beq q 8 <;> rfl
  | _ => rfl
theorem gV_ok {ι : Rn} {g : AV} {b : Bool} {V : Value} (hg : toV ι g = some V) : gV g b = true ↔ V = .bool b := by
  have h := gB_ok (r := gB g b (.err 0) (.err 1)) rfl hg
  rw [gB_gV] at h
  cases hb : gV g b <;> rw [hb] at h
  · rcases h with ⟨_, h⟩ | ⟨h, _⟩
    · cases h
    · exact ⟨fun h => (by cases h), fun hV => (h hV).elim⟩
  · rcases h with ⟨h, _⟩ | ⟨_, h⟩
    · exact ⟨fun _ => h, fun _ => rfl⟩
    · cases h
noncomputable def putL (d : Dst) (v : AV) (l : T AV) : T AV := match d with
  | .loc i => l.set v i
  | _ => l
noncomputable def putE (d : Dst) (v : AV) (e : T AV) : T AV := match d with
  | .env i => e.set v i
  | _ => e
theorem put_eq (d : Dst) (v : AV) (f : T AV → T AV → Out) : put d v l e f = f (putL d v l) (putE d v e) := by
  cases d with
  | no => rfl
  | loc i => rfl
  | env i => show T.seq _ _ = _; rw [T.seq_eq]; rfl
/-! ### the steps of the text -/
structure St where
  l : T AV
  e : T AV
  t : H
  n : Nat
  hs : List H
/-- is it done? -/
noncomputable def Wants (o : IOper) (s : St) : Bool := match o.guard with
  | none => true
  | some (q, b) => match lk s.l s.e q with
    | some g => gV g b
    | none => false
structure StepD (y : Yh) (ih : Ih) (o : IOper) (s : St) (v : AV) (s' : St) : Prop where
  hl : s'.l = putL o.dst v s.l
  he : s'.e = putE o.dst v s.e
  hh : s'.hs = if o.heavy = true then s'.t :: s.hs else s.hs
  hg : ∀ q b, o.guard = some (q, b) → ∃ g, lk s.l s.e q = some g
  on : Wants o s = true → denOp y ih o.op s.l s.e s.t s.n okK = .ok v s'.t s'.n
  off : Wants o s = false → v = unit ∧ s'.t = s.t ∧ s'.n = s.n
theorem denOperD_inv {o : IOper} {s : St} {f : AV → T AV → T AV → H → Nat → Out} (hr : NE r) (h : denOperD y ih o s.l s.e s.t s.n f = r) :
    ∃ v l' e' t' n', StepD y ih o s v ⟨l', e', t', n', if o.heavy = true then t' :: s.hs else s.hs⟩ ∧ f v l' e' t' n' = r := by
  unfold denOperD at h
  cases hg : o.guard with
  | none =>
    rw [hg] at h
    obtain ⟨v, t', n', h1, h2⟩ := B_inv hr h
    rw [put_eq] at h2
    exact ⟨v, _, _, t', n', ⟨rfl, rfl, rfl, fun q b h => (by rw [hg] at h; cases h), fun _ => h1, fun h => by simp [Wants, hg] at h⟩, h2⟩
  | some q =>
    obtain ⟨q, b⟩ := q
    rw [hg] at h
    simp only at h
    rw [fetch_lk] at h
    cases hq : lk s.l s.e q with
    | none => rw [hq] at h; exact absurd h.symm (hr _)
    | some g =>
      rw [hq] at h
      obtain ⟨v, t', n', h1, h2⟩ := B_inv hr h
      rw [put_eq] at h2
      have h1 : gB g b (denOp y ih o.op s.l s.e s.t s.n okK) (okK unit s.t s.n) = .ok v t' n' := h1
      rw [gB_gV] at h1
      refine ⟨v, _, _, t', n', ⟨rfl, rfl, rfl, fun q' b' h => ?_, fun hw => ?_, fun hw => ?_⟩, h2⟩
      · rw [hg] at h; injection h with h; injection h with h3 h4; exact ⟨g, by rw [← h3]; exact hq⟩
      · have : gV g b = true := by simpa [Wants, hg, hq] using hw
        rw [this] at h1; exact h1
      · have : gV g b = false := by simpa [Wants, hg, hq] using hw
        rw [this] at h1
        have h1 : Out.ok unit s.t s.n = .ok v t' n' := h1
        injection h1 with h3 h4 h5
        exact ⟨h3.symm, h4.symm, h5.symm⟩
/-- the text's steps, one by one -/
theorem trace_ex : ∀ (os : List IOper) (s : St) (f : T AV → T AV → H → Nat → List H → Out), NE r → denOpsD y ih os s.l s.e s.t s.n s.hs f = r →
    ∃ (S : Nat → St) (V : Nat → AV), S 0 = s ∧ (∀ (j : Nat) o, os[j]? = some o → StepD y ih o (S j) (V j) (S (j + 1))) ∧ f (S os.length).l (S os.length).e (S os.length).t (S os.length).n (S os.length).hs = r
  | [], s, f, _, h => ⟨fun _ => s, fun _ => .nil, rfl, fun j o h => by simp at h, h⟩
  | o :: os, s, f, hr, h => by
    have h : denOperD y ih o s.l s.e s.t s.n (fun _ l e t n => denOpsD y ih os l e t n (match o.heavy with | true => t :: s.hs | false => s.hs) f) = r := h
    obtain ⟨v, l', e', t', n', h1, h2⟩ := denOperD_inv hr h
    have h2 : denOpsD y ih os l' e' t' n' (if o.heavy = true then t' :: s.hs else s.hs) f = r := by
      rw [← h2]; cases o.heavy <;> rfl
    obtain ⟨S, V, h3, h4, h5⟩ := trace_ex os ⟨l', e', t', n', if o.heavy = true then t' :: s.hs else s.hs⟩ f hr h2
    refine ⟨fun j => match j with | 0 => s | j + 1 => S j, fun j => match j with | 0 => v | j + 1 => V j, rfl, ?_, h5⟩
    intro j o' ho'
    cases j with
    | zero =>
      obtain rfl : o = o' := by simpa using ho'
      show StepD y ih o s v (S 0)
      rw [h3]; exact h1
    | succ j => exact h4 j o' (by simpa using ho')
end Ev
/- A drawn region: what its checks say; its text's steps. -/
namespace Ev
open Go
variable {P : Program} {L : List Nat} {ops : Array Oper} {y : Yh} {ih : Ih}
theorem inner_bit (acc : Array Nat) (x : Nat) : ∀ (es : List Edge) (s : Nat), (es.foldl (fun s e => if Region.binds .any e then s ||| 2 ^ e.on ||| acc.getD e.on 0 else s) s).testBit x = true →
    s.testBit x = true ∨ ∃ e ∈ es, Region.binds .any e = true ∧ (e.on = x ∨ (acc.getD e.on 0).testBit x = true)
  | [], s, h => .inl h
  | e :: es, s, h => by
    rw [List.foldl_cons] at h
    rcases inner_bit acc x es _ h with h1 | ⟨e', h1, h2, h3⟩
    · split at h1
      · rename_i hb
        rw [Nat.testBit_or, Nat.testBit_or, Nat.testBit_two_pow] at h1
        simp only [Bool.or_eq_true, decide_eq_true_eq] at h1
        rcases h1 with (h1 | h1) | h1
        · exact .inl h1
        · exact .inr ⟨e, .head _, hb, .inl h1⟩
        · exact .inr ⟨e, .head _, hb, .inr h1⟩
      · exact .inl h1
    · exact .inr ⟨e', .tail _ h1, h2, h3⟩
theorem pre_spec {i j : Nat} (h : pre (Region.before ops) i j = true) :
    ∃ o e, ops[j]? = some o ∧ e ∈ o.after ∧ Region.binds .any e = true ∧ (e.on = i ∨ (e.on < j ∧ pre (Region.before ops) i e.on = true)) := by
  have key : (Region.before ops).size = ops.size ∧ ∀ j, j < ops.size → ∀ x, ((Region.before ops).getD j 0).testBit x = true →
      ∃ o e, ops[j]? = some o ∧ e ∈ o.after ∧ Region.binds .any e = true ∧ (e.on = x ∨ (e.on < j ∧ ((Region.before ops).getD e.on 0).testBit x = true)) := by
    unfold Region.before
    refine Array.foldl_induction (motive := fun i (acc : Array Nat) => acc.size = i ∧ ∀ j, j < i → ∀ x, (acc.getD j 0).testBit x = true →
      ∃ o e, ops[j]? = some o ∧ e ∈ o.after ∧ Region.binds .any e = true ∧ (e.on = x ∨ (e.on < j ∧ (acc.getD e.on 0).testBit x = true))) ⟨rfl, fun j hj => by omega⟩ ?_
    rintro ⟨i, hi⟩ acc ⟨h1, h2⟩
    simp only at h1 h2 ⊢
    have old : ∀ (q : Nat) (k : Nat), k < i → (acc.push q).getD k 0 = acc.getD k 0 := fun q k hk => by
      simp only [Array.getD_eq_getD_getElem?, Array.getElem?_push]
      rw [if_neg (by omega)]
    refine ⟨by simp [h1], fun j hj x hx => ?_⟩
    rcases Nat.lt_or_ge j i with hlt | hge
    · rw [old _ _ hlt] at hx
      obtain ⟨o, e, g1, g2, g3, g4⟩ := h2 j hlt x hx
      refine ⟨o, e, g1, g2, g3, ?_⟩
      rcases g4 with g4 | ⟨g4, g5⟩
      · exact .inl g4
      · exact .inr ⟨g4, by rw [old _ _ (by omega)]; exact g5⟩
    · obtain rfl : j = i := by omega
      have hx : ((ops[j].after.foldl (fun s e => if Region.binds .any e then s ||| 2 ^ e.on ||| acc.getD e.on 0 else s) 0)).testBit x = true := by
        have : (acc.push (ops[j].after.foldl (fun s e => if Region.binds .any e then s ||| 2 ^ e.on ||| acc.getD e.on 0 else s) 0)).getD j 0 = ops[j].after.foldl (fun s e => if Region.binds .any e then s ||| 2 ^ e.on ||| acc.getD e.on 0 else s) 0 := by
          simp only [Array.getD_eq_getD_getElem?, Array.getElem?_push]
          rw [if_pos h1.symm]; rfl
        rw [← this]; exact hx
      rw [← Array.foldl_toList] at hx
      rcases inner_bit acc x _ _ hx with h3 | ⟨e, g2, g3, g4⟩
      · simp at h3
      · refine ⟨ops[j], e, by simp [hi], by simpa using g2, g3, ?_⟩
        rcases g4 with g4 | g4
        · exact .inl g4
        · have : e.on < j := by
            rcases Nat.lt_or_ge e.on j with h' | h'
            · exact h'
            · rw [Array.getD_eq_getD_getElem?, Array.getElem?_eq_none (by omega)] at g4; simp at g4
          exact .inr ⟨this, by rw [old _ _ this]; exact g4⟩
  have hj : j < ops.size := by
    rcases Nat.lt_or_ge j ops.size with h' | h'
    · exact h'
    · unfold pre at h
      rw [Array.getD_eq_getD_getElem?, Array.getElem?_eq_none (by omega)] at h; simp at h
  exact key.2 j hj i h
/-- what the checks of a drawn region say -/
structure Dr (P : Program) (L : List Nat) (ops : Array Oper) : Prop where
  down : ∀ i, i < ops.size → ∀ e ∈ (ops.getD i default).after, Region.binds .any e = true → e.on < i
  c6 : ∀ i, i < ops.size → asked ops (Region.before ops) i = true → ∃ d, dstA ops i = some d
  ord : ∀ i j, i < ops.size → j < ops.size → hvA ops i = true → (hvA ops j = true ∨ alA ops j = true) → j < i → pre (Region.before ops) j i = true
  nodup : ∀ i j d, i < ops.size → j < ops.size → dstA ops j = some d → dstA ops i = some d → i = j
  c5 : ∀ i j d, i < ops.size → j < ops.size → dstA ops j = some d → d ∈ ioperS (cOper P L ops (ops.getD i default)) → pre (Region.before ops) j i = true ∨ (pre (Region.before ops) i j = true ∧ asked ops (Region.before ops) i = false)
theorem dr_of (h : drawOk P L ops (Region.before ops) = true) : Dr P L ops := by
  unfold drawOk at h
  simp only [List.all_eq_true, List.mem_range, Bool.and_eq_true, Array.all_eq_true_iff_forall_mem, Bool.or_eq_true, Bool.not_eq_true', decide_eq_true_eq] at h
  refine ⟨fun i hi e he hb => ?_, fun i hi ha => ?_, fun i j hi hj h1 h2 h3 => ?_, fun i j d hi hj h1 h2 => ?_, fun i j d hi hj h1 h2 => ?_⟩
  · rcases (h i hi).1.1 e he with h1 | h1
    · exact h1
    · rw [hb] at h1; cases h1
  · rcases (h i hi).1.2 with h1 | h1
    · rw [ha] at h1; cases h1
    · exact Option.isSome_iff_exists.1 h1
  · rcases ((h i hi).2 j hj).1 with h4 | h4
    · simp [h1, h3] at h4
      rcases h2 with h2 | h2
      · rw [h4.1] at h2; cases h2
      · rw [h4.2] at h2; cases h2
    · exact h4
  · have h4 := ((h i hi).2 j hj).2
    rw [h1] at h4
    simp only [Bool.and_eq_true, Bool.or_eq_true, beq_iff_eq, bne_iff_ne] at h4
    rcases h4.1 with h5 | h5
    · exact h5
    · exact absurd h2 h5
  · have h4 := ((h i hi).2 j hj).2
    rw [h1] at h4
    simp only [Bool.and_eq_true, Bool.or_eq_true, Bool.not_eq_true', List.contains_eq_mem, decide_eq_false_iff_not] at h4
    rcases h4.2 with (h5 | h5) | h5
    · exact absurd h2 h5
    · exact .inl h5
    · exact .inr h5
theorem getD_some {i : Nat} {o : Oper} (h : ops[i]? = some o) : ops.getD i default = o := by simp [Array.getD_eq_getD_getElem?, h]
theorem some_getD {i : Nat} (h : i < ops.size) : ops[i]? = some (ops.getD i default) := by simp [Array.getD_eq_getD_getElem?, h]
section
variable (D : Dr P L ops)
include D
theorem Dr.pre_lt : ∀ {j i : Nat}, pre (Region.before ops) i j = true → i < j := by
  intro j
  induction j using Nat.strongRecOn with
  | _ j ihj =>
    intro i h
    obtain ⟨o, e, h1, h2, h3, h4⟩ := pre_spec h
    have hj : j < ops.size := (Array.getElem?_eq_some_iff.1 h1).1
    have := D.down j hj e (by rw [getD_some h1]; exact h2) h3
    rcases h4 with h4 | ⟨h4, h5⟩
    · omega
    · have := ihj _ h4 h5; omega
end
/-- what is done is closed -/
def Cl (ops : Array Oper) (Q : Nat → Prop) : Prop := ∀ j, Q j → j < ops.size ∧ ∀ e ∈ (ops.getD j default).after, Region.binds .any e = true → Q e.on
theorem cl_ready {Q : Nat → Prop} (hQ : Cl ops Q) : ∀ {j i : Nat}, (∀ e ∈ (ops.getD j default).after, Region.binds .any e = true → Q e.on) → pre (Region.before ops) i j = true → Q i := by
  intro j
  induction j using Nat.strongRecOn with
  | _ j ihj =>
    intro i hj h
    obtain ⟨o, e, h1, h2, h3, h4⟩ := pre_spec h
    have he := hj e (by rw [getD_some h1]; exact h2) h3
    rcases h4 with h4 | ⟨h4, h5⟩
    · rw [← h4]; exact he
    · exact ihj _ h4 (hQ _ he).2 h5
theorem cl_pre {Q : Nat → Prop} (hQ : Cl ops Q) {j i : Nat} (hj : Q j) (h : pre (Region.before ops) i j = true) : Q i := cl_ready hQ (hQ j hj).2 h
/-! ### the text's steps -/
theorem form {o : Oper} {s s' : St} {v : AV} (h : StepD y ih (cOper P L ops o) s v s') : (cOper P L ops o).dst = cDst L o.dst ∧ (cOper P L ops o).heavy = isHeavy o.op ∧ (cOper P L ops o).op = (cOp P o.op).getD (.bad 0) ∧
    ((o.guard = none ∧ (cOper P L ops o).guard = none) ∨ ∃ j b q, o.guard = some (j, b) ∧ gslot ops j = some q ∧ (cOper P L ops o).guard = some (q, b)) := by
  unfold cOper at *
  cases hg : o.guard with
  | none => exact ⟨rfl, rfl, rfl, .inl ⟨rfl, rfl⟩⟩
  | some q =>
    obtain ⟨j, b⟩ := q
    cases hs : gslot ops j with
    | none =>
      rw [hg] at h
      simp only [hs] at h
      have := h.on rfl
      cases this
    | some q => exact ⟨by simp only [hs], by simp only [hs], by simp only [hs], .inr ⟨j, b, q, rfl, hs, by simp only [hs]⟩⟩
theorem step_iop {o : Oper} {s s' : St} {v : AV} (h : StepD y ih (cOper P L ops o) s v s') (hw : Wants (cOper P L ops o) s = true) : ∃ iop, cOp P o.op = some iop ∧ (cOper P L ops o).op = iop ∧ denOp y ih iop s.l s.e s.t s.n okK = .ok v s'.t s'.n := by
  have h1 := h.on hw
  obtain ⟨_, _, h2, _⟩ := form h
  rw [h2] at h1 ⊢
  cases hc : cOp P o.op with
  | none => rw [hc] at h1; cases h1
  | some iop => rw [hc] at h1; exact ⟨iop, rfl, rfl, h1⟩
theorem cls_hv {op : Op} {iop : IOp} (hc : cOp P op = some iop) : ((cls iop < 2 ∧ isHeavy op = false) ∨ (cls iop = 2 ∧ isAlloc op = true ∧ isHeavy op = false) ∨ ((cls iop = 3 ∨ cls iop = 4) ∧ isHeavy op = true)) ∧ (cls iop = 1 → isRead op = true) := by
  have h := cls_of hc
  cases op with
  | call c =>
    obtain ⟨callee, args, tys⟩ := c
    cases callee with
    | builtin b => cases b <;> simp [clsOp, isHeavy, isAlloc, isRead] at h ⊢ <;> first | omega | (simp [cOp] at hc)
    | value X => simp [clsOp, isHeavy, isAlloc, isRead] at h ⊢; omega
    | invoke a b => simp [clsOp, isHeavy, isAlloc, isRead] at h ⊢; omega
  | _ => simp [clsOp, isHeavy, isAlloc, isRead] at h ⊢ <;> omega
theorem al_hv {op : Op} (h : isAlloc op = true) : isHeavy op = false := by
  cases op <;> simp [isAlloc, isHeavy] at h ⊢
end Ev
/- A drawn region: its text's steps (2). -/
namespace Ev
open Go
variable {P : Program} {L : List Nat} {ops : Array Oper} {y : Yh} {ih : Ih} {S : Nat → St} {V : Nat → AV}
/-- the steps of the text -/
structure Tr (P : Program) (L : List Nat) (ops : Array Oper) (y : Yh) (ih : Ih) (S : Nat → St) (V : Nat → AV) : Prop where
  step : ∀ j, j < ops.size → StepD y ih (cOper P L ops (ops.getD j default)) (S j) (V j) (S (j + 1))
  ym : YM y
  im : IM ih
/-- a step that makes the block ob -/
def AS (ops : Array Oper) (S : Nat → St) (j : Nat) (ob : AO) : Prop := alA ops j = true ∧ (S (j + 1)).t = (S j).t.set ob (S j).n ∧ (S (j + 1)).n = (S j).n + 1
theorem filt_one (f : Nat → Bool) (i : Nat) : ([i].filter f).length = if f i = true then 1 else 0 := by
  rw [List.filter_cons]; split <;> rfl
theorem lnthH_append : ∀ (a b : List H) (i : Nat), i < a.length → lnthH (a ++ b) i = lnthH a i
  | [], _, i, h => by simp at h
  | t :: a, b, 0, _ => rfl
  | t :: a, b, i + 1, h => by
    show lnthH (a ++ b) i = lnthH a i
    exact lnthH_append a b i (by simpa using h)
theorem lnthH_last : ∀ (a : List H) (t : H), lnthH (a ++ [t]) a.length = some t
  | [], _ => rfl
  | _ :: a, t => by
    show lnthH (a ++ [t]) a.length = some t
    exact lnthH_last a t
section
variable (X : Tr P L ops y ih S V)
include X
theorem Tr.quiet {j : Nat} (hj : j < ops.size) (hh : hvA ops j = false) : ((S (j + 1)).t = (S j).t ∧ (S (j + 1)).n = (S j).n) ∨ ∃ ob, AS ops S j ob := by
  have h := X.step j hj
  cases hw : Wants (cOper P L ops (ops.getD j default)) (S j) with
  | false => exact .inl (h.off hw).2
  | true =>
    obtain ⟨iop, hc, _, h1⟩ := step_iop h hw
    rcases (cls_hv hc).1 with ⟨h2, _⟩ | ⟨h2, h3, _⟩ | ⟨_, h2⟩
    · obtain ⟨v, h3⟩ := o_pure h2 ok_ne h1
      injection h3 with _ h4 h5
      exact .inl ⟨h4.symm, h5.symm⟩
    · obtain ⟨v, ob, h4⟩ := o_alloc h2 ok_ne h1
      injection h4 with _ h4 h5
      exact .inr ⟨ob, h3, h4.symm, h5.symm⟩
    · unfold hvA at hh; rw [hh] at h2; cases h2
theorem Tr.n_step {j : Nat} (hj : j < ops.size) : (S j).n ≤ (S (j + 1)).n := by
  have h := X.step j hj
  cases hw : Wants (cOper P L ops (ops.getD j default)) (S j) with
  | false => rw [(h.off hw).2.2]; exact Nat.le_refl _
  | true =>
    obtain ⟨iop, hc, _, h1⟩ := step_iop h hw
    obtain ⟨v, t', n', h2, h3⟩ := o_denOp X.im X.ym ok_ne h1
    injection h3 with _ _ h3
    omega
theorem Tr.n_mono {i : Nat} : ∀ {j : Nat}, i ≤ j → j ≤ ops.size → (S i).n ≤ (S j).n := by
  intro j
  induction j with
  | zero => intro h _; obtain rfl : i = 0 := by omega
            exact Nat.le_refl _
  | succ j ihj =>
    intro h hj
    rcases Nat.lt_or_ge i (j + 1) with h1 | h1
    · exact Nat.le_trans (ihj (by omega) (by omega)) (X.n_step (by omega))
    · obtain rfl : i = j + 1 := by omega
      exact Nat.le_refl _
theorem Tr.as_lt {a i : Nat} {ob : AO} (h : AS ops S a ob) (hi : a < i) (hs : i ≤ ops.size) : (S a).n < (S i).n := by
  have := X.n_mono (i := a + 1) (j := i) (by omega) hs
  have := h.2.2
  omega
/-- between heavy ones: what was there -/
theorem Tr.q_ht {p : Nat} (h0 : HT (S p).t (S p).n) : ∀ {i : Nat}, p ≤ i → i ≤ ops.size → (∀ j, p ≤ j → j < i → hvA ops j = false) → HT (S i).t (S i).n := by
  intro i
  induction i with
  | zero => intro h _ _; obtain rfl : p = 0 := by omega
            exact h0
  | succ i ihi =>
    intro h hi hq
    rcases Nat.lt_or_ge p (i + 1) with h1 | h1
    · have h2 := ihi (by omega) (by omega) (fun j a b => hq j a (by omega))
      rcases X.quiet (j := i) (by omega) (hq i (by omega) (by omega)) with ⟨h3, h4⟩ | ⟨ob, _, h3, h4⟩
      · rw [h3, h4]; exact h2
      · rw [h3, h4]; exact h2.next
    · obtain rfl : p = i + 1 := by omega
      exact h0
theorem Tr.q_get1 {p b : Nat} {o : AO} : ∀ {i : Nat}, p ≤ i → i ≤ ops.size → (∀ j, p ≤ j → j < i → hvA ops j = false) → (S i).t.get b = some o → (S p).t.get b = some o ∨ ∃ a, p ≤ a ∧ a < i ∧ AS ops S a o ∧ (S a).n = b := by
  intro i
  induction i with
  | zero => intro h _ _ hg; obtain rfl : p = 0 := by omega
            exact .inl hg
  | succ i ihi =>
    intro h hi hq hg
    rcases Nat.lt_or_ge p (i + 1) with h1 | h1
    · have ih2 := ihi (by omega) (by omega) (fun j a b => hq j a (by omega))
      have old : (S i).t.get b = some o → (S p).t.get b = some o ∨ ∃ a, p ≤ a ∧ a < i + 1 ∧ AS ops S a o ∧ (S a).n = b := fun h => by
        rcases ih2 h with h | ⟨a, h1, h2, h3⟩
        · exact .inl h
        · exact .inr ⟨a, h1, by omega, h3⟩
      rcases X.quiet (j := i) (by omega) (hq i (by omega) (by omega)) with ⟨h3, h4⟩ | ⟨ob, hA⟩
      · rw [h3] at hg; exact old hg
      · rw [hA.2.1, T.get_set_if] at hg
        split at hg
        · rename_i hb
          injection hg with hg; subst hg
          exact .inr ⟨i, by omega, by omega, hA, hb⟩
        · exact old hg
    · obtain rfl : p = i + 1 := by omega
      exact .inl hg
theorem Tr.q_get2 {p b : Nat} {o : AO} (h0 : HT (S p).t (S p).n) (hg : (S p).t.get b = some o) : ∀ {i : Nat}, p ≤ i → i ≤ ops.size → (∀ j, p ≤ j → j < i → hvA ops j = false) → (S i).t.get b = some o := by
  intro i
  induction i with
  | zero => intro h _ _; obtain rfl : p = 0 := by omega
            exact hg
  | succ i ihi =>
    intro h hi hq
    rcases Nat.lt_or_ge p (i + 1) with h1 | h1
    · have h2 := ihi (by omega) (by omega) (fun j a b => hq j a (by omega))
      have h5 := X.q_ht h0 (i := i) (by omega) (by omega) (fun j a b => hq j a (by omega))
      rcases X.quiet (j := i) (by omega) (hq i (by omega) (by omega)) with ⟨h3, h4⟩ | ⟨ob, hA⟩
      · rw [h3]; exact h2
      · have := h5.lt h2
        rw [hA.2.1, T.get_set_ne _ _ _ _ (by omega)]; exact h2
    · obtain rfl : p = i + 1 := by omega
      exact hg
theorem Tr.q_get3 {p a : Nat} {o : AO} (h0 : HT (S p).t (S p).n) (hp : p ≤ a) (hA : AS ops S a o) {i : Nat} (hi : a < i) (hs : i ≤ ops.size) (hq : ∀ j, p ≤ j → j < i → hvA ops j = false) : (S i).t.get (S a).n = some o := by
  have h1 : HT (S (a + 1)).t (S (a + 1)).n := X.q_ht h0 (by omega) (by omega) (fun j x y => hq j x (by omega))
  refine X.q_get2 h1 ?_ (i := i) (by omega) hs (fun j x y => hq j (by omega) y)
  rw [hA.2.1]; exact T.get_set _ _ _
/-! ### the slots of the text -/
theorem Tr.el (h0 : ∀ d ∈ L, (S 0).e.get d = none) (h1 : ∀ d, d ∉ L → (S 0).l.get d = none) : ∀ i, i ≤ ops.size → (∀ d ∈ L, (S i).e.get d = none) ∧ ∀ d, d ∉ L → (S i).l.get d = none := by
  intro i
  induction i with
  | zero => exact fun _ => ⟨h0, h1⟩
  | succ i ihi =>
    intro hi
    obtain ⟨h2, h3⟩ := ihi (by omega)
    have h := X.step i (by omega)
    obtain ⟨hd, _⟩ := form h
    rw [h.hl, h.he, hd]
    unfold cDst
    cases (ops.getD i default).dst with
    | none => exact ⟨h2, h3⟩
    | some d =>
      simp only
      by_cases hL : L.contains d = true
      · rw [if_pos hL]
        have hL' : d ∈ L := by simpa using hL
        refine ⟨h2, fun q hq => ?_⟩
        show ((S i).l.set (V i) d).get q = none
        rw [T.get_set_ne _ _ _ _ (fun e => hq (by rw [← e]; exact hL'))]; exact h3 q hq
      · rw [if_neg hL]
        have hL' : d ∉ L := by simpa using hL
        refine ⟨fun q hq => ?_, h3⟩
        show ((S i).e.set (V i) d).get q = none
        rw [T.get_set_ne _ _ _ _ (fun e => hL' (by rw [e]; exact hq))]; exact h2 q hq
theorem Tr.lk_step (h0 : ∀ d ∈ L, (S 0).e.get d = none) (h1 : ∀ d, d ∉ L → (S 0).l.get d = none) {i : Nat} (hi : i < ops.size) (s : Nat) :
    lk (S (i + 1)).l (S (i + 1)).e s = if dstA ops i = some s then some (V i) else lk (S i).l (S i).e s := by
  obtain ⟨h2, h3⟩ := X.el h0 h1 i (by omega)
  have h := X.step i hi
  obtain ⟨hd, _⟩ := form h
  rw [h.hl, h.he, hd]
  unfold cDst dstA
  cases (ops.getD i default).dst with
  | none => simp [putL, putE]
  | some d =>
    simp only [Option.some.injEq]
    by_cases hL : L.contains d = true
    · rw [if_pos hL]
      show lk ((S i).l.set (V i) d) (S i).e s = _
      unfold lk
      rw [T.get_set_if]
      by_cases hds : d = s
      · rw [if_pos hds, if_pos hds]
      · rw [if_neg hds, if_neg hds]
    · rw [if_neg hL]
      have hL' : d ∉ L := by simpa using hL
      show lk (S i).l ((S i).e.set (V i) d) s = _
      unfold lk
      rw [T.get_set_if]
      by_cases hds : d = s
      · subst hds; rw [if_pos rfl, if_pos rfl, h3 d hL']
      · rw [if_neg hds, if_neg hds]
/-- what a slot holds in the text -/
theorem Tr.tv (h0 : ∀ d ∈ L, (S 0).e.get d = none) (h1 : ∀ d, d ∉ L → (S 0).l.get d = none) {s : Nat} {v : AV} : ∀ {i : Nat}, i ≤ ops.size → lk (S i).l (S i).e s = some v →
    (∃ j, j < i ∧ dstA ops j = some s ∧ v = V j) ∨ ((∀ j, j < i → dstA ops j ≠ some s) ∧ lk (S 0).l (S 0).e s = some v) := by
  intro i
  induction i with
  | zero => exact fun _ h => .inr ⟨fun j hj => by omega, h⟩
  | succ i ihi =>
    intro hi h
    rw [X.lk_step h0 h1 (by omega)] at h
    split at h
    · rename_i hd
      injection h with h
      exact .inl ⟨i, by omega, hd, h.symm⟩
    · rename_i hd
      rcases ihi (by omega) h with ⟨j, h2, h3, h4⟩ | ⟨h2, h3⟩
      · exact .inl ⟨j, by omega, h3, h4⟩
      · refine .inr ⟨fun j hj => ?_, h3⟩
        rcases Nat.lt_or_ge j i with h4 | h4
        · exact h2 j h4
        · obtain rfl : j = i := by omega
          exact hd
/-! ### the stages -/
theorem Tr.hs_len (hs0 : (S 0).hs = [(S 0).t]) : ∀ {i : Nat}, i ≤ ops.size → (S i).hs.length = ((List.range i).filter (hvA ops)).length + 1 := by
  intro i
  induction i with
  | zero => intro _; rw [hs0]; rfl
  | succ i ihi =>
    intro hi
    have h := X.step i (by omega)
    obtain ⟨_, hh, _⟩ := form h
    rw [h.hh, hh, List.range_succ, List.filter_append, List.length_append]
    have ih2 := ihi (by omega)
    by_cases hx : hvA ops i = true
    · have hx' : isHeavy (ops.getD i default).op = true := hx
      rw [if_pos hx', List.length_cons, ih2, filt_one, if_pos hx]
    · have hx' : ¬ isHeavy (ops.getD i default).op = true := hx
      rw [if_neg hx', ih2, filt_one, if_neg hx]
theorem Tr.stage (hs0 : (S 0).hs = [(S 0).t]) {p : Nat} (hp : p = 0 ∨ ∃ h, hvA ops h = true ∧ p = h + 1) : ∀ {i : Nat}, p ≤ i → i ≤ ops.size → lnthH (S i).hs.reverse ((List.range p).filter (hvA ops)).length = some (S p).t := by
  intro i
  induction i with
  | zero =>
    intro h _
    obtain rfl : p = 0 := by omega
    rw [hs0]; rfl
  | succ i ihi =>
    intro h hi
    have hst := X.step i (by omega)
    obtain ⟨_, hh, _⟩ := form hst
    have hlen := X.hs_len hs0 (i := i) (by omega)
    rcases Nat.lt_or_ge p (i + 1) with h1 | h1
    · have h2 := ihi (by omega) (by omega)
      rw [hst.hh]
      split
      · rw [List.reverse_cons, lnthH_append _ _ _ ?_]
        · exact h2
        · rw [List.length_reverse, hlen]
          have : ((List.range p).filter (hvA ops)).length ≤ ((List.range i).filter (hvA ops)).length := by
            have : (List.range i) = List.range p ++ List.range' p (i - p) := by
              have h5 := List.range'_append_1 (s := 0) (m := p) (n := i - p)
              rw [List.range_eq_range', List.range_eq_range']
              rw [Nat.zero_add] at h5
              rw [h5]; congr 1; omega
            rw [this, List.filter_append, List.length_append]; omega
          omega
      · exact h2
    · obtain rfl : p = i + 1 := by omega
      rcases hp with hp | ⟨hv, hp, he⟩
      · omega
      · obtain rfl : hv = i := by omega
        rw [hst.hh, hh]
        have hx : isHeavy (ops.getD hv default).op = true := hp
        rw [if_pos hx, List.reverse_cons, List.range_succ, List.filter_append, List.length_append]
        have : ((List.range hv).filter (hvA ops)).length + ([hv].filter (hvA ops)).length = (S hv).hs.reverse.length := by
          rw [List.length_reverse, hlen]; simp [hp]
        rw [this]
        exact lnthH_last _ _
end
end Ev
/- A drawn region: what is done in whatever order. -/
namespace Ev
open Go
variable {P : Program} {tk : Tok} {L : List Nat} {ops : Array Oper} {y : Yh} {ih : Ih} {S : Nat → St} {V : Nat → AV} {ι ι0 : Rn} {w w0 : World} {ac ac0 : Act} {K0 : G} {N m p i : Nat} {ro : Option Nat} {g : G} {Dn : Nat → Prop}
/-! ### the checks of the readings -/
theorem denSame_inv {o : IOper} {v : AV} {l e : T AV} {hs : List H} {r : Out} (hr : NE r) : ∀ {c lo : Nat} {q : Out}, denSame o v l e hs lo c q = r → q = r ∧ ∀ j, lo ≤ j → j < lo + c → ∃ t, lnthH hs j = some t ∧ ∃ t2 n2, denOp noY noIh o.op l e t 0 okK = .ok v t2 n2
  | 0, lo, q, h => ⟨h, fun j h1 h2 => by omega⟩
  | c + 1, lo, q, h => by
    unfold denSame at h
    cases hs' : lnthH hs lo with
    | none => rw [hs'] at h; exact absurd h.symm (hr _)
    | some t =>
      rw [hs'] at h
      obtain ⟨v', t2, n2, h1, h2⟩ := B_inv hr (show eqAt _ v _ = r from h)
      obtain ⟨h3, h4⟩ := bO_inv h2 hr
      obtain rfl : v' = v := of_decide_eq_true h3
      obtain ⟨h5, h6⟩ := denSame_inv hr h4
      refine ⟨h5, fun j h7 h8 => ?_⟩
      rcases Nat.eq_or_lt_of_le h7 with h9 | h9
      · subst h9; exact ⟨t, hs', t2, n2, h1⟩
      · exact h6 j (by omega) (by omega)
theorem denChk_inv {l e : T AV} {hs : List H} {r : Out} (hr : NE r) : ∀ {ch : List (Nat × Nat × IOper × Nat)} {q : Out}, denChk l e hs ch q = r → q = r ∧ ∀ lo c o d, (lo, c, o, d) ∈ ch →
    (∀ s b, o.guard = some (s, b) → ∀ g, lk l e s = some g → gV g b = true) → ∃ v, lk l e d = some v ∧ ∀ j, lo ≤ j → j < lo + c → ∃ t, lnthH hs j = some t ∧ ∃ t2 n2, denOp noY noIh o.op l e t 0 okK = .ok v t2 n2
  | [], q, h => ⟨h, fun _ _ _ _ hm => by cases hm⟩
  | (lo, c, o, d) :: ch, q, h => by
    have go : (fetch l e (.t d) fun v => denSame o v l e hs lo c (denChk l e hs ch q)) = r → q = r ∧ (∃ v, lk l e d = some v ∧ ∀ j, lo ≤ j → j < lo + c → ∃ t, lnthH hs j = some t ∧ ∃ t2 n2, denOp noY noIh o.op l e t 0 okK = .ok v t2 n2) ∧ denChk l e hs ch q = r := by
      intro h
      rw [fetch_lk] at h
      cases hd : lk l e d with
      | none => rw [hd] at h; exact absurd h.symm (hr _)
      | some v =>
        rw [hd] at h
        obtain ⟨h1, h2⟩ := denSame_inv hr h
        exact ⟨(denChk_inv hr h1).1, ⟨v, rfl, h2⟩, h1⟩
    unfold denChk at h
    cases hg : o.guard with
    | none =>
      rw [hg] at h
      obtain ⟨h1, h2, h3⟩ := go h
      refine ⟨h1, fun lo' c' o' d' hm hgd => ?_⟩
      rcases List.mem_cons.1 hm with hm | hm
      · injection hm with a1 a2; injection a2 with a2 a3; injection a3 with a3 a4
        subst a1; subst a2; subst a3; subst a4; exact h2
      · exact (denChk_inv hr h3).2 lo' c' o' d' hm hgd
    | some q' =>
      obtain ⟨s, b⟩ := q'
      rw [hg] at h
      simp only at h
      rw [fetch_lk] at h
      cases hs' : lk l e s with
      | none => rw [hs'] at h; exact absurd h.symm (hr _)
      | some g =>
        rw [hs'] at h
        simp only at h
        rw [gB_gV] at h
        rcases bO_cases h with ⟨h0, h⟩ | ⟨h0, h⟩
        · obtain ⟨h1, h2, h3⟩ := go h
          refine ⟨h1, fun lo' c' o' d' hm hgd => ?_⟩
          rcases List.mem_cons.1 hm with hm | hm
          · injection hm with a1 a2; injection a2 with a2 a3; injection a3 with a3 a4
            subst a1; subst a2; subst a3; subst a4; exact h2
          · exact (denChk_inv hr h3).2 lo' c' o' d' hm hgd
        · obtain ⟨h1, h3⟩ := denChk_inv hr h
          refine ⟨h1, fun lo' c' o' d' hm hgd => ?_⟩
          rcases List.mem_cons.1 hm with hm | hm
          · injection hm with a1 a2; injection a2 with a2 a3; injection a3 with a3 a4
            subst a1; subst a2; subst a3; subst a4
            have := hgd s b hg g hs'
            rw [this] at h0; cases h0
          · exact h3 lo' c' o' d' hm hgd
/-! ### the heap behind what is done -/
def GI (ops : Array Oper) (S : Nat → St) (K0 : G) (Dn : Nat → Prop) (p : Nat) (g : G) : Prop := ∀ b,
  (∀ o, (S p).t.get b = some o → g b = some o) ∧
  ((S p).t.get b = none → (∀ a ob, p ≤ a → a < ops.size → Dn a → AS ops S a ob → (S a).n = b → g b = some ob) ∧ ((∀ a ob, p ≤ a → a < ops.size → Dn a → AS ops S a ob → (S a).n ≠ b) → g b = K0 b))
/-- nothing heavy lies between, and what was made is there -/
structure Sy (ops : Array Oper) (S : Nat → St) (Dn : Nat → Prop) (p i : Nat) : Prop where
  le : p ≤ i
  no : ∀ j, p ≤ j → j < i → hvA ops j = false
  al : ∀ a ob, a < i → AS ops S a ob → Dn a
theorem gi_get (X : Tr P L ops y ih S V) (hg : GI ops S K0 Dn p g) (hs : Sy ops S Dn p i) (hi : i ≤ ops.size) (ht : HT (S p).t (S p).n) {b : Nat} {o : AO} (h : (S i).t.get b = some o) : g b = some o := by
  rcases X.q_get1 hs.le hi hs.no h with h1 | ⟨a, h1, h2, h3, h4⟩
  · exact (hg b).1 o h1
  · refine ((hg b).2 ?_).1 a o h1 (by omega) (hs.al a o h2 h3) h3 h4
    refine ht b ?_
    rw [← h4]; exact X.n_mono h1 (by omega)
theorem un_self {t : H} (h : ∀ b o, t.get b = some o → g b = some o) : un t g = g := by
  funext b
  unfold un
  cases hb : t.get b with
  | none => rfl
  | some o => exact (h b o hb).symm
/-- what lies beside at a heavy one -/
def side (S : Nat → St) (i : Nat) (g : G) : G := fun b => if b < (S (i + 1)).n then none else g b
theorem side_kt : KT (side S i g) (S (i + 1)).n := fun b hb => if_pos hb
theorem side_un (X : Tr P L ops y ih S V) (hK : KT K0 (S ops.size).n) (hg : GI ops S K0 Dn p g) (hs : Sy ops S Dn p i) (hi : i < ops.size) (hh : hvA ops i = true) (ht : HT (S p).t (S p).n) : un (S i).t (side S i g) = g := by
  funext b
  unfold un
  cases hb : (S i).t.get b with
  | some o => exact (gi_get X hg hs (by omega) ht hb).symm
  | none =>
    show side S i g b = g b
    unfold side
    split
    · rename_i hlt
      have hpn : (S p).t.get b = none := by
        cases hb' : (S p).t.get b with
        | none => rfl
        | some o => rw [X.q_get2 ht hb' hs.le (by omega) hs.no] at hb; cases hb
      have h3 := ((hg b).2 hpn).2 (fun a ob h1 h2 h3 h4 h5 => by
        rcases Nat.lt_or_ge a i with h6 | h6
        · rw [← h5, X.q_get3 ht h1 h4 h6 (by omega) hs.no] at hb; cases hb
        · rcases Nat.eq_or_lt_of_le h6 with h7 | h7
          · subst h7
            have := al_hv (show isAlloc (ops.getD i default).op = true from h4.1)
            unfold hvA at hh; rw [this] at hh; cases hh
          · have := X.n_mono (i := i + 1) (j := a) (by omega) (by omega)
            omega)
      rw [h3]
      have := X.n_mono (i := i + 1) (j := ops.size) (by omega) (Nat.le_refl _)
      exact (hK b (by omega)).symm
    · rfl
theorem gi_heavy (X : Tr P L ops y ih S V) (hK : KT K0 (S ops.size).n) (hg : GI ops S K0 Dn p g) (hs : Sy ops S Dn p i) (hi : i < ops.size) (hh : hvA ops i = true) (ht : HT (S p).t (S p).n) :
    GI ops S K0 (fun j => Dn j ∨ j = i) (i + 1) (un (S (i + 1)).t (side S i g)) := by
  have hpi := X.n_mono hs.le (by omega)
  have hii := X.n_step hi
  intro b
  refine ⟨fun o ho => by simp [un, ho], fun hb => ?_⟩
  have hun : un (S (i + 1)).t (side S i g) b = side S i g b := by simp [un, hb]
  rw [hun]
  refine ⟨fun a ob h1 h2 h3 h4 h5 => ?_, fun hno => ?_⟩
  · have h6 := X.n_mono (i := i + 1) (j := a) h1 (by omega)
    unfold side
    rw [if_neg (by omega)]
    refine ((hg b).2 (ht b (by omega))).1 a ob (by have := hs.le; omega) h2 ?_ h4 h5
    rcases h3 with h3 | h3
    · exact h3
    · omega
  · unfold side
    split
    · have := X.n_mono (i := i + 1) (j := ops.size) (by omega) (Nat.le_refl _)
      exact (hK b (by omega)).symm
    · rename_i hge
      refine ((hg b).2 (ht b (by omega))).2 (fun a ob h1 h2 h3 h4 h5 => ?_)
      rcases Nat.lt_or_ge a (i + 1) with h6 | h6
      · have h7 := X.as_lt h4 h6 (by omega)
        omega
      · exact hno a ob h6 h2 (.inl h3) h4 h5
theorem gi_same (hg : GI ops S K0 Dn p g) (hn : ∀ ob, ¬ AS ops S i ob) : GI ops S K0 (fun j => Dn j ∨ j = i) p g := fun b =>
  ⟨(hg b).1, fun hb => ⟨fun a ob h1 h2 h3 h4 h5 => by
    rcases h3 with h3 | h3
    · exact ((hg b).2 hb).1 a ob h1 h2 h3 h4 h5
    · subst h3; exact absurd h4 (hn ob), fun h => ((hg b).2 hb).2 fun a ob h1 h2 h3 h4 => h a ob h1 h2 (.inl h3) h4⟩⟩
theorem gi_alloc (X : Tr P L ops y ih S V) (hg : GI ops S K0 Dn p g) (hi : i < ops.size) (hpi : p ≤ i) {ob : AO} (hA : AS ops S i ob) (hnd : ¬ Dn i) (ht : HT (S p).t (S p).n) (hK : KT K0 (S ops.size).n) :
    g (S i).n = none ∧ GI ops S K0 (fun j => Dn j ∨ j = i) p (upd g (S i).n ob) := by
  have hpn := X.n_mono hpi (by omega)
  have hu : ∀ a ob', a < ops.size → AS ops S a ob' → a ≠ i → (S a).n ≠ (S i).n := fun a ob' h1 h2 h3 => by
    rcases Nat.lt_or_ge a i with h4 | h4
    · have := X.as_lt h2 h4 (by omega); omega
    · have := X.as_lt hA (i := a) (by omega) (by omega); omega
  have h0 := ht (S i).n hpn
  refine ⟨?_, fun b => ⟨fun o ho => ?_, fun hb => ⟨fun a ob' h1 h2 h3 h4 h5 => ?_, fun h => ?_⟩⟩⟩
  · rw [((hg _).2 h0).2 (fun a ob' h1 h2 h3 h4 => hu a ob' h2 h4 (fun e => hnd (e ▸ h3)))]
    have := X.as_lt hA (i := ops.size) hi (Nat.le_refl _)
    exact hK _ this
  · unfold upd
    rw [if_neg (fun e => by rw [e] at h0; rw [h0] at ho; cases ho)]
    exact (hg b).1 o ho
  · unfold upd
    by_cases e : a = i
    · subst e
      rw [if_pos h5]
      have := h4.2.1.symm.trans hA.2.1
      have h6 : ((S a).t.set ob' (S a).n).get (S a).n = ((S a).t.set ob (S a).n).get (S a).n := by rw [this]
      rw [T.get_set, T.get_set] at h6
      exact h6.symm
    · have := hu a ob' h2 h4 e
      rw [if_neg (by omega)]
      rcases h3 with h3 | h3
      · exact ((hg b).2 hb).1 a ob' h1 h2 h3 h4 h5
      · exact absurd h3 e
  · have := h i ob hpi hi (.inr rfl) hA
    unfold upd
    rw [if_neg this]
    exact ((hg b).2 hb).2 fun a ob' h1 h2 h3 h4 => h a ob' h1 h2 (.inl h3) h4
end Ev
/- A drawn region: one operation more. -/
namespace Ev
open Go
variable {P : Program} {tk : Tok} {L : List Nat} {ops : Array Oper} {y : Yh} {ih : Ih} {S : Nat → St} {V : Nat → AV} {ι ι0 : Rn} {w w0 : World} {ac ac0 : Act} {K0 : G} {N m p i : Nat} {ro : Option Nat} {g : G} {Dn : Nat → Prop}
structure DI (ops : Array Oper) (S : Nat → St) (V : Nat → AV) (ι0 : Rn) (w0 : World) (ac0 : Act) (K0 : G) (N : Nat) (Dn : Nat → Prop) (ι : Rn) (p : Nat) (ac : Act) (w : World) : Prop where
  cl : Cl ops Dn
  ext : ExtC w0.heap.size ι0 ι
  frm : Frm ι0 w0 w
  sl1 : ∀ j s, Dn j → dstA ops j = some s → ∃ x, toV ι (V j) = some x ∧ ac.tmps[s]? = some x
  sl2 : ∀ s v, (∀ j, Dn j → dstA ops j ≠ some s) → lk (S 0).l (S 0).e s = some v → ∃ x, toV ι v = some x ∧ ac.tmps[s]? = some x
  sz : ac.tmps.size = N
  df : ac.defers = ac0.defers
  pz : p ≤ ops.size
  hp : p = 0 ∨ ∃ h, hvA ops h = true ∧ p = h + 1
  hpd : ∀ h, h < ops.size → hvA ops h = true → (Dn h ↔ h < p)
  ht : HT (S p).t (S p).n
  yt : YT ι (S p).n
  rel : ∃ g, Rel ι g w ∧ GI ops S K0 Dn p g
/-- an operation that may come up -/
structure Rd (ops : Array Oper) (Dn : Nat → Prop) (i : Nat) : Prop where
  lt : i < ops.size
  nd : ¬ Dn i
  rd : ∀ e ∈ (ops.getD i default).after, Region.binds .any e = true → Dn e.on
/-- the start's slots -/
structure S0 (L : List Nat) (S : Nat → St) : Prop where
  e : ∀ d ∈ L, (S 0).e.get d = none
  l : ∀ d, d ∉ L → (S 0).l.get d = none
theorem wants_none {o : IOper} {s : St} (h : o.guard = none) : Wants o s = true := by simp [Wants, h]
theorem wants_some {o : IOper} {s : St} {q : Nat} {b : Bool} {g : AV} (h : o.guard = some (q, b)) (hg : lk s.l s.e q = some g) : Wants o s = gV g b := by simp [Wants, h, hg]
theorem mem_guard {o : IOper} {q : Nat} {b : Bool} (h : o.guard = some (q, b)) : q ∈ ioperS o := by simp [ioperS, h]
section
variable (X : Tr P L ops y ih S V) (D : Dr P L ops) (Z : S0 L S) (I : DI ops S V ι0 w0 ac0 K0 N Dn ι p ac w) (R : Rd ops Dn i)
include X D Z I R
theorem rd_slot {s : Nat} {v : AV} (hs : s ∈ ioperS (cOper P L ops (ops.getD i default))) (h : lk (S i).l (S i).e s = some v) : ∃ x, toV ι v = some x ∧ ac.tmps[s]? = some x := by
  have hi := R.lt
  rcases X.tv Z.e Z.l (by omega) h with ⟨j, h1, h2, rfl⟩ | ⟨h1, h2⟩
  · rcases D.c5 i j s hi (by omega) h2 hs with h3 | ⟨h3, _⟩
    · exact I.sl1 j s (cl_ready I.cl R.rd h3) h2
    · have := D.pre_lt h3; omega
  · refine I.sl2 s v (fun j hj hd => ?_) h2
    have hj' := (I.cl j hj).1
    rcases D.c5 i j s hi hj' hd hs with h3 | ⟨h3, _⟩
    · exact h1 j (D.pre_lt h3) hd
    · exact R.nd (cl_pre I.cl hj h3)
theorem rd_wanted : Region.wanted (ops.getD i default) (yielded ops ac.tmps) = Wants (cOper P L ops (ops.getD i default)) (S i) := by
  have h := X.step i R.lt
  obtain ⟨_, _, _, h1⟩ := form h
  rcases h1 with ⟨h1, h2⟩ | ⟨j, b, q, h1, h2, h3⟩
  · rw [wanted_none h1, wants_none h2]
  · obtain ⟨g, hg⟩ := h.hg q b h3
    obtain ⟨x, hx, ht⟩ := rd_slot X D Z I R (s := q) (v := g) (mem_guard h3) hg
    have h4 := wanted_some (ac := ac) h1 h2 ht
    have h5 : Wants (cOper P L ops (ops.getD i default)) (S i) = gV g b := wants_some h3 hg
    rw [h5]
    have h6 := gV_ok (b := b) hx
    cases hA : Region.wanted (ops.getD i default) (yielded ops ac.tmps) <;> cases hB : gV g b
    · rfl
    · have := h4.2 (h6.1 hB); rw [hA] at this; cases this
    · have := h6.2 (h4.1 hA); rw [hB] at this; cases this
    · rfl
/-- the slots that are read, alone -/
theorem rd_env {iop : IOp} (ho : (cOper P L ops (ops.getD i default)).op = iop) : TR ι .leaf ac.tmps ∧ TR ι (pickE (S i).l (S i).e (iopS iop)) ac.tmps ∧ ∀ (y : Yh) (ih : Ih) (th : H) (n : Nat) (k : KH), denOp y ih iop (S i).l (S i).e th n k = denOp y ih iop .leaf (pickE (S i).l (S i).e (iopS iop)) th n k := by
  refine ⟨TR.leaf _ _, fun s v hv => ?_, fun y ih th n k => c_denOp fun s hs => (pickE_lk hs).symm⟩
  rw [pickE_get] at hv
  split at hv
  · rename_i hs
    exact rd_slot X D Z I R (by rw [ioperS, ho]; exact List.mem_append_right _ hs) hv
  · cases hv
omit X Z in
/-- what the next one is -/
theorem di_next {ι' : Rn} {w' : World} {p' : Nat} {g' : G} {Vv : Value} (hN : ∀ d, dstA ops i = some d → d < N) (he : ExtC w.heap.size ι ι') (hf : Frm ι w w') (hV : toV ι' (V i) = some Vv)
    (hpz : p' ≤ ops.size) (hp : p' = 0 ∨ ∃ h, hvA ops h = true ∧ p' = h + 1) (hpd : ∀ h, h < ops.size → hvA ops h = true → ((Dn h ∨ h = i) ↔ h < p')) (ht : HT (S p').t (S p').n) (hy : YT ι' (S p').n)
    (hR : Rel ι' g' w') (hG : GI ops S K0 (fun j => Dn j ∨ j = i) p' g') : DI ops S V ι0 w0 ac0 K0 N (fun j => Dn j ∨ j = i) ι' p' (ac.put (ops.getD i default).dst Vv) w' := by
  have hi := R.lt
  have hput : ∀ s, dstA ops i ≠ some s → (ac.put (ops.getD i default).dst Vv).tmps[s]? = ac.tmps[s]? := fun s hs => by
    unfold dstA at hs
    cases hd : (ops.getD i default).dst with
    | none => rfl
    | some d =>
      rw [hd] at hs
      exact Array.getElem?_setIfInBounds_ne (fun e => hs (by rw [e]))
  refine ⟨?_, I.ext.trans he I.frm.size, I.frm.trans I.ext hf, ?_, ?_, ?_, ?_, hpz, hp, hpd, ht, hy, g', hR, hG⟩
  · rintro j (hj | hj)
    · exact ⟨(I.cl j hj).1, fun e h1 h2 => .inl ((I.cl j hj).2 e h1 h2)⟩
    · subst hj; exact ⟨hi, fun e h1 h2 => .inl (R.rd e h1 h2)⟩
  · rintro j s (hj | hj) hd
    · obtain ⟨x, hx, hg⟩ := I.sl1 j s hj hd
      refine ⟨x, toV_mono he.le _ _ hx, ?_⟩
      rw [hput s (fun h => R.nd (by rw [D.nodup i j s hi (I.cl j hj).1 hd h]; exact hj))]; exact hg
    · subst hj
      refine ⟨Vv, hV, ?_⟩
      have hlt := hN s hd
      have hd : (ops.getD j default).dst = some s := hd
      rw [hd]
      show (ac.tmps.setIfInBounds s Vv)[s]? = _
      have : s < ac.tmps.size := by rw [I.sz]; exact hlt
      simp [this]
  · intro s v hno hv
    obtain ⟨x, hx, hg⟩ := I.sl2 s v (fun j hj => hno j (.inl hj)) hv
    exact ⟨x, toV_mono he.le _ _ hx, by rw [hput s (hno i (.inr rfl))]; exact hg⟩
  · rw [← I.sz]; cases (ops.getD i default).dst <;> simp [Act.put]
  · rw [← I.df]; cases (ops.getD i default).dst <;> rfl
omit X Z D in
/-- at one that all heavy ones stand before or behind -/
theorem sync_of (hc : ∀ h, h < ops.size → hvA ops h = true → h < i → pre (Region.before ops) h i = true) (hc' : ∀ h, h < ops.size → hvA ops h = true → i ≤ h → h ≠ i → pre (Region.before ops) i h = true)
    (ha : ∀ a, a < i → alA ops a = true → pre (Region.before ops) a i = true) : Sy ops S Dn p i := by
  have hi := R.lt
  refine ⟨?_, fun j h1 h2 => ?_, fun a ob h1 h2 => cl_ready I.cl R.rd (ha a h1 h2.1)⟩
  · rcases I.hp with h | ⟨h, h1, h2⟩
    · omega
    · have h3 : h < ops.size := by have := I.pz; omega
      have h4 : Dn h := (I.hpd h h3 h1).2 (by omega)
      rcases Nat.lt_or_ge h i with h5 | h5
      · omega
      · have : h ≠ i := fun e => R.nd (e ▸ h4)
        exact absurd (cl_pre I.cl h4 (hc' h h3 h1 h5 this)) R.nd
  · cases hh : hvA ops j with
    | false => rfl
    | true =>
      have h3 := cl_ready I.cl R.rd (hc j (by omega) hh h2)
      have := (I.hpd j (by omega) hh).1 h3
      omega
omit X Z in
theorem sync_heavy (hh : hvA ops i = true) : Sy ops S Dn p i :=
  sync_of I R (fun h h1 h2 h3 => D.ord i h R.lt h1 hh (.inl h2) h3) (fun h h1 h2 h3 h4 => D.ord h i h1 R.lt h2 (.inl hh) (by omega)) (fun a h1 h2 => D.ord i a R.lt (by have := R.lt; omega) hh (.inr h2) h1)
omit X Z in
theorem sync_read (hr : isRead (ops.getD i default).op = true) (hna : asked ops (Region.before ops) i = false) (hh : hvA ops i = false) : Sy ops S Dn p i := by
  unfold asked at hna
  rw [hr, Bool.true_and, List.any_eq_false] at hna
  have h0 : ∀ h, h < ops.size → hvA ops h = true → pre (Region.before ops) h i = true ∨ pre (Region.before ops) i h = true := fun h h1 h2 => by
    have := hna h (List.mem_range.2 h1)
    simp only [h2, Bool.true_and, Bool.or_eq_true, Bool.and_eq_true, Bool.not_eq_true'] at this
    cases h3 : pre (Region.before ops) h i
    · cases h4 : pre (Region.before ops) i h
      · exact absurd (.inl ⟨h3, h4⟩) this
      · exact .inr rfl
    · exact .inl rfl
  refine sync_of I R (fun h h1 h2 h3 => ?_) (fun h h1 h2 h3 h4 => ?_) (fun a h1 h2 => ?_)
  · rcases h0 h h1 h2 with h4 | h4
    · exact h4
    · have := D.pre_lt h4; omega
  · rcases h0 h h1 h2 with h5 | h5
    · have := D.pre_lt h5; omega
    · exact h5
  · have := hna a (List.mem_range.2 (by have := R.lt; omega))
    simp only [h2, h1, Bool.true_and, Bool.or_eq_true, Bool.and_eq_true, Bool.not_eq_true', decide_true] at this
    cases h3 : pre (Region.before ops) a i
    · exact absurd (.inr h3) this
    · rfl
omit X Z D R in
theorem hpd_quiet (hh : hvA ops i = false) : ∀ h, h < ops.size → hvA ops h = true → ((Dn h ∨ h = i) ↔ h < p) := fun h h1 h2 => by
  rw [← I.hpd h h1 h2]
  refine ⟨fun h3 => ?_, .inl⟩
  rcases h3 with h3 | h3
  · exact h3
  · subst h3; rw [hh] at h2; cases h2
omit X Z in
theorem hpd_heavy (hh : hvA ops i = true) : ∀ h, h < ops.size → hvA ops h = true → ((Dn h ∨ h = i) ↔ h < i + 1) := fun h h1 h2 => by
  have hs := sync_heavy D I R hh
  constructor
  · rintro (h3 | h3)
    · have h4 := (I.hpd h h1 h2).1 h3
      have := hs.le; omega
    · omega
  · intro h3
    rcases Nat.eq_or_lt_of_le (show h ≤ i by omega) with h4 | h4
    · exact .inr h4
    · exact .inl (cl_ready I.cl R.rd (D.ord i h R.lt h1 hh (.inl h2) h4))
end
end Ev
/- A drawn region. -/
namespace Ev
open Go
variable {P : Program} {tk : Tok} {L : List Nat} {ops : Array Oper} {y : Yh} {ih : Ih} {S : Nat → St} {V : Nat → AV} {ι ι0 : Rn} {w w0 : World} {ac ac0 : Act} {K0 : G} {N m p i : Nat} {ro : Option Nat} {g : G} {Dn : Nat → Prop} {Q : Exit → Act → World → Prop}
theorem cnt_le (f g : Nat → Bool) : ∀ (l : List Nat), (∀ h ∈ l, f h = true → g h = true) → (l.filter f).length ≤ (l.filter g).length
  | [], _ => Nat.le_refl _
  | a :: l, h => by
    have ih2 := cnt_le f g l (fun x hx => h x (.tail _ hx))
    rw [List.filter_cons, List.filter_cons]
    cases hf : f a with
    | true => rw [if_pos rfl, if_pos (h a (.head _) hf)]; simp only [List.length_cons]; omega
    | false =>
      rw [if_neg (by simp)]
      split
      · simp only [List.length_cons]; omega
      · exact ih2
theorem cnt_below (f : Nat → Bool) {p n : Nat} (hp : p ≤ n) : ((List.range n).filter fun h => f h && decide (h < p)).length = ((List.range p).filter f).length := by
  have h5 := List.range'_append_1 (s := 0) (m := p) (n := n - p)
  rw [Nat.zero_add] at h5
  have : List.range n = List.range p ++ List.range' p (n - p) := by
    rw [List.range_eq_range', List.range_eq_range', h5]; congr 1; omega
  rw [this, List.filter_append, List.length_append]
  have h1 : (List.range p).filter (fun h => f h && decide (h < p)) = (List.range p).filter f := List.filter_congr fun x hx => by simp [List.mem_range.1 hx]
  have h2 : (List.range' p (n - p)).filter (fun h => f h && decide (h < p)) = [] := by
    rw [List.filter_eq_nil_iff]
    intro x hx
    have := List.mem_range'_1.1 hx
    simp; omega
  rw [h1, h2]; rfl
section
variable (X : Tr P L ops y ih S V) (D : Dr P L ops) (Z : S0 L S) (I : DI ops S V ι0 w0 ac0 K0 N Dn ι p ac w) (R : Rd ops Dn i)
include X D Z I R
omit I in
theorem end_same (ha : asked ops (Region.before ops) i = true) {s : Nat} (hs : s ∈ ioperS (cOper P L ops (ops.getD i default))) : ∀ {j : Nat}, i ≤ j → j ≤ ops.size → lk (S j).l (S j).e s = lk (S i).l (S i).e s := by
  intro j
  induction j with
  | zero => intro h _; obtain rfl : i = 0 := by omega
            rfl
  | succ j ihj =>
    intro h hj
    rcases Nat.lt_or_ge i (j + 1) with h1 | h1
    · rw [X.lk_step Z.e Z.l (by omega)]
      split
      · rename_i hd
        rcases D.c5 i j s R.lt (by omega) hd hs with h3 | ⟨_, h3⟩
        · have := D.pre_lt h3; omega
        · rw [ha] at h3; cases h3
      · exact ihj (by omega) (by omega)
    · obtain rfl : i = j + 1 := by omega
      rfl
/-- a reading that may come at several stages reads what it reads in the text -/
theorem asked_read (hs0 : (S 0).hs = [(S 0).t]) (hch : ∀ lo c o d, (lo, c, o, d) ∈ drawChk P L ops (Region.before ops) → (∀ s b, o.guard = some (s, b) → ∀ g, lk (S ops.size).l (S ops.size).e s = some g → gV g b = true) →
      ∃ v, lk (S ops.size).l (S ops.size).e d = some v ∧ ∀ j, lo ≤ j → j < lo + c → ∃ t, lnthH (S ops.size).hs.reverse j = some t ∧ ∃ t2 n2, denOp noY noIh o.op (S ops.size).l (S ops.size).e t 0 okK = .ok v t2 n2)
    (ha : asked ops (Region.before ops) i = true) (hw : Wants (cOper P L ops (ops.getD i default)) (S i) = true) {iop : IOp} (ho : (cOper P L ops (ops.getD i default)).op = iop) :
    ∃ t2 n2, denOp noY noIh iop (S i).l (S i).e (S p).t 0 okK = .ok (V i) t2 n2 := by
  obtain ⟨d, hd⟩ := D.c6 i R.lt ha
  have hes : ∀ {s : Nat}, s ∈ ioperS (cOper P L ops (ops.getD i default)) → lk (S ops.size).l (S ops.size).e s = lk (S i).l (S i).e s := fun hs => end_same X D Z R ha hs (Nat.le_of_lt R.lt) (Nat.le_refl _)
  have hm : (kmin ops (Region.before ops) i, kmax ops (Region.before ops) i + 1 - kmin ops (Region.before ops) i, cOper P L ops (ops.getD i default), d) ∈ drawChk P L ops (Region.before ops) := by
    unfold drawChk
    rw [List.mem_filterMap]
    exact ⟨i, List.mem_range.2 R.lt, by rw [if_pos ha, hd]; rfl⟩
  obtain ⟨v, hv, hj⟩ := hch _ _ _ _ hm (fun s b hg g hlk => by
    rw [hes (mem_guard hg)] at hlk
    rw [wants_some hg hlk] at hw; exact hw)
  have hvV : v = V i := by
    have hvi : lk (S (i + 1)).l (S (i + 1)).e d = some (V i) := by rw [X.lk_step Z.e Z.l R.lt, if_pos hd]
    rcases X.tv Z.e Z.l (Nat.le_refl _) hv with ⟨j, h1, h2, h3⟩ | ⟨h1, _⟩
    · rw [h3, D.nodup i j d R.lt h1 h2 hd]
    · exact absurd hd (h1 i R.lt)
  subst hvV
  have hdone : ∀ h, h < ops.size → hvA ops h = true → pre (Region.before ops) h i = true → h < p := fun h h1 h2 h3 => (I.hpd h h1 h2).1 (cl_ready I.cl R.rd h3)
  have hlow : kmin ops (Region.before ops) i ≤ ((List.range p).filter (hvA ops)).length := by
    rw [← cnt_below (hvA ops) I.pz]
    refine cnt_le _ _ _ fun h hh hf => ?_
    simp only [Bool.and_eq_true, decide_eq_true_eq] at hf ⊢
    exact ⟨hf.1, hdone h (List.mem_range.1 hh) hf.1 hf.2⟩
  have hhigh : ((List.range p).filter (hvA ops)).length ≤ kmax ops (Region.before ops) i := by
    rw [← cnt_below (hvA ops) I.pz]
    refine cnt_le _ _ _ fun h hh hf => ?_
    simp only [Bool.and_eq_true, decide_eq_true_eq, Bool.not_eq_true'] at hf ⊢
    refine ⟨hf.1, ?_⟩
    cases h3 : pre (Region.before ops) i h with
    | false => rfl
    | true => exact absurd (cl_pre I.cl ((I.hpd h (List.mem_range.1 hh) hf.1).2 hf.2) h3) R.nd
  obtain ⟨t, h1, t2, n2, h2⟩ := hj _ hlow (by omega)
  rw [X.stage hs0 I.hp I.pz (Nat.le_refl _)] at h1
  injection h1 with h1; subst h1
  rw [ho] at h2
  refine ⟨t2, n2, ?_⟩
  rw [← h2]
  exact c_denOp fun s hs => (hes (by rw [ioperS, ho]; exact List.mem_append_right _ hs)).symm
/-- one operation more -/
theorem draw_step (hyo : YOK P tk y ι w) (hih : IhOK P tk ih) (hK : KT K0 (S ops.size).n) (hs0 : (S 0).hs = [(S 0).t]) (hch : ∀ lo c o d, (lo, c, o, d) ∈ drawChk P L ops (Region.before ops) → (∀ s b, o.guard = some (s, b) → ∀ g, lk (S ops.size).l (S ops.size).e s = some g → gV g b = true) →
      ∃ v, lk (S ops.size).l (S ops.size).e d = some v ∧ ∀ j, lo ≤ j → j < lo + c → ∃ t, lnthH (S ops.size).hs.reverse j = some t ∧ ∃ t2 n2, denOp noY noIh o.op (S ops.size).l (S ops.size).e t 0 okK = .ok v t2 n2)
    (hN : ∀ d, dstA ops i = some d → d < N) {next : Act → World → Prop} (hn : ∀ ι' p' w' Vv, DI ops S V ι0 w0 ac0 K0 N (fun j => Dn j ∨ j = i) ι' p' (ac.put (ops.getD i default).dst Vv) w' → next (ac.put (ops.getD i default).dst Vv) w') :
    wpG ro m P ops (ops.getD i default) ac w next Q := by
  have hi := R.lt
  have hst := X.step i hi
  obtain ⟨g, hR, hG⟩ := I.rel
  have hgp : un (S p).t g = g := un_self fun b o => (hG b).1 o
  cases hw : Wants (cOper P L ops (ops.getD i default)) (S i) with
  | false =>
    have hw' : ¬ Region.wanted (ops.getD i default) (yielded ops ac.tmps) = true := by rw [rd_wanted X D Z I R, hw]; simp
    rw [wpG, if_neg hw']
    obtain ⟨h1, h2, h3⟩ := hst.off hw
    have hV : toV ι (V i) = some undef := by rw [h1]; exact unit_ok
    cases hh : hvA ops i with
    | false =>
      exact hn ι p w undef (di_next D I R hN (.refl _ _) (.refl _ _) hV I.pz I.hp (hpd_quiet I hh) I.ht I.yt hR (gi_same hG fun ob h => by have := h.2.2; omega))
    | true =>
      have hs := sync_heavy D I R hh
      have hti := X.q_ht I.ht hs.le (Nat.le_of_lt hi) hs.no
      have hni := X.n_mono hs.le (Nat.le_of_lt hi)
      have hG' := gi_heavy X hK hG hs hi hh I.ht
      rw [h2, side_un X hK hG hs hi hh I.ht] at hG'
      exact hn ι (i + 1) w undef (di_next D I R hN (.refl _ _) (.refl _ _) hV hi (.inr ⟨i, hh, rfl⟩) (hpd_heavy D I R hh) (by rw [h2, h3]; exact hti) (I.yt.mono (by rw [h3]; exact hni)) hR hG')
  | true =>
    have hw' : Region.wanted (ops.getD i default) (yielded ops ac.tmps) = true := by rw [rd_wanted X D Z I R, hw]
    rw [wpG, if_pos hw']
    obtain ⟨iop, hc, ho, h1⟩ := step_iop hst hw
    obtain ⟨hl, he, henv⟩ := rd_env X D Z I R ho
    have hd := not_defer hc
    have hcls := cls_hv hc
    have quiet_fin : ∀ {Vv : Value}, isHeavy (ops.getD i default).op = false → cls iop < 2 → toV ι (V i) = some Vv → next (ac.put (ops.getD i default).dst Vv) w := fun hh hc2 hV => by
      refine hn ι p w _ (di_next D I R hN (.refl _ _) (.refl _ _) hV I.pz I.hp (hpd_quiet I hh) I.ht I.yt hR (gi_same hG fun ob h => ?_))
      obtain ⟨v, h3⟩ := o_pure hc2 ok_ne h1
      injection h3 with _ _ h3
      have := h.2.2; omega
    have run1 : OkV ι P w ac.eval (ops.getD i default) (fun v => okK v (S p).t 0) (.ok (V i) (S p).t 0) → isHeavy (ops.getD i default).op = false → cls iop < 2 → (ops.getD i default).wpIn (Fr ro) m P ac w next Q := by
      rintro ⟨v, Vv, h2, h3, h4⟩ hh hc2
      have h2 : Out.ok v (S p).t 0 = .ok (V i) (S p).t 0 := h2
      injection h2 with h2 _ _
      subst h2
      exact wp_value hd h4 (quiet_fin hh hc2 h3)
    rcases hcls.1 with ⟨h2, hh⟩ | ⟨h2, h3, hh⟩ | ⟨h2, hh⟩
    · rcases (by omega : cls iop = 0 ∨ cls iop = 1) with h0 | h0
      · obtain ⟨v, Vv, h3, h4, h5⟩ := dPure (ι := ι) (w := w) (ac := ac) hc h0 hl he ok_ne (by rw [← henv]; exact h1)
        have h3 : Out.ok v (S i).t (S i).n = .ok (V i) (S (i + 1)).t (S (i + 1)).n := h3
        injection h3 with h3 _ _
        subst h3
        exact wp_value hd h5 (quiet_fin hh h2 h4)
      · have fin : ∀ {th : H}, un th g = g → (∃ t2 n2, denOp noY noIh iop (S i).l (S i).e th 0 okK = .ok (V i) t2 n2) ∨ (∃ t2 n2, denOp y ih iop (S i).l (S i).e th (S i).n okK = .ok (V i) t2 n2) → (ops.getD i default).wpIn (Fr ro) m P ac w next Q := by
          intro th hu h
          rcases h with ⟨t2, n2, h⟩ | ⟨t2, n2, h⟩
          · obtain ⟨v, Vv, h3, h4, h5⟩ := dRead (ι := ι) (w := w) (ac := ac) (KK := g) hc h0 (by rw [hu]; exact hR) hl he ok_ne (by rw [← henv]; exact h)
            have h3 : Out.ok v th 0 = .ok (V i) t2 n2 := h3
            injection h3 with h3 _ _
            subst h3
            exact wp_value hd h5 (quiet_fin hh h2 h4)
          · obtain ⟨v, Vv, h3, h4, h5⟩ := dRead (ι := ι) (w := w) (ac := ac) (KK := g) hc h0 (by rw [hu]; exact hR) hl he ok_ne (by rw [← henv]; exact h)
            have h3 : Out.ok v th (S i).n = .ok (V i) t2 n2 := h3
            injection h3 with h3 _ _
            subst h3
            exact wp_value hd h5 (quiet_fin hh h2 h4)
        cases ha : asked ops (Region.before ops) i with
        | true => exact fin hgp (.inl (asked_read X D Z I R hs0 hch ha hw ho))
        | false =>
          have hs := sync_read D I R (hcls.2 h0) ha hh
          exact fin (un_self fun b o hb => gi_get X hG hs (Nat.le_of_lt hi) I.ht hb) (.inr ⟨_, _, h1⟩)
    · have hpi : p ≤ i := by
        rcases I.hp with h4 | ⟨h, h4, h5⟩
        · omega
        · have h6 : h < ops.size := by have := I.pz; omega
          have h7 : Dn h := (I.hpd h h6 h4).2 (by omega)
          rcases Nat.lt_or_ge h i with h8 | h8
          · omega
          · have : h ≠ i := fun e => by subst e; unfold hvA at h4; rw [hh] at h4; cases h4
            exact absurd (cl_pre I.cl h7 (D.ord h i h6 hi h4 (.inr h3) (by omega))) R.nd
      obtain ⟨v, ob, h4⟩ := o_alloc h2 ok_ne h1
      injection h4 with _ h4 h5
      have hA : AS ops S i ob := ⟨h3, h4.symm, h5.symm⟩
      obtain ⟨h6, h7⟩ := gi_alloc X hG hi hpi hA R.nd I.ht hK
      obtain ⟨v', ob', h8, Vv, w', ι', h9, h10, h11, h12, h13⟩ := dAlloc (ι := ι) (w := w) (ac := ac) (g := g) hc h2 hR h6 hl he ok_ne (by rw [← henv]; exact h1)
      have h8 : Out.ok v' ((S i).t.set ob' (S i).n) ((S i).n + 1) = .ok (V i) (S (i + 1)).t (S (i + 1)).n := h8
      injection h8 with h8 h14 _
      subst h8
      have hob : ob' = ob := by
        have : ((S i).t.set ob' (S i).n).get (S i).n = ((S i).t.set ob (S i).n).get (S i).n := by rw [h14, hA.2.1]
        rw [T.get_set, T.get_set] at this; injection this
      subst hob
      refine wp_value hd h9 (hn ι' p w' Vv (di_next D I R hN h12.toExtC h13 h10 I.pz I.hp (hpd_quiet I hh) I.ht ?_ h11 h7))
      intro b hb; rw [h12.yl]; exact I.yt b hb
    · have hs := sync_heavy D I R hh
      have hti := X.q_ht I.ht hs.le (Nat.le_of_lt hi) hs.no
      have hni := X.n_mono hs.le (Nat.le_of_lt hi)
      have hun := side_un X hK hG hs hi hh I.ht
      refine op_ok (KK := side S i g) (n := (S i).n) (th := (S i).t) hc X.ym X.im hyo hih (by rw [hun]; exact hR) hti (I.yt.mono hni) hl he ok_ne (by rw [← henv]; exact h1) (fun v t' n' h3 => ?_) (fun v t' n' ι' w' Vv h3 h4 h5 h6 => ?_)
      · have h3 : Out.ok v t' n' = .ok (V i) (S (i + 1)).t (S (i + 1)).n := h3
        injection h3 with _ _ h3
        subst h3; exact side_kt
      · have h3 : Out.ok v t' n' = .ok (V i) (S (i + 1)).t (S (i + 1)).n := h3
        injection h3 with h3 h7 h8
        subst h3; subst h7; subst h8
        exact hn ι' (i + 1) w' Vv (di_next D I R hN h5.ext h5.frm h4 hi (.inr ⟨i, hh, rfl⟩) (hpd_heavy D I R hh) h5.ht h5.yt h5.rel (gi_heavy X hK hG hs hi hh I.ht))
end
end Ev
/- A drawn region, whole. -/
namespace Ev
open Go
variable {P : Program} {tk : Tok} {L : List Nat} {ops : Array Oper} {y : Yh} {ih : Ih} {S : Nat → St} {V : Nat → AV} {ι ι0 : Rn} {w w0 : World} {ac ac0 : Act} {K0 KK : G} {N m p i n : Nat} {ro : Option Nat} {g : G} {Dn : Nat → Prop} {Q : Exit → Act → World → Prop} {r : Out} {e : T AV} {t : H}
theorem cnt_lt (f g : Nat → Bool) : ∀ (l : List Nat), (∀ h ∈ l, f h = true → g h = true) → (∃ x ∈ l, g x = true ∧ f x = false) → (l.filter f).length < (l.filter g).length
  | [], _, h => by obtain ⟨x, hx, _⟩ := h; cases hx
  | a :: l, h, hx => by
    obtain ⟨x, hx, h1, h2⟩ := hx
    rw [List.filter_cons, List.filter_cons]
    have ih1 := cnt_le f g l (fun x hx => h x (.tail _ hx))
    rcases List.mem_cons.1 hx with rfl | hx
    · rw [if_pos h1, if_neg (by simp [h2])]; simp only [List.length_cons]; omega
    · have ih2 := cnt_lt f g l (fun x hx => h x (.tail _ hx)) ⟨x, hx, h1, h2⟩
      cases hf : f a with
      | true => rw [if_pos rfl, if_pos (h a (.head _) hf)]; simp only [List.length_cons]; omega
      | false =>
        rw [if_neg (by simp)]
        split
        · simp only [List.length_cons]; omega
        · exact ih2
def Ld (listed : Array Bool) : Nat → Prop := fun j => listed.getD j false = true
def unl (ops : Array Oper) (listed : Array Bool) : Nat := ((List.range ops.size).filter fun j => !listed.getD j false).length
theorem ld_set {listed : Array Bool} (hi : i < listed.size) : Ld (listed.setIfInBounds i true) = fun j => Ld listed j ∨ j = i := by
  funext j
  refine propext ⟨fun h => ?_, fun h => ?_⟩
  · by_cases hij : i = j
    · exact .inr hij.symm
    · unfold Ld at h; rw [getD_set_ne false hij] at h; exact .inl h
  · rcases h with h | h
    · exact getD_set_true h
    · subst h; simp [Ld, hi]
theorem getD_tf {listed : Array Bool} {j : Nat} (hj : j < listed.size) : listed.getD j true = listed.getD j false := by simp [Array.getD_eq_getD_getElem?, hj]
theorem all_ld {listed : Array Bool} (hs : listed.size = ops.size) (hd : ∀ i, i < ops.size → ∀ e ∈ (ops.getD i default).after, Region.binds .any e = true → e.on < i) (h : Region.ready .any ops listed = []) : ∀ j, j < ops.size → Ld listed j := by
  intro j
  induction j using Nat.strongRecOn with
  | _ j ihj =>
    intro hj
    cases hl : listed.getD j false with
    | true => exact hl
    | false =>
      have : j ∈ Region.ready .any ops listed := mem_ready.2 ⟨by rw [getD_tf (by omega)]; exact hl, ops.getD j default, some_getD hj, fun e he hb => ihj e.on (hd j hj e he hb) (by have := hd j hj e he hb; omega)⟩
      rw [h] at this; cases this
theorem ld_ready {listed : Array Bool} (hs : listed.size = ops.size) (h : ∀ j, j < ops.size → Ld listed j) : Region.ready .any ops listed = [] := by
  apply List.eq_nil_iff_forall_not_mem.2
  intro j hj
  obtain ⟨h1, o, h2, _⟩ := mem_ready.1 hj
  have hlt := (Array.getElem?_eq_some_iff.1 h2).1
  have := h j hlt
  unfold Ld at this
  rw [getD_tf (by omega), this] at h1; cases h1
section
variable (X : Tr P L ops y ih S V) (D : Dr P L ops) (Z : S0 L S)
include X D Z
theorem any_ok (hyo : YOK P tk y ι0 w0) (hih : IhOK P tk ih) (hK : KT K0 (S ops.size).n) (hs0 : (S 0).hs = [(S 0).t]) (hch : ∀ lo c o d, (lo, c, o, d) ∈ drawChk P L ops (Region.before ops) → (∀ s b, o.guard = some (s, b) → ∀ g, lk (S ops.size).l (S ops.size).e s = some g → gV g b = true) →
      ∃ v, lk (S ops.size).l (S ops.size).e d = some v ∧ ∀ j, lo ≤ j → j < lo + c → ∃ t, lnthH (S ops.size).hs.reverse j = some t ∧ ∃ t2 n2, denOp noY noIh o.op (S ops.size).l (S ops.size).e t 0 okK = .ok v t2 n2)
    (hN : ∀ i d, i < ops.size → dstA ops i = some d → d < N)
    (hQ : ∀ ι p ac w, DI ops S V ι0 w0 ac0 K0 N (fun j => j < ops.size) ι p ac w → Q .normal ac w) : ∀ (fuel : Nat) (listed : Array Bool) (ι : Rn) (p : Nat) (ac : Act) (w : World), listed.size = ops.size → DI ops S V ι0 w0 ac0 K0 N (Ld listed) ι p ac w → unl ops listed ≤ fuel →
      wpAnyIn (Fr ro) m P .any ops Q fuel listed ac w := by
  have fin : ∀ (listed : Array Bool) (ι : Rn) (p : Nat) (ac : Act) (w : World), listed.size = ops.size → DI ops S V ι0 w0 ac0 K0 N (Ld listed) ι p ac w → (∀ j, j < ops.size → Ld listed j) → Q .normal ac w := by
    intro listed ι p ac w hs I h
    refine hQ ι p ac w ?_
    have : Ld listed = fun j => j < ops.size := by
      funext j
      exact propext ⟨fun hj => (I.cl j hj).1, h j⟩
    rw [← this]; exact I
  intro fuel
  induction fuel with
  | zero =>
    intro listed ι p ac w hs I hu
    have hall : ∀ j, j < ops.size → Ld listed j := fun j hj => by
      unfold unl at hu
      have h0 : (List.range ops.size).filter (fun j => !listed.getD j false) = [] := List.eq_nil_of_length_eq_zero (by omega)
      have := (List.filter_eq_nil_iff.1 h0) j (List.mem_range.2 hj)
      unfold Ld
      cases hl : listed.getD j false with
      | true => rfl
      | false => rw [hl] at this; simp at this
    exact ⟨ld_ready hs hall, fin listed ι p ac w hs I hall⟩
  | succ fuel ihf =>
    intro listed ι p ac w hs I hu
    refine ⟨fun h => fin listed ι p ac w hs I (all_ld hs D.down h), fun i hi => ?_⟩
    obtain ⟨h1, o, h2, h3⟩ := mem_ready.1 hi
    have hlt := (Array.getElem?_eq_some_iff.1 h2).1
    have hnl : listed.getD i false = false := by rw [← getD_tf (by omega)]; exact h1
    have R : Rd ops (Ld listed) i := ⟨hlt, fun h => (by unfold Ld at h; rw [hnl] at h; cases h), fun e he hb => h3 e (by rw [getD_some h2] at he; exact he) hb⟩
    have key := draw_step (ro := ro) (m := m) (Q := Q) X D Z I R (hyo.mono I.ext I.frm) hih hK hs0 hch (fun d hd => hN i d hlt hd) (next := wpAnyIn (Fr ro) m P .any ops Q fuel (listed.setIfInBounds i true)) (fun ι' p' w' Vv I' => by
      refine ihf _ ι' p' _ w' (by simp [hs]) (by rw [ld_set (by omega)]; exact I') ?_
      have : unl ops (listed.setIfInBounds i true) < unl ops listed := by
        refine cnt_lt _ _ _ (fun j _ hj => ?_) ⟨i, List.mem_range.2 hlt, by simp only [hnl]; rfl, ?_⟩
        · cases hl : listed.getD j false with
          | false => rfl
          | true => rw [getD_set_true hl] at hj; cases hj
        · have : Ld (listed.setIfInBounds i true) i := by rw [ld_set (by omega)]; exact .inr rfl
          unfold Ld at this; rw [this]; rfl
      omega)
    rw [getD_some h2] at key
    unfold wpOpIn
    rw [h2]
    unfold wpG at key
    simp only
    split
    · rename_i hw; rw [if_pos hw] at key; exact key
    · rename_i hw; rw [if_neg hw] at key; exact ⟨fun f _ => fr_fn ro f, key⟩
omit D in
/-- what the region leaves -/
theorem di_end (I : DI ops S V ι0 w0 ac0 K0 N (fun j => j < ops.size) ι p ac w) :
    Rel ι (un (S ops.size).t K0) w ∧ HT (S ops.size).t (S ops.size).n ∧ YT ι (S ops.size).n ∧ RI L N ι (S ops.size).l (S ops.size).e ac.tmps := by
  obtain ⟨g, hR, hG⟩ := I.rel
  have hs : Sy ops S (fun j => j < ops.size) p ops.size := ⟨I.pz, fun j h1 h2 => by
    cases hh : hvA ops j with
    | false => rfl
    | true => have := (I.hpd j h2 hh).1 h2; omega, fun a ob h1 _ => h1⟩
  have hgu : g = un (S ops.size).t K0 := by
    funext b
    unfold un
    cases hb : (S ops.size).t.get b with
    | some o => exact gi_get X hG hs (Nat.le_refl _) I.ht hb
    | none =>
      refine ((hG b).2 ?_).2 fun a ob h1 h2 _ h4 h5 => ?_
      · cases hb' : (S p).t.get b with
        | none => rfl
        | some o => rw [X.q_get2 I.ht hb' I.pz (Nat.le_refl _) hs.no] at hb; cases hb
      · rw [← h5, X.q_get3 I.ht h1 h4 h2 (Nat.le_refl _) hs.no] at hb; cases hb
  have hlk : ∀ s v, lk (S ops.size).l (S ops.size).e s = some v → ∃ x, toV ι v = some x ∧ ac.tmps[s]? = some x := fun s v h => by
    rcases X.tv Z.e Z.l (Nat.le_refl _) h with ⟨j, h1, h2, rfl⟩ | ⟨h1, h2⟩
    · exact I.sl1 j s h1 h2
    · exact I.sl2 s v (fun j hj => h1 j hj) h2
  obtain ⟨hel, hll⟩ := X.el Z.e Z.l ops.size (Nat.le_refl _)
  refine ⟨by rw [← hgu]; exact hR, X.q_ht I.ht I.pz (Nat.le_refl _) hs.no, I.yt.mono (X.n_mono I.pz (Nat.le_refl _)), fun s v h => hlk s v (by simp [lk, h]), fun s v h => hlk s v ?_, hel, hll, I.sz⟩
  have : (S ops.size).l.get s = none := hll s fun hL => by rw [hel s hL] at h; cases h
  simp [lk, this, h]
end
/-- a region that draws its order -/
theorem drawn_ok {chk : List (Nat × Nat × IOper × Nat)} {k : KD} (hc : cDraw P L ops = some chk) (hYM : YM y) (hI : IM ih) (hyo : YOK P tk y ι w) (hih : IhOK P tk ih) (hR : Rel ι (un t KK) w) (hH : HT t n) (hY : YT ι n)
    (hi : RI L N ι .leaf e ac.tmps) (hd : ∀ o ∈ ops, ∀ d, o.dst = some d → d < N) (hr : NE r) (h : cDrawn (ops.toList.map (cOper P L ops)) chk y ih e t n k = r) (hk : ∀ e' t' n', k e' t' n' = r → KT KK n')
    (hQ : ∀ l' e' t' n' ι' ac' w', k e' t' n' = r → n ≤ n' → PC KK ι w t' n' ι' w' → RI L N ι' l' e' ac'.tmps → ac'.defers = ac.defers → Q .normal ac' w') :
    wpAnyIn (Fr ro) m P .any ops Q ops.size (Array.replicate ops.size false) ac { w with drawn := w.drawn + 1 } := by
  unfold cDraw at hc
  split at hc
  · rename_i hok
    injection hc with hc
    have D := dr_of hok
    obtain ⟨S, V, h0, h1, h2⟩ := trace_ex _ ⟨.leaf, e, t, n, [t]⟩ _ hr h
    obtain ⟨h3, h4⟩ := denChk_inv hr h2
    have hlen : (ops.toList.map (cOper P L ops)).length = ops.size := by simp
    rw [hlen] at h3 h4
    have X : Tr P L ops y ih S V := ⟨fun j hj => h1 j _ (by rw [List.getElem?_map, Array.getElem?_toList, some_getD hj]; rfl), hYM, hI⟩
    have Z : S0 L S := ⟨fun d hd => by rw [h0]; exact hi.el d hd, fun d _ => by rw [h0]; exact T.get_leaf d⟩
    have hN : ∀ i d, i < ops.size → dstA ops i = some d → d < N := fun i d h1 h2 => hd (ops.getD i default) (Array.mem_of_getElem? (some_getD h1)) d h2
    refine any_ok (ι0 := ι) (w0 := w.drew) (ac0 := ac) (K0 := KK) (N := N) X D Z (hyo.mono (.refl _ _) Frm.drew) hih (hk _ _ _ h3) (by rw [h0]) (by rw [hc]; exact h4) hN (fun ι' p ac' w' I => ?_) ops.size _ ι 0 ac _ (by simp) ?_ ?_
    · obtain ⟨g1, g2, g3, g4⟩ := di_end X Z I
      have hn0 : n ≤ (S ops.size).n := by
        have := X.n_mono (i := 0) (j := ops.size) (Nat.zero_le _) (Nat.le_refl _)
        rw [h0] at this; exact this
      exact hQ _ _ _ _ ι' ac' w' h3 hn0 ⟨g1, I.ext, I.frm.of_drew, g2, g3⟩ g4 I.df
    · have hnl : ∀ j, ¬ Ld (Array.replicate ops.size false) j := fun j h => by
        unfold Ld at h
        rw [Array.getD_eq_getD_getElem?, Array.getElem?_replicate] at h
        split at h <;> simp at h
      refine ⟨fun j hj => absurd hj (hnl j), .refl _ _, .refl _ _, fun j s hj => absurd hj (hnl j), fun s v _ hv => ?_, hi.sz, rfl, Nat.zero_le _, .inl rfl, fun h _ _ => ⟨fun hj => absurd hj (hnl h), fun hj => by omega⟩, by rw [h0]; exact hH, by rw [h0]; exact hY, un t KK, hR.drew, ?_⟩
      · rw [h0] at hv
        have hv : lk .leaf e s = some v := hv
        unfold lk at hv
        rw [T.get_leaf] at hv
        exact hi.te s v hv
      · intro b
        rw [h0]
        refine ⟨fun o ho => un_get ho, fun hb => ⟨fun a ob _ _ hj => absurd hj (hnl a), fun _ => ?_⟩⟩
        have hb : t.get b = none := hb
        simp [un, hb]
    · unfold unl
      have : ((List.range ops.size).filter fun j => !(Array.replicate ops.size false).getD j false).length ≤ (List.range ops.size).length := List.length_filter_le _ _
      simpa using this
  · cases hc
end Ev
/- Code: what is kept, scopes. -/
namespace Ev
open Go
variable {P : Program} {tk : Tok} {L : List Nat} {y : Yh} {ih : Ih} {ι ι' : Rn} {w w' : World} {ac : Act} {KK : G} {N M m n : Nat} {ro : Option Nat} {g : G} {Q : Exit → Act → World → Prop} {r : Out} {e : T AV} {t : H}
/-- a block of the world that nothing abstract stands for -/
structure Un (ι : Rn) (r : Nat) : Prop where
  blk : ∀ b e x, ι.blk b e = some x → x.1 ≠ r
  mp : ∀ b q, ι.mp b = some q → q ≠ r
theorem Un.mono {r : Nat} (h : Un ι r) (he : ExtC w.heap.size ι ι') (hr : r < w.heap.size) : Un ι' r :=
  ⟨fun b e x hx => by
    rcases he.nblk b e x hx with ⟨b0, e0, x0, h1, h2⟩ | h1
    · rw [← h2]; exact h.blk b0 e0 x0 h1
    · omega, fun b q hq => by
    rcases he.nmp b q hq with h1 | h1
    · exact h.mp b q h1
    · omega⟩
theorem Un.new (hR : Rel ι g w) {r : Nat} (hr : w.heap.size ≤ r) : Un ι r :=
  ⟨fun b e x hx => by have := blk_lt hR hx; omega, fun b q hq => by have := mp_lt hR hq; omega⟩
theorem Frm.at {r : Nat} {ob : Obj} (h : Frm ι w w') (hu : Un ι r) (ho : w.heap[r]? = some ob) : w'.heap[r]? = some ob := by
  rw [h.block r (Array.getElem?_eq_some_iff.1 ho).1 hu.blk hu.mp]; exact ho
/-- such a block may change -/
theorem Rel.setO {r : Nat} {ob : Obj} (hR : Rel ι g w) (hu : Un ι r) : Rel ι g { w with heap := w.heap.setIfInBounds r ob } := by
  have oth : ∀ r', r' ≠ r → (w.heap.setIfInBounds r ob)[r']? = w.heap[r']? := fun r' h => Array.getElem?_setIfInBounds_ne (fun e => h e.symm)
  refine ⟨fun b o hb => ?_, hR.non, hR.inj, hR.injm⟩
  have h := hR.obj b o hb
  cases o with
  | row sz c n ep =>
    obtain ⟨g1, g2, g3, g4⟩ := h
    refine ⟨g1, g2, g3, fun e he => ?_⟩
    obtain ⟨rb, cap, cs0, k1, ⟨ty, fz, q1, q2⟩, k3, k4⟩ := g4 e he
    exact ⟨rb, cap, cs0, k1, ⟨ty, fz, by rw [oth rb (hu.blk _ _ _ k1)]; exact q1, q2⟩, k3, k4⟩
  | mp es0 =>
    obtain ⟨g1, r2, ents2, clock2, g2, g3, g4⟩ := h
    exact ⟨g1, r2, ents2, clock2, g2, by show (w.heap.setIfInBounds r ob)[r2]? = _; rw [oth r2 (hu.mp _ _ g2)]; exact g3, g4⟩
theorem Rel.push {ob : Obj} (hR : Rel ι g w) : Rel ι g (w.alloc ob) :=
  ⟨fun b o hb => objOk_push (.refl ι) (fun _ => rfl) rfl (hR.obj b o hb), hR.non, hR.inj, hR.injm⟩
/-! ### the marks among the deferred calls -/
def mark (r : Nat) : Deferred := { target := .collected r, args := #[] }
def Mk (M : Nat) (ι : Rn) (w : World) (ds : List Deferred) : Prop := ∃ rs : List Nat, ds = rs.map mark ∧ rs.Nodup ∧ ∀ r ∈ rs, M ≤ r ∧ w.heap[r]? = some (.deferred (some [])) ∧ Un ι r
theorem Mk.nil : Mk M ι w [] := ⟨[], rfl, .nil, fun r h => by cases h⟩
theorem Mk.mono {ds : List Deferred} (h : Mk M ι w ds) (he : ExtC w.heap.size ι ι') (hf : Frm ι w w') : Mk M ι' w' ds := by
  obtain ⟨rs, h1, h2, h3⟩ := h
  refine ⟨rs, h1, h2, fun r hr => ?_⟩
  obtain ⟨h4, h5, h6⟩ := h3 r hr
  exact ⟨h4, hf.at h6 h5, h6.mono he (Array.getElem?_eq_some_iff.1 h5).1⟩
/-- what holds between pieces of code -/
structure Iv (L : List Nat) (N M : Nat) (ι : Rn) (e : T AV) (ac : Act) (w : World) : Prop where
  tr : TR ι e ac.tmps
  el : ∀ d ∈ L, e.get d = none
  sz : ac.tmps.size = N
  mks : Mk M ι w ac.defers
  hm : M ≤ w.heap.size
theorem Iv.ri (h : Iv L N M ι e ac w) : RI L N ι .leaf e ac.tmps := ⟨TR.leaf _ _, h.tr, h.el, fun d _ => T.get_leaf d, h.sz⟩
theorem RI.inv {l : T AV} {ac' : Act} (h : RI L N ι' l e ac'.tmps) (h0 : ac'.defers = ac.defers) (hk : Mk M ι w ac.defers) (hm : M ≤ w.heap.size) (he : ExtC w.heap.size ι ι') (hf : Frm ι w w') : Iv L N M ι' e ac' w' :=
  ⟨h.te, h.el, h.sz, by rw [h0]; exact hk.mono he hf, Nat.le_trans hm hf.size⟩
/-- how a piece of code is left -/
def Lv (r : Out) (x : Exit) (e : T AV) (t : H) (n : Nat) : Prop := (∃ i, r = .exit i e t n ∧ x = .exit i) ∨ (∃ i, r = .goto i e t n ∧ x = .goto i) ∨ (r = .ret e t n ∧ x = .ret)
/-- a piece of code does what its meaning says -/
def CodeOK (P : Program) (tk : Tok) (L : List Nat) (N : Nat) (nb : Bool) (c : Code) (d : DC) : Prop := ∀ (ro : Option Nat) (m M : Nat) (y : Yh) (ih : Ih) (e : T AV) (t : H) (n : Nat) (k : KD) (r : Out) (KK : G) (ι : Rn) (w : World) (ac : Act) (Q : Exit → Act → World → Prop),
  (ro = none ∨ nb = true) → YM y → IM ih → IhOK P tk ih → YOK P tk y ι w → NE r → d y ih e t n k = r → (∀ e t n, k e t n = r → n ≤ top r) → KT KK (top r) → Rel ι (un t KK) w → HT t n → YT ι n → Iv L N M ι e ac w →
  (∀ e' t' n' ι' ac' w', k e' t' n' = r → PC KK ι w t' n' ι' w' → Iv L N M ι' e' ac' w' → Q .normal ac' w') →
  (∀ x e' t' n' ι' ac' w', Lv r x e' t' n' → PC KK ι w t' n' ι' w' → Iv L N M ι' e' ac' w' → Q x ac' w') → c.wpIn (Fr ro) m P Q ac w
/-! ### scopes -/
theorem stepR_scope {b : Frame} {a : Act} {k : List Item} {cs : List Frame} {c : Code} : step P (lone (b.atR a (.code (.scope c) :: k)) cs w) = .next (lone (b.atR a (.code c :: .inScope c :: k)) cs w) :=
  step_lone_go (by simp [stepG, stepG.exec, Frame.atR])
theorem stepR_inScope {b : Frame} {a : Act} {k : List Item} {cs : List Frame} {c : Code} : step P (lone (b.atR a (.inScope c :: k)) cs w) = .next (lone (b.atR a k) cs w) :=
  step_lone_go (by simp [stepG, stepG.exec, Frame.atR])
def jump (c : Code) (J : Code → Act → World → Prop) (Q : Exit → Act → World → Prop) : Exit → Act → World → Prop
  | .goto l, a, w => match findLabel c l with
    | some rest => J rest a w
    | none => Q (.goto l) a w
  | x, a, w => Q x a w
def scopeIn (F : Fence) (m : Nat) (P : Program) (c : Code) (Q : Exit → Act → World → Prop) : Nat → Code → Act → World → Prop
  | 0, _, _, _ => False
  | f + 1, d, a, w => d.wpIn F m P (jump c (scopeIn F m P c Q f) Q) a w
theorem wpIn_scope_n {F : Fence} {c : Code} (f : Nat) (h : scopeIn F m P c Q f c ac w) : (Code.scope c).wpIn F m P Q ac w := by
  intro b k cs hro hb hr
  have key : ∀ f (d : Code) a w, scopeIn F m P c Q f d a w →
      ∃ e a' w', Q e a' w' ∧ ArrivesIn (Machine.fenced P F) P (lone (b.atR a (.code d :: .inScope c :: k)) cs w) b k cs e a' w' := by
    intro f
    induction f with
    | zero => intro d a w h; exact h.elim
    | succ f ih =>
      intro d a w h
      obtain ⟨e, a₁, w₁, hq, harr⟩ := h b (.inScope c :: k) cs hro hb hr
      cases e with
      | normal => exact ⟨.normal, a₁, w₁, hq, StepsIn.trans harr (.one (fenced_calm hb hr rfl) stepR_inScope)⟩
      | exit id =>
        have hx : exitTo id (.inScope c :: k) = exitTo id k := by simp [exitTo]
        exact ⟨.exit id, a₁, w₁, hq, fun k' hk => harr.1 k' (by rw [hx]; exact hk), fun hr' hk => harr.2 hr' (by rw [hx]; exact hk)⟩
      | goto l =>
        cases hf : findLabel c l with
        | some rest =>
          simp only [jump, hf] at hq
          obtain ⟨e₂, a₂, w₂, hq₂, harr₂⟩ := ih rest a₁ w₁ hq
          exact ⟨e₂, a₂, w₂, hq₂, .of_steps (harr.1 _ (by simp [gotoIn, hf])) harr₂⟩
        | none =>
          simp only [jump, hf] at hq
          have hx : gotoIn l (.inScope c :: k) = gotoIn l k := by simp [gotoIn, hf]
          exact ⟨.goto l, a₁, w₁, hq, fun k' hk => harr.1 k' (by rw [hx]; exact hk), fun hr' hk => harr.2 hr' (by rw [hx]; exact hk)⟩
      | ret => exact ⟨_, a₁, w₁, hq, harr⟩
      | panic ch => exact ⟨_, a₁, w₁, hq, harr⟩
      | outgrown => exact ⟨_, a₁, w₁, hq, harr⟩
  obtain ⟨e, a', w', hq, harr⟩ := key f c ac w h
  exact ⟨e, a', w', hq, .of_steps (.one (fenced_calm hb hr rfl) stepR_scope) harr⟩
end Ev
/- Code: its pieces. -/
namespace Ev
open Go
variable {P : Program} {tk : Tok} {L : List Nat} {N : Nat} {nb nb' : Bool} {c c' : Code} {d d' : DC}
theorem ok_skip : CodeOK P tk L N nb .skip cSkip := fun _ _ _ _ _ _ _ _ _ _ _ _ _ _ _ _ _ _ _ _ _ h _ _ hR hH hY hi hQ _ => wpIn_skip (hQ _ _ _ _ _ _ h (.refl hR hH hY) hi)
theorem ok_label {l : Nat} : CodeOK P tk L N nb (.label l) cSkip := fun _ _ _ _ _ _ _ _ _ _ _ _ _ _ _ _ _ _ _ _ _ h _ _ hR hH hY hi hQ _ => wpIn_label (hQ _ _ _ _ _ _ h (.refl hR hH hY) hi)
theorem ok_exit {i : Nat} : CodeOK P tk L N nb (.exit i) (cExit i) := fun _ _ _ _ _ _ _ _ _ _ _ _ _ _ _ _ _ _ _ _ _ h _ _ hR hH hY hi _ hL => wpIn_exit (hL _ _ _ _ _ _ _ (.inl ⟨_, h.symm, rfl⟩) (.refl hR hH hY) hi)
theorem ok_goto {i : Nat} : CodeOK P tk L N nb (.goto i) (cGoto i) := fun _ _ _ _ _ _ _ _ _ _ _ _ _ _ _ _ _ _ _ _ _ h _ _ hR hH hY hi _ hL => wpIn_goto (hL _ _ _ _ _ _ _ (.inr (.inl ⟨_, h.symm, rfl⟩)) (.refl hR hH hY) hi)
theorem ok_ret : CodeOK P tk L N nb .ret cRet := fun _ _ _ _ _ _ _ _ _ _ _ _ _ _ _ _ _ _ _ _ _ h _ _ hR hH hY hi _ hL => wpIn_ret (hL _ _ _ _ _ _ _ (.inr (.inr ⟨h.symm, rfl⟩)) (.refl hR hH hY) hi)
theorem ok_bad {q : Nat} : CodeOK P tk L N nb c (cBad q) := fun _ _ _ _ _ _ _ _ _ _ _ _ _ _ _ _ _ _ _ _ hr h _ _ _ _ _ _ _ _ => absurd h.symm (hr _)
theorem ok_ops {id : Nat} {ops : Array Oper} (hd : ∀ o ∈ ops, ∀ d, o.dst = some d → d < N) : CodeOK P tk L N nb (.region id ops false) (cOps (ops.toList.map (cOper P L ops))) := by
  intro ro m M y ih e t n k r KK ι w ac Q _ hYM hI hih hyo hr h hk hK hR hH hY hi hQ _
  refine wpIn_region ?_
  have := opsIn_ok (ro := ro) (m := m) (Q := Q) (KK := KK) (L := L) (N := N) (r := r) ops.toList 0 .leaf e t n ι ac w k rfl hYM hI hyo hih hR hH hY hi.ri (fun o ho => hd o (by simpa using ho)) hr h (fun e' t' n' h1 => hK.mono (hk _ _ _ h1))
    (fun l' e' t' n' ι' ac' w' h1 _ h2 h3 h4 => hQ _ _ _ _ _ _ h1 h2 (h3.inv h4 hi.mks hi.hm h2.ext h2.frm))
  rw [List.range_eq_range']
  simpa using this
theorem ok_draw {id : Nat} {ops : Array Oper} {chk : List (Nat × Nat × IOper × Nat)} (hm : P.follows .mixedOrders = true) (hc : cDraw P L ops = some chk) (hd : ∀ o ∈ ops, ∀ d, o.dst = some d → d < N) : CodeOK P tk L N nb (.region id ops true) (cDrawn (ops.toList.map (cOper P L ops)) chk) := by
  intro ro m M y ih e t n k r KK ι w ac Q _ hYM hI hih hyo hr h hk hK hR hH hY hi hQ _
  exact wpIn_region_any hm (drawn_ok hc hYM hI hyo hih hR hH hY hi.ri hd hr h (fun e' t' n' h1 => hK.mono (hk _ _ _ h1))
    (fun l' e' t' n' ι' ac' w' h1 _ h2 h3 h4 => hQ _ _ _ _ _ _ h1 h2 (h3.inv h4 hi.mks hi.hm h2.ext h2.frm)))
theorem top_of {d : DC} (hd : DM d) {y : Yh} {ih : Ih} {e : T AV} {t : H} {n : Nat} {k : KD} {r : Out} (hYM : YM y) (hI : IM ih) (hr : NE r) (hk : ∀ e t n, k e t n = r → n ≤ top r) (h : d y ih e t n k = r) : n ≤ top r := by
  rcases hd _ _ _ _ _ _ _ hYM hI hr h with ⟨e', t', n', h1, h2⟩ | h1
  · exact Nat.le_trans h1 (hk _ _ _ h2)
  · exact h1.top
theorem ok_seq (hm : DM d') (h1 : CodeOK P tk L N nb c d) (h2 : CodeOK P tk L N nb' c' d') : CodeOK P tk L N (nb && nb') (.seq c c') (cSeq d d') := by
  intro ro m M y ih e t n k r KK ι w ac Q hb hYM hI hih hyo hr h hk hK hR hH hY hi hQ hL
  have hb1 : ro = none ∨ nb = true := hb.imp id fun h => by simp at h; exact h.1
  have hb2 : ro = none ∨ nb' = true := hb.imp id fun h => by simp at h; exact h.2
  refine wpIn_seq (h1 ro m M y ih e t n (fun e t n => d' y ih e t n k) r KK ι w ac _ hb1 hYM hI hih hyo hr h (fun e t n h3 => top_of hm hYM hI hr hk h3) hK hR hH hY hi ?_ ?_)
  · intro e' t' n' ι' ac' w' h3 h4 h5
    refine h2 ro m M y ih e' t' n' k r KK ι' w' ac' _ hb2 hYM hI hih (hyo.mono h4.ext h4.frm) hr h3 hk hK h4.rel h4.ht h4.yt h5 ?_ ?_
    · exact fun e2 t2 n2 ι2 ac2 w2 g1 g2 g3 => hQ _ _ _ _ _ _ g1 (h4.trans g2) g3
    · exact fun x e2 t2 n2 ι2 ac2 w2 g1 g2 g3 => hL _ _ _ _ _ _ _ g1 (h4.trans g2) g3
  · intro x e' t' n' ι' ac' w' h3 h4 h5
    have := hL x _ _ _ _ _ _ h3 h4 h5
    rcases h3 with ⟨i, _, rfl⟩ | ⟨i, _, rfl⟩ | ⟨_, rfl⟩ <;> exact this
theorem ok_if {X : Operand} {x : Opd} (hc : cOpd X = some x) (h1 : CodeOK P tk L N nb c d) (h2 : CodeOK P tk L N nb' c' d') : CodeOK P tk L N (nb && nb') (.cond X c c') (cIf x d d') := by
  intro ro m M y ih e t n k r KK ι w ac Q hb hYM hI hih hyo hr h hk hK hR hH hY hi hQ hL
  have hb1 : ro = none ∨ nb = true := hb.imp id fun h => by simp at h; exact h.1
  have hb2 : ro = none ∨ nb' = true := hb.imp id fun h => by simp at h; exact h.2
  obtain ⟨v, hv, h⟩ := fetch_inv hc (TR.leaf ι ac.tmps) hi.tr (show fetch .leaf e x _ = r from h) hr
  rcases bool_val h hr hv with ⟨hX, h⟩ | ⟨hX, h⟩
  · exact wpIn_cond_false hX (h2 ro m M y ih e t n k r KK ι w ac Q hb2 hYM hI hih hyo hr h hk hK hR hH hY hi hQ hL)
  · exact wpIn_cond_true hX (h1 ro m M y ih e t n k r KK ι w ac Q hb1 hYM hI hih hyo hr h hk hK hR hH hY hi hQ hL)
theorem nor_top {r : Out} : ∀ e t n, nor e t n = r → n ≤ top r := fun e t n h => by rw [← h]; exact Nat.le_refl _
theorem ok_block {id : Nat} (h1 : CodeOK P tk L N nb c d) : CodeOK P tk L N nb (.block id c) (cBlock id d) := by
  intro ro m M y ih e t n k r KK ι w ac Q hb hYM hI hih hyo hr h hk hK hR hH hY hi hQ hL
  have h : Out.rec (motive := fun _ => Out) (fun _ _ _ => .err 7) k (fun i e t n => bO (Nat.beq i id) (k e t n) (.exit i e t n)) (fun i e t n => .goto i e t n) (fun e t n => .ret e t n) (fun c => .err c) (d y ih e t n nor) = r := h
  generalize hx : d y ih e t n nor = x at h
  have hne : NE x := fun c hc => by subst hc; exact absurd h.symm (hr _)
  have htop : top x ≤ top r := by
    cases x with
    | ok _ _ _ => exact absurd h.symm (hr _)
    | err c => exact absurd rfl (hne c)
    | nor e1 t1 n1 => exact hk _ _ _ h
    | exit i e1 t1 n1 =>
      rcases bO_cases (show bO (Nat.beq i id) (k e1 t1 n1) (.exit i e1 t1 n1) = r from h) with ⟨_, h⟩ | ⟨_, h⟩
      · exact hk _ _ _ h
      · rw [← h]; exact Nat.le_refl _
    | goto i e1 t1 n1 => rw [← h]; exact Nat.le_refl _
    | ret e1 t1 n1 => rw [← h]; exact Nat.le_refl _
  refine wpIn_block (h1 ro m M y ih e t n nor x KK ι w ac _ hb hYM hI hih hyo hne hx nor_top (hK.mono htop) hR hH hY hi ?_ ?_)
  · intro e' t' n' ι' ac' w' h3 h4 h5
    subst h3
    exact hQ _ _ _ _ _ _ h h4 h5
  · intro q e' t' n' ι' ac' w' h3 h4 h5
    rcases h3 with ⟨i, rfl, rfl⟩ | ⟨i, rfl, rfl⟩ | ⟨rfl, rfl⟩
    · show (if i = id then Q .normal ac' w' else Q (.exit i) ac' w')
      rcases bO_cases (show bO (Nat.beq i id) (k e' t' n') (.exit i e' t' n') = r from h) with ⟨hq, h⟩ | ⟨hq, h⟩
      · rw [if_pos (beq_nat hq)]; exact hQ _ _ _ _ _ _ h h4 h5
      · rw [if_neg (beq_ff hq)]; exact hL _ _ _ _ _ _ _ (.inl ⟨i, h.symm, rfl⟩) h4 h5
    · exact hL _ _ _ _ _ _ _ (.inr (.inl ⟨i, h.symm, rfl⟩)) h4 h5
    · exact hL _ _ _ _ _ _ _ (.inr (.inr ⟨h.symm, rfl⟩)) h4 h5
theorem ok_loop (hm : DM d) (h1 : CodeOK P tk L N nb c d) : CodeOK P tk L N nb (.loop c) (cLoop d) := by
  intro ro m M y ih e t n k r KK ι w ac Q hb hYM hI hih hyo hr h _ hK hR hH hY hi _ hL
  have h : (Nat.rec (motive := fun _ => T AV → H → Nat → Out) (fun _ _ _ => .err 8) (fun _ rec e t n => d y ih e t n rec) fuelL : T AV → H → Nat → Out) e t n = r := h
  generalize fuelL = fu at h
  refine wpIn_loop_rounds fu ?_
  have key : ∀ (f : Nat) (e : T AV) (t : H) (n : Nat) (ι' : Rn) (w' : World) (ac' : Act), (Nat.rec (motive := fun _ => T AV → H → Nat → Out) (fun _ _ _ => .err 8) (fun _ rec e t n => d y ih e t n rec) f : T AV → H → Nat → Out) e t n = r →
      PC KK ι w t n ι' w' → Iv L N M ι' e ac' w' → Code.roundsIn (Fr ro) m P c Q f ac' w' := by
    intro f
    induction f with
    | zero => intro e t n ι' w' ac' h _ _; exact absurd h.symm (hr _)
    | succ f ihf =>
      intro e t n ι' w' ac' h hp hi
      rw [roundsIn_succ]
      refine h1 ro m M y ih e t n _ r KK ι' w' ac' _ hb hYM hI hih (hyo.mono hp.ext hp.frm) hr h (fun e t n h3 => (dm_loop_n hm hYM hI hr f e t n h3).top) hK hp.rel hp.ht hp.yt hi ?_ ?_
      · exact fun e2 t2 n2 ι2 ac2 w2 g1 g2 g3 => ihf _ _ _ _ _ _ g1 (hp.trans g2) g3
      · intro x e2 t2 n2 ι2 ac2 w2 g1 g2 g3
        have := hL x _ _ _ _ _ _ g1 (hp.trans g2) g3
        rcases g1 with ⟨i, _, rfl⟩ | ⟨i, _, rfl⟩ | ⟨_, rfl⟩ <;> exact this
  exact key fu e t n ι w ac h (.refl hR hH hY) hi
/-- what a scope's labels lead to -/
def LabOK (P : Program) (tk : Tok) (L : List Nat) (N : Nat) (c : Code) (l : Nat) : List (Nat × IC) → Prop
  | [] => findLabel c l = none
  | (l', r) :: ls => if l' = l then ∃ rest, findLabel c l = some rest ∧ CodeOK P tk L N (noBack r) rest (den r) else LabOK P tk L N c l ls
theorem ok_scope {l1 l2 : Nat} {r1 r2 : IC} (hm : DM d) (h0 : CodeOK P tk L N nb c d) (h1 : ∃ rest, findLabel c l1 = some rest ∧ CodeOK P tk L N (noBack r1) rest (den r1)) (h2 : ∃ rest, findLabel c l2 = some rest ∧ CodeOK P tk L N (noBack r2) rest (den r2))
    (h3 : ∀ l, l ≠ l1 → l ≠ l2 → findLabel c l = none) : CodeOK P tk L N (nb && (noBack r1 && noBack r2)) (.scope c) (cScope d l1 (den r1) l2 (den r2)) := by
  intro ro m M y ih e t n k r KK ι w ac Q hb hYM hI hih hyo hr h hk hK hR hH hY hi hQ hL
  have hb0 : ro = none ∨ nb = true := hb.imp id fun h => by simp at h; exact h.1
  have hb1 : ro = none ∨ noBack r1 = true := hb.imp id fun h => by simp at h; exact h.2.1
  have hb2 : ro = none ∨ noBack r2 = true := hb.imp id fun h => by simp at h; exact h.2.2
  obtain ⟨rest1, hf1, hk1⟩ := h1
  obtain ⟨rest2, hf2, hk2⟩ := h2
  have h : scGo y ih l1 (den r1) l2 (den r2) k fuelL (d y ih e t n nor) = r := h
  generalize fuelL = fu at h
  have err0 : ∀ (f : Nat) (q : Nat), scGo y ih l1 (den r1) l2 (den r2) k f (.err q) = r → False := fun f q hf => by cases f <;> exact absurd hf.symm (hr _)
  have key : ∀ (f : Nat) (nb : Bool) (c' : Code) (d : DC) (e : T AV) (t : H) (n : Nat) (ι' : Rn) (w' : World) (ac' : Act), (ro = none ∨ nb = true) → CodeOK P tk L N nb c' d → DM d → scGo y ih l1 (den r1) l2 (den r2) k f (d y ih e t n nor) = r →
      PC KK ι w t n ι' w' → Iv L N M ι' e ac' w' → scopeIn (Fr ro) m P c Q f c' ac' w' := by
    intro f
    induction f with
    | zero => intro nb c' d e t n ι' w' ac' _ _ _ h _ _; exact absurd h.symm (hr _)
    | succ f ihf =>
      intro nb c' d e t n ι' w' ac' hnb hc hm h hp hi
      generalize hx : d y ih e t n nor = x at h
      have hne : NE x := fun q hq => by subst hq; exact err0 _ _ h
      have htop : top x ≤ top r := by
        have := dm_scope_n (k := k) (dm r1) (dm r2) hYM hI hr (f + 1) x h
        rcases this with ⟨e', t', n', g1, g2⟩ | g1
        · exact Nat.le_trans g1 (hk _ _ _ g2)
        · exact g1.top
      refine hc ro m M y ih e t n nor x KK ι' w' ac' _ hnb hYM hI hih (hyo.mono hp.ext hp.frm) hne hx nor_top (hK.mono htop) hp.rel hp.ht hp.yt hi ?_ ?_
      · intro e2 t2 n2 ι2 ac2 w2 g1 g2 g3
        subst g1
        exact hQ _ _ _ _ _ _ h (hp.trans g2) g3
      · intro q e2 t2 n2 ι2 ac2 w2 g1 g2 g3
        rcases g1 with ⟨i, rfl, rfl⟩ | ⟨i, rfl, rfl⟩ | ⟨rfl, rfl⟩
        · exact hL _ _ _ _ _ _ _ (.inl ⟨i, h.symm, rfl⟩) (hp.trans g2) g3
        · rcases bO_cases (show bO (Nat.beq i l1) (scGo y ih l1 (den r1) l2 (den r2) k f (den r1 y ih e2 t2 n2 nor)) (bO (Nat.beq i l2) (scGo y ih l1 (den r1) l2 (den r2) k f (den r2 y ih e2 t2 n2 nor)) (.goto i e2 t2 n2)) = r from h) with ⟨hq, h⟩ | ⟨hq, h⟩
          · obtain rfl := beq_nat hq
            simp only [jump, hf1]
            exact ihf _ _ _ _ _ _ _ _ _ hb1 hk1 (dm r1) h (hp.trans g2) g3
          · rcases bO_cases h with ⟨hq2, h⟩ | ⟨hq2, h⟩
            · obtain rfl := beq_nat hq2
              simp only [jump, hf2]
              exact ihf _ _ _ _ _ _ _ _ _ hb2 hk2 (dm r2) h (hp.trans g2) g3
            · simp only [jump, h3 i (beq_ff hq) (beq_ff hq2)]
              exact hL _ _ _ _ _ _ _ (.inr (.inl ⟨i, h.symm, rfl⟩)) (hp.trans g2) g3
        · exact hL _ _ _ _ _ _ _ (.inr (.inr ⟨h.symm, rfl⟩)) (hp.trans g2) g3
  exact wpIn_scope_n fu (key fu nb c d e t n ι w ac hb0 h0 hm h (.refl hR hH hY) hi)
end Ev
/- Code: a range over a function. -/
namespace Ev
open Go
variable {P : Program} {tk : Tok} {L : List Nat} {N : Nat} {ι ι' : Rn} {w w' : World} {g : G}
theorem run_getLoop {l : Nat} {R : Loop} (h : w.heap[l]? = some (.loop R)) : (Instr.getLoop l).run P w = .ok R w := by
  simp [Instr.getLoop, getObj, Sem.run, h]
theorem run_setO {l : Nat} {R : Loop} {ob : Obj} (h : w.heap[l]? = some (.loop R)) : (setObj l ob).run P w = .ok () { w with heap := w.heap.setIfInBounds l ob } := by
  simp [setObj, Sem.run, h]
/-- a range begins under number n -/
def Rn.addY (ι : Rn) (n l : Nat) : Rn := ⟨ι.blk, ι.mp, fun b => if b = n then some l else ι.yl b, ι.tok⟩
theorem addY_le {n l : Nat} (h : ι.yl n = none) : ι.le (ι.addY n l) := ⟨fun _ _ _ h => h, fun _ _ h => h, fun b r hb => by
  show (if b = n then some l else ι.yl b) = some r
  rw [if_neg (fun e => by subst e; rw [h] at hb; cases hb)]; exact hb, fun _ _ h => h⟩
theorem ext_addY {n l M : Nat} (h : ι.yl n = none) : ExtC M ι (ι.addY n l) := ⟨addY_le h, fun b e x hx => .inl ⟨b, e, x, hx, rfl⟩, fun _ _ h => .inl h⟩
theorem Rel.addY {n l : Nat} (hR : Rel ι g w) (h : ι.yl n = none) : Rel (ι.addY n l) g w := by
  refine ⟨fun b o hb => ?_, hR.non, hR.inj, hR.injm⟩
  have h0 := hR.obj b o hb
  cases o with
  | row sz c n ep =>
    obtain ⟨g1, g2, g3, g4⟩ := h0
    refine ⟨g1, g2, g3, fun e he => ?_⟩
    obtain ⟨rb, cap, cs0, k1, k2, k3, k4⟩ := g4 e he
    exact ⟨rb, cap, cs0, k1, k2, k3, fun k tg v hk ht => let ⟨x, hx, hc, hi⟩ := k4 k tg v hk ht; ⟨x, toV_mono (addY_le h) _ _ hx, hc, hi⟩⟩
  | mp es0 =>
    obtain ⟨g1, r2, ents2, clock2, g2, g3, g4⟩ := h0
    exact ⟨g1, r2, ents2, clock2, g2, g3, MapOk.mono (addY_le h) _ _ g4⟩
theorem heap_push1 {ob : Obj} : (w.alloc ob).heap[w.heap.size]? = some ob := by show (w.heap.push ob)[w.heap.size]? = _; simp
theorem heap_push0 {ob o : Obj} {r : Nat} (h : w.heap[r]? = some o) : (w.alloc ob).heap[r]? = some o := by
  have hlt := (Array.getElem?_eq_some_iff.1 h).1
  show (w.heap.push ob)[r]? = _
  rw [Array.getElem?_push, if_neg (by omega)]; exact h
theorem alloc_size {ob : Obj} : (w.alloc ob).heap.size = w.heap.size + 1 := by show (w.heap.push ob).size = _; simp
theorem toT_two {a : AV} {xs : List Value} (h : toT ι a = some xs) {x z r : AV} (ha : a = .cons x (.cons z r)) (hr : llen r = 0) : ∃ X Z, toV ι x = some X ∧ toV ι z = some Z ∧ xs = [X, Z] := by
  subst ha
  simp only [toT, Option.bind_eq_some_iff, Option.map_eq_some_iff] at h
  obtain ⟨X, hX, r1, ⟨Z, hZ, r2, h2, rfl⟩, rfl⟩ := h
  have h3 := (toT_some h2).2.1
  have : r2 = [] := by
    have h4 := toT_length h2
    rw [hr] at h4
    exact List.eq_nil_of_length_eq_zero h4.symm
  subst this
  exact ⟨X, Z, hX, hZ, rfl⟩
theorem Frm.setO {l : Nat} {ob : Obj} (h : Frm ι w w') (hl : w.heap.size ≤ l) : Frm ι w { w' with heap := w'.heap.setIfInBounds l ob } :=
  ⟨h.os, h.tape, h.output, by simpa using h.size, fun rb hrb h1 h2 => by
    show (w'.heap.setIfInBounds l ob)[rb]? = _
    rw [Array.getElem?_setIfInBounds_ne (by omega)]; exact h.block rb hrb h1 h2⟩
/-- one round -/
theorem round_ok {ι0 : Rn} {w0 : World} {asg body : Code} {da db : DC} {i v l n : Nat} {e : T AV} {y : Yh} {ih : Ih} {ps : Array Tmp} {tmps : Array Value} {R : Loop} (hps : ps.toList = [i, v]) (hiL : i ∉ L) (hvL : v ∉ L) (hiN : i < N) (hvN : v < N)
    (ha : CodeOK P tk L N true asg da) (hb : CodeOK P tk L N true body db) (hma : DM da) (hmb : DM db) (hYM : YM y) (hI : IM ih) (hih : IhOK P tk ih) (hyo : YOK P tk y ι0 w0) (he0 : ExtC w0.heap.size ι0 ι) (hf0 : Frm ι0 w0 w) (hl0 : w0.heap.size ≤ l) (hu : Un ι l) (hl : w.heap[l]? = some (.loop R)) (hyl : ι.yl n = some l)
    (hR : R.state = .ready) (hRp : R.pending = none) (hRt : R.tmps = tmps) (hRps : R.params = ps) (hRa : R.assign = asg) (hRb : R.body = body) (htr : TR ι e tmps) (hel : ∀ d ∈ L, e.get d = none) (hsz : tmps.size = N) : YOK P tk (round y ih n i v da db e) ι w := by
  refine ⟨fun b x hb => he0.le.tok b x (hyo.1 b x hb), ?_⟩
  intro id a t2 n2 v2 t3 n3 h
  unfold round at h
  obtain ⟨h1, h3⟩ := bO_inv h ok_ne
  clear h
  obtain rfl := beq_nat h1
  obtain ⟨x, rr, hax, h4⟩ := lcons_inv h3 ok_ne
  obtain ⟨z, rr2, hrr, h5⟩ := lcons_inv h4 ok_ne
  obtain ⟨h2, h⟩ := bO_inv h5 ok_ne
  clear h3 h4 h5
  subst hrr
  rw [T.seq_eq] at h
  generalize hx : da y ih _ t2 n2 _ = q at h
  cases q with
  | nor e3 t4 n4 =>
    have h : Out.ok tt t4 n4 = .ok v2 t3 n3 := h
    injection h with h4 h5 h6
    subst h4; subst h5; subst h6
    refine ⟨l, hyl, fun K ι1 w1 args he1 hf1 hK hR1 hH1 hY1 harg => ?_⟩
    obtain ⟨X, Z, hX, hZ, hargs⟩ := toT_two harg hax (beq_nat h2)
    have hl1 := hf1.at hu hl
    have hu1 : Un ι1 l := hu.mono he1 (Array.getElem?_eq_some_iff.1 hl).1
    have hps' : ps = #[i, v] := by rw [← Array.toArray_toList (xs := ps), hps]
    have hargs' : args = #[X, Z] := by rw [← Array.toArray_toList (xs := args), hargs]
    refine ⟨R.fn, (tmps.setIfInBounds i X).setIfInBounds v Z, asg, body, ?_, ?_⟩
    · simp only [Instr.yield, Sem.run_bind, run_getLoop hl1, Result.andThen_ok, hRps, hRt, hRa, hRb]
      rw [hps', hargs']
      simp
    · refine roundIn_of_wpIn trivial ?_
      have he01 := he0.trans he1 hf0.size
      have hf01 := hf0.trans he0 hf1
      have hi1 : Iv L N 0 ι1 ((e.set x i).set z v) { tmps := (tmps.setIfInBounds i X).setIfInBounds v Z, defers := [] } w1 := by
        refine ⟨?_, fun d hd => ?_, by simp [hsz], .nil, Nat.zero_le _⟩
        · exact ((htr.mono he1.le).set hX (by omega)).set hZ (by simp; omega)
        · rw [T.get_set_ne _ _ _ _ (fun e => hvL (by rw [e]; exact hd)), T.get_set_ne _ _ _ _ (fun e => hiL (by rw [e]; exact hd))]
          exact hel d hd
      have hne : NE (Out.nor e3 t4 n4) := fun c h => by cases h
      refine ha (some l) 0 0 y ih _ t2 n2 _ (.nor e3 t4 n4) K ι1 w1 _ _ (.inr rfl) hYM hI hih (hyo.mono he01 hf01) hne hx (fun e t n h => top_of hmb hYM hI hne nor_top h) hK hR1 hH1 hY1 hi1 ?_ ?_
      · intro e5 t5 n5 ι5 ac5 w5 h5 hp5 hi5
        have hl5 := hp5.frm.at hu1 hl1
        have hlt1 := (Array.getElem?_eq_some_iff.1 hl1).1
        have hlt5 := (Array.getElem?_eq_some_iff.1 hl5).1
        have hu5 : Un ι5 l := hu1.mono hp5.ext hlt1
        have he05 := he01.trans hp5.ext hf01.size
        have hf05 := (hf01.trans he01 hp5.frm)
        generalize hw6 : ({ w5 with heap := w5.heap.setIfInBounds l (.loop { R with state := .busy }) } : World) = w6
        have hl6 : w6.heap[l]? = some (.loop { R with state := .busy }) := by rw [← hw6]; simp [hlt5]
        have hs6 : w6.heap.size = w5.heap.size := by rw [← hw6]; simp
        have ho6 : ∀ rb, rb ≠ l → w6.heap[rb]? = w5.heap[rb]? := fun rb h => by
          rw [← hw6]; exact Array.getElem?_setIfInBounds_ne (fun e => h e.symm)
        have hR6 : Rel ι5 (un t5 K) w6 := by rw [← hw6]; exact hp5.rel.setO hu5
        have hos6 : w6.os = w5.os ∧ w6.tape = w5.tape ∧ w6.output = w5.output := by rw [← hw6]; exact ⟨rfl, rfl, rfl⟩
        refine ⟨w6, ?_, ?_⟩
        · simp only [Instr.beginRound, Sem.run_bind, run_getLoop hl5, Result.andThen_ok, run_setO hl5, hR, ← hw6]
          rfl
        · have hi6 : Iv L N 0 ι5 e5 ac5 w6 := by
            refine ⟨hi5.tr, hi5.el, hi5.sz, ?_, Nat.zero_le _⟩
            obtain ⟨rs, k1, k2, k3⟩ := hi5.mks
            refine ⟨rs, k1, k2, fun r hr => ?_⟩
            obtain ⟨k4, k5, k6⟩ := k3 r hr
            refine ⟨k4, ?_, k6⟩
            rw [ho6 r (fun e => by subst e; rw [hl5] at k5; cases k5)]; exact k5
          refine hb (some l) 0 0 y ih e5 t5 n5 nor (.nor e3 t4 n4) K ι5 w6 ac5 _ (.inr rfl) hYM hI hih (hyo.mono he05 (by rw [← hw6]; exact hf05.setO hl0)) hne h5 nor_top hK hR6 hp5.ht hp5.yt hi6 ?_ ?_
          · intro e7 t7 n7 ι7 ac7 w7 h7 hp7 _
            have hl7 := hp7.frm.at hu5 hl6
            have hlt6 := (Array.getElem?_eq_some_iff.1 hl6).1
            have hlt7 := (Array.getElem?_eq_some_iff.1 hl7).1
            have hu7 : Un ι7 l := hu5.mono hp7.ext hlt6
            injection h7 with h8 h9 h10
            subst h9; subst h10
            have hRR : ({ R with state := .ready, pending := none } : Loop) = R := by
              cases R; simp at hR hRp; subst hR; subst hRp; rfl
            refine ⟨.bool true, { w7 with heap := w7.heap.setIfInBounds l (.loop R) }, ?_, .bool true, ι7, rfl, by simp [tt, toV, numV], ?_⟩
            · simp only [Instr.endRound, Sem.run_bind, run_getLoop hl7, Result.andThen_ok, Option.isNone_none, if_true, run_setO hl7, Sem.run_pure]
              rw [← hRR]
            · refine ⟨hp7.rel.setO hu7, hp5.ext.trans (by rw [← hs6]; exact hp7.ext) hp5.frm.size, ⟨?_, ?_, ?_, ?_, fun rb hrb k1 k2 => ?_⟩, hp7.ht, hp7.yt⟩
              · exact hp7.frm.os.trans (hos6.1.trans hp5.frm.os)
              · exact hp7.frm.tape.trans (hos6.2.1.trans hp5.frm.tape)
              · exact hp7.frm.output.trans (hos6.2.2.trans hp5.frm.output)
              · have := hp7.frm.size
                have := hp5.frm.size
                simp only [Array.size_setIfInBounds]
                omega
              · show (w7.heap.setIfInBounds l (.loop R))[rb]? = _
                by_cases hrl : rb = l
                · subst hrl
                  rw [hl1]; simp [hlt7]
                · rw [Array.getElem?_setIfInBounds_ne (fun e => hrl e.symm)]
                  have hun : Un ι1 rb := ⟨k1, k2⟩
                  have hu5' := hun.mono hp5.ext hrb
                  have hlt : rb < w6.heap.size := by have := hp5.frm.size; omega
                  rw [hp7.frm.block rb hlt hu5'.blk hu5'.mp, ho6 rb hrl]
                  exact hp5.frm.block rb hrb k1 k2
          · intro x e' t' n' ι' ac' w' hlv _ _
            rcases hlv with ⟨_, h, _⟩ | ⟨_, h, _⟩ | ⟨h, _⟩ <;> cases h
      · intro x e' t' n' ι' ac' w' hlv _ _
        rcases hlv with ⟨_, h, _⟩ | ⟨_, h, _⟩ | ⟨h, _⟩ <;> cases h
  | _ => cases h
end Ev
/- Code, whole. -/
namespace Ev
open Go
variable {P : Program} {tk : Tok} {L : List Nat} {N : Nat}
/-- the world behind a range's entry -/
structure Ent (P : Program) (ac : Act) (ps : Array Tmp) (asg body : Code) (ι : Rn) (KK : G) (t : H) (w w2 : World) (RR : Loop) : Prop where
  sta : RR.state = .ready
  pen : RR.pending = none
  tmp : RR.tmps = ac.tmps
  par : RR.params = ps
  ass : RR.assign = asg
  bod : RR.body = body
  run : (Instr.enterLoop RR.fn ac.tmps ps asg body none).run P w = .ok (w.heap.size + 1, [mark w.heap.size]) w2
  size : w2.heap.size = w.heap.size + 2
  loop : w2.heap[w.heap.size + 1]? = some (.loop RR)
  defer : w2.heap[w.heap.size]? = some (.deferred (some []))
  frm : Frm ι w w2
  rel : Rel ι (un t KK) w2
theorem ent_ok {ac : Act} {ps : Array Tmp} {asg body : Code} {ι : Rn} {KK : G} {t : H} {w : World} (fn : FuncId) (hR : Rel ι (un t KK) w) : ∃ w2 RR, RR.fn = fn ∧ Ent P ac ps asg body ι KK t w w2 RR := by
  refine ⟨(w.alloc (.deferred (some []))).alloc (.loop { state := .ready, pending := none, fn := fn, tmps := ac.tmps, params := ps, assign := asg, body := body, defers := w.heap.size }), { state := .ready, pending := none, fn := fn, tmps := ac.tmps, params := ps, assign := asg, body := body, defers := w.heap.size }, rfl, rfl, rfl, rfl, rfl, rfl, rfl, ?_, ?_, ?_, ?_, ?_, ?_⟩
  · simp only [Instr.enterLoop, Sem.run_bind, run_newObj_alloc, Result.andThen_ok, Sem.run_pure, alloc_size, mark]
  · rw [alloc_size, alloc_size]
  · generalize ({ state := .ready, pending := none, fn := fn, tmps := ac.tmps, params := ps, assign := asg, body := body, defers := w.heap.size } : Loop) = RR
    have := heap_push1 (w := w.alloc (.deferred (some []))) (ob := .loop RR)
    rwa [alloc_size] at this
  · exact heap_push0 heap_push1
  · exact (frm_push _).trans (.refl _ _) (frm_push _)
  · exact hR.push.push
theorem back_post {ac : Act} {ps : Array Tmp} {asg body : Code} {ι ι3 : Rn} {KK : G} {t t1 : H} {w w2 w3 : World} {RR : Loop} {n n1 m M : Nat} {e : T AV} {Q : Exit → Act → World → Prop} {V : Value} (E : Ent P ac ps asg body ι KK t w w2 RR) (hyn : ι.yl n = none) (hi : Iv L N M ι e ac w)
    (hul : Un (ι.addY n (w.heap.size + 1)) (w.heap.size + 1)) (hud : Un (ι.addY n (w.heap.size + 1)) w.heap.size) (hp3 : PC KK (ι.addY n (w.heap.size + 1)) w2 t1 n1 ι3 w3)
    (hQ : ∀ ι' ac' w', PC KK ι w t1 n1 ι' w' → Iv L N M ι' e ac' w' → Q .normal ac' w') : rangePost (Fr none) m P (w.heap.size + 1) Q { ac with defers := [mark w.heap.size] ++ ac.defers } (.returned V) w3 := by
  have hs2 := E.size
  have hl3 := hp3.frm.at hul E.loop
  have hd3 := hp3.frm.at hud E.defer
  have hu3 : Un ι3 (w.heap.size + 1) := hul.mono hp3.ext (by omega)
  have hud3 : Un ι3 w.heap.size := hud.mono hp3.ext (by omega)
  have hext : ExtC w.heap.size ι ι3 := (ext_addY hyn).trans hp3.ext E.frm.size
  have hfrm3 : Frm ι w w3 := E.frm.trans (ext_addY hyn) ⟨hp3.frm.os, hp3.frm.tape, hp3.frm.output, hp3.frm.size, hp3.frm.block⟩
  have hfrm : Frm ι w { w3 with heap := w3.heap.setIfInBounds (w.heap.size + 1) (.loop { RR with state := .exhausted }) } := hfrm3.setO (by omega)
  refine ⟨none, { w3 with heap := w3.heap.setIfInBounds (w.heap.size + 1) (.loop { RR with state := .exhausted }) }, ?_, ?_⟩
  · have hbusy : (RR.state == LoopState.busy) = false := by rw [E.sta]; rfl
    simp only [Instr.endLoop, Sem.run_bind, run_getLoop hl3, Result.andThen_ok, hbusy, Bool.false_eq_true, if_false, Sem.run_pure, run_setO hl3, E.pen]
  · refine hQ ι3 _ _ ⟨hp3.rel.setO hu3, hext, hfrm, hp3.ht, hp3.yt⟩ ⟨hi.tr.mono hext.le, hi.el, hi.sz, ?_, Nat.le_trans hi.hm hfrm.size⟩
    obtain ⟨rs, k1, k2, k3⟩ := hi.mks
    refine ⟨w.heap.size :: rs, ?_, ?_, fun r hr => ?_⟩
    · simp [k1]
    · refine List.nodup_cons.2 ⟨fun hm => ?_, k2⟩
      have := (Array.getElem?_eq_some_iff.1 (k3 _ hm).2.1).1
      omega
    · rcases List.mem_cons.1 hr with rfl | hr
      · refine ⟨hi.hm, ?_, hud3⟩
        show (w3.heap.setIfInBounds _ _)[w.heap.size]? = _
        rw [Array.getElem?_setIfInBounds_ne (by omega)]; exact hd3
      · obtain ⟨k4, k5, k6⟩ := k3 r hr
        have hlt := (Array.getElem?_eq_some_iff.1 k5).1
        refine ⟨k4, ?_, k6.mono hext hlt⟩
        show (w3.heap.setIfInBounds _ _)[r]? = _
        rw [Array.getElem?_setIfInBounds_ne (by omega)]; exact hfrm3.at k6 k5
theorem ok_back {X : Operand} {f : Opd} {ps : Array Tmp} {i v : Nat} {asg body : Code} {da db : DC} (hc : cOpd X = some f) (hps : ps.toList = [i, v]) (hiL : i ∉ L) (hvL : v ∉ L) (hiN : i < N) (hvN : v < N)
    (ha : CodeOK P tk L N true asg da) (hb : CodeOK P tk L N true body db) (hma : DM da) (hmb : DM db) : CodeOK P tk L N false (.rangeFunc X ps asg body) (cBack f i v da db) := by
  intro ro m M y ih e t n k r KK ι w ac Q hro hYM hI hih hyo hr h hk hK hR hH hY hi hQ _
  obtain rfl : ro = none := by
    rcases hro with h | h
    · exact h
    · cases h
  unfold cBack at h
  obtain ⟨x, hx, h⟩ := fetch_inv hc (TR.leaf ι ac.tmps) hi.tr h hr
  obtain ⟨gf, caps, hxv, h⟩ := vfn_inv h hr
  rw [forceN_eq] at h
  generalize hcall : ih _ gf _ t _ = o at h
  cases o with
  | ok w1 t1 n1 =>
    have hfin : k e t1 n1 = r := h
    clear h
    subst hxv
    simp only [toV, Option.bind_eq_some_iff] at hx
    obtain ⟨vs, hvs, hX⟩ := hx
    simp only [comV, Option.some.injEq] at hX
    have hyn : ι.yl n = none := hY n (Nat.le_refl _)
    refine wpIn_rangeFunc fun fn _ => ?_
    obtain ⟨w2, RR, hfn, E⟩ := ent_ok (P := P) (ac := ac) (ps := ps) (asg := asg) (body := body) fn hR
    have hs2 := E.size
    have hu0 : Un ι w.heap.size := Un.new hR (Nat.le_refl _)
    have hu1 : Un ι (w.heap.size + 1) := Un.new hR (by omega)
    have hul : Un (ι.addY n (w.heap.size + 1)) (w.heap.size + 1) := ⟨hu1.blk, hu1.mp⟩
    have hud : Un (ι.addY n (w.heap.size + 1)) w.heap.size := ⟨hu0.blk, hu0.mp⟩
    have hyk : YOK P tk (round y ih n i v da db e) (ι.addY n (w.heap.size + 1)) w2 :=
      round_ok (ι0 := ι) (w0 := w) (tmps := ac.tmps) (ps := ps) hps hiL hvL hiN hvN ha hb hma hmb hYM hI hih hyo (ext_addY hyn) ⟨E.frm.os, E.frm.tape, E.frm.output, E.frm.size, E.frm.block⟩ (by omega) hul E.loop (by simp [Rn.addY]) E.sta E.pen E.tmp E.par E.ass E.bod
        (hi.tr.mono (addY_le hyn)) hi.el hi.sz
    obtain ⟨hE, hcalls⟩ := hih _ _ _ _ _ _ _ _ (round_m hma hmb hYM hI) hcall
    have hcalls := hcalls KK (ι.addY n (w.heap.size + 1)) w2 (#[.func (.yield (w.heap.size + 1)) #[] #[]] ++ vs.toArray) hyk (hK.mono (hk _ _ _ hfin)) (E.rel.addY hyn) (fun b hb => hH b (by omega)) (fun b hb => by
        show (if b = n then _ else ι.yl b) = none
        rw [if_neg (by omega)]; exact hY b (by omega)) (by
        have := toT_mono (addY_le hyn (l := w.heap.size + 1)) _ _ hvs
        simp [toT, toV, refV, Rn.addY] at this ⊢
        exact this)
    have hpost := fun (x : Ending) (w3 : World) (h : ∃ V ι', x = .returned V ∧ toV ι' w1 = some V ∧ PC KK (ι.addY n (w.heap.size + 1)) w2 t1 n1 ι' w3) => (show rangePost (Fr none) m P (w.heap.size + 1) Q { ac with defers := [mark w.heap.size] ++ ac.defers } x w3 by
      obtain ⟨V, ι3, rfl, _, hp3⟩ := h
      exact back_post E hyn hi hul hud hp3 fun ι' ac' w' h1 h2 => hQ _ _ _ _ _ _ hfin h1 h2)
    have hcl : CallsIn (Fr none) (m - 1) P gf (#[.func (.yield (w.heap.size + 1)) #[] #[]] ++ vs.toArray) w2 (rangePost (Fr none) m P (w.heap.size + 1) Q { ac with defers := [mark w.heap.size] ++ ac.defers }) := callsIn_fr (ro := none) (CallsIn.mono hcalls hpost)
    have hres : (resolve ac.eval (rangeCall X (w.heap.size + 1)) 0).run P w2 = .ok { target := .fn (.func gf) vs.toArray, args := #[.func (.yield (w.heap.size + 1)) #[] #[]] } w2 := by
      simp only [resolve, rangeCall, ← hX, Deferred.ofValue, Sem.run_bind, Sem.run_pure, Result.andThen_ok]
      simp [Act.eval]
    have hinv : (invoke (.fn (.func gf) vs.toArray) #[.func (.yield (w.heap.size + 1)) #[] #[]]).run P w2 = .ok (.enter gf (#[.func (.yield (w.heap.size + 1)) #[] #[]] ++ vs.toArray)) w2 := by
      simp only [invoke]
      exact hE _ _
    exact ⟨w.heap.size + 1, [mark w.heap.size], w2, _, w2, gf, _, w2, by rw [← hfn]; exact E.run, hres, fun f' _ => fr_fn none f', hinv, (fun h => by rw [fr_depth] at h; cases h), hcl⟩
  | _ => exact absurd h.symm (hr _)
/-! ### labels -/
theorem LabOK.congr {c c' : Code} {l : Nat} (h : findLabel c l = findLabel c' l) : ∀ {ls : List (Nat × IC)}, LabOK P tk L N c l ls → LabOK P tk L N c' l ls
  | [], h0 => by rw [LabOK] at h0 ⊢; rw [← h]; exact h0
  | (l', r) :: ls, h0 => by
    rw [LabOK] at h0 ⊢
    rw [← h]
    split
    · rename_i he; rw [if_pos he] at h0; exact h0
    · rename_i he; rw [if_neg he] at h0; exact LabOK.congr h h0
theorem lab_seq {a b : Code} {l : Nat} (hb : CodeOK P tk L N (noBack (cCode P L b)) b (den (cCode P L b))) {l2 : List (Nat × IC)} (h2 : LabOK P tk L N b l l2) : ∀ {ls : List (Nat × IC)}, LabOK P tk L N a l ls →
    LabOK P tk L N (.seq a b) l (ls.map (fun x => (x.1, .seq x.2 (cCode P L b))) ++ l2)
  | [], h0 => by
    have h0 : findLabel a l = none := h0
    exact LabOK.congr (by simp [findLabel, h0]) h2
  | (l', r) :: ls, h0 => by
    rw [LabOK] at h0
    rw [List.map_cons, List.cons_append, LabOK]
    split
    · rename_i he
      rw [if_pos he] at h0
      obtain ⟨rest, h1, h3⟩ := h0
      exact ⟨.seq rest b, by simp [findLabel, h1], ok_seq (dm _) h3 hb⟩
    · rename_i he; rw [if_neg he] at h0; exact lab_seq hb h2 h0
mutual
theorem code_ok (hm : P.follows .mixedOrders = true) : ∀ c : Code, (∀ d ∈ dsts c, d < N) → CodeOK P tk L N (noBack (cCode P L c)) c (den (cCode P L c))
  | .skip, _ => by rw [cCode]; exact ok_skip
  | .label _, _ => by rw [cCode]; exact ok_label
  | .region _ ops draw, hd => by
    have hd' : ∀ o ∈ ops, ∀ d, o.dst = some d → d < N := fun o ho d h => hd d (by simp only [dsts, List.mem_filterMap]; exact ⟨o, by simpa using ho, h⟩)
    cases draw with
    | false => rw [cCode]; exact ok_ops hd'
    | true =>
      rw [cCode]
      split
      · rename_i chk hc; exact ok_draw hm hc hd'
      · exact ok_bad
  | .seq a b, hd => by
    rw [cCode]
    exact ok_seq (dm _) (code_ok hm a (fun d h => hd d (by simp only [dsts, List.mem_append]; exact .inl h))) (code_ok hm b (fun d h => hd d (by simp only [dsts, List.mem_append]; exact .inr h)))
  | .cond c a b, hd => by
    rw [cCode]
    split
    · rename_i x hc
      exact ok_if hc (code_ok hm a (fun d h => hd d (by simp only [dsts, List.mem_append]; exact .inl h))) (code_ok hm b (fun d h => hd d (by simp only [dsts, List.mem_append]; exact .inr h)))
    · exact ok_bad
  | .block _ b, hd => by rw [cCode]; exact ok_block (code_ok hm b hd)
  | .loop b, hd => by rw [cCode]; exact ok_loop (dm _) (code_ok hm b hd)
  | .scope b, hd => by
    have hl := labs_ok hm b hd
    rw [cCode]
    split
    · rename_i l1 r1 he
      have h1 := hl l1
      rw [he, LabOK, if_pos rfl] at h1
      refine ok_scope (dm _) (code_ok hm b hd) h1 h1 (fun l h2 _ => ?_)
      have h3 := hl l
      rw [he, LabOK, if_neg (fun e => h2 e.symm)] at h3
      exact h3
    · rename_i l1 r1 l2 r2 he
      split
      · exact ok_bad
      · rename_i hne
        have h1 := hl l1
        rw [he, LabOK, if_pos rfl] at h1
        have h2 := hl l2
        rw [he, LabOK, if_neg hne, LabOK, if_pos rfl] at h2
        refine ok_scope (dm _) (code_ok hm b hd) h1 h2 (fun l h4 h5 => ?_)
        have h3 := hl l
        rw [he, LabOK, if_neg (fun e => h4 e.symm), LabOK, if_neg (fun e => h5 e.symm)] at h3
        exact h3
    · exact ok_bad
  | .exit _, _ => by rw [cCode]; exact ok_exit
  | .goto _, _ => by rw [cCode]; exact ok_goto
  | .ret, _ => by rw [cCode]; exact ok_ret
  | .rangeFunc f ps asg b, hd => by
    rw [cCode]
    split
    · rename_i x i v hc hps
      split
      · exact ok_bad
      · rename_i hn
        simp only [Bool.or_eq_true, List.contains_eq_mem, decide_eq_true_eq, Bool.not_eq_true', not_or, Bool.not_eq_false] at hn
        have ha := code_ok hm asg (fun d h => hd d (by simp only [dsts, List.mem_append]; exact .inl (.inr h)))
        have hb := code_ok hm b (fun d h => hd d (by simp only [dsts, List.mem_append]; exact .inr h))
        have hin : ∀ d ∈ [i, v], d < N := fun d h => hd d (by simp only [dsts, List.mem_append]; rw [hps]; exact .inl (.inl h))
        rw [hn.1.2] at ha
        rw [hn.2] at hb
        exact ok_back hc hps hn.1.1.1.1 hn.1.1.1.2 (hin i (.head _)) (hin v (.tail _ (.head _))) ha hb (dm _) (dm _)
    · exact ok_bad
  | .refuse _, _ => by rw [cCode]; exact ok_bad
theorem labs_ok (hm : P.follows .mixedOrders = true) : ∀ c : Code, (∀ d ∈ dsts c, d < N) → ∀ l, LabOK P tk L N c l (labs P L c)
  | .seq a b, hd, l => by
    rw [labs]
    exact lab_seq (code_ok hm b (fun d h => hd d (by simp only [dsts, List.mem_append]; exact .inr h))) (labs_ok hm b (fun d h => hd d (by simp only [dsts, List.mem_append]; exact .inr h)) l) (labs_ok hm a (fun d h => hd d (by simp only [dsts, List.mem_append]; exact .inl h)) l)
  | .label q, _, l => by
    rw [labs, LabOK]
    split
    · rename_i h; subst h; exact ⟨.skip, by simp [findLabel], ok_skip⟩
    · rename_i h; rw [LabOK]; simp [findLabel, h]
  | .skip, _, l => by simp [labs, LabOK, findLabel]
  | .region _ _ _, _, l => by simp [labs, LabOK, findLabel]
  | .cond _ _ _, _, l => by simp [labs, LabOK, findLabel]
  | .block _ _, _, l => by simp [labs, LabOK, findLabel]
  | .loop _, _, l => by simp [labs, LabOK, findLabel]
  | .scope _, _, l => by simp [labs, LabOK, findLabel]
  | .exit _, _, l => by simp [labs, LabOK, findLabel]
  | .goto _, _, l => by simp [labs, LabOK, findLabel]
  | .ret, _, l => by simp [labs, LabOK, findLabel]
  | .rangeFunc _ _ _ _, _, l => by simp [labs, LabOK, findLabel]
  | .refuse _, _, l => by simp [labs, LabOK, findLabel]
end
end Ev
