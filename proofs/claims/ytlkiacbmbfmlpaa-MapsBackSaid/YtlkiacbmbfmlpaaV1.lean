import Derived.Test.YtlkiacbmbfmlpaaV0
import Derived.Laws.StructEq
import Derived.Deep.AppendSrc
import Derived.Laws.MakeOwn
import Derived.Great.BuildSlice
import Derived.Laws.StandIn
import Derived.Lib.Bytealg
import Derived.Deep.Upon
/- An evaluator over abstract values and heaps, and the proof that what it answers the calls of the model answer, on whatever tape: part 1. Conditions: none of its own. -/
set_option linter.unusedVariables false
set_option linter.unusedSimpArgs false
set_option linter.unusedSectionVars false
namespace Ev
open Go
variable [Told] [TokV] [ToldOK]
variable {ι : Rn} {P : Program} {w : World} {o : Oper} {r : Out} {k : K} {x y v : AV} {X Y V : Value} {t : TypeId} {ac : Act} {l e : T AV} {th : H} {KK : G}
def KeyTy (P : Program) (s : Nat) (d : TypeDesc) : Prop := match s with
  | 0 => ∃ k, d = .int k
  | 1 => d = .string
  | _ => ∃ fs f1 f2 e, d = .struct fs ∧ fs.toList = [f1, f2] ∧ P.underlying f1.type = some .string ∧ P.underlying f2.type = some (.pointer e) ∧ f1.offset = 0 ∧ f2.offset = 1
theorem okey_ok {s : Nat} (h : okey P t = some s) : ∃ d, P.underlying t = some d ∧ KeyTy P s d := by
  unfold okey at h
  split at h
  · rename_i k hk; injection h with h; subst h; exact ⟨_, hk, k, rfl⟩
  · rename_i hk; injection h with h; subst h; exact ⟨_, hk, rfl⟩
  · rename_i fs hk
    split at h
    · rename_i f1 f2 hfs
      split at h
      · rename_i e h1 h2
        split at h
        · rename_i h3; injection h with h; subst h; exact ⟨_, hk, fs, f1, f2, e, rfl, hfs, h1, h2, h3.1, h3.2⟩
        · cases h
      · cases h
    · cases h
  · cases h
def KeyV (s : Nat) (q : AV) : Prop := match s with
  | 0 => ∃ m n, q = .num m n ∧ m < 8
  | 1 => ∃ l, q = .str l
  | _ => ∃ x a b c, q = .com 0 x (.cons a (.cons b c))
theorem kcls_inv {s : Nat} {q : AV} {f : Out} (h : kcls s q f = r) (hr : NE r) : KeyV s q ∧ f = r := by
  match s, h with
  | 0, h => obtain ⟨m, n, rfl, hm, h⟩ := vint_inv (show vint q _ = r from h) hr; exact ⟨⟨m, n, rfl, hm⟩, h⟩
  | 1, h => obtain ⟨l, rfl, h⟩ := vstr_inv (show vstr q _ = r from h) hr; exact ⟨⟨l, rfl⟩, h⟩
  | s + 2, h =>
    obtain ⟨x, l, rfl, h⟩ := vagg_inv (show vagg q _ = r from h) hr
    obtain ⟨a, l, rfl, h⟩ := lcons_inv h hr
    obtain ⟨b, c, rfl, h⟩ := lcons_inv h hr
    exact ⟨⟨x, a, b, c, rfl⟩, h⟩
theorem run_checkKeyN {d : TypeDesc} {s : Nat} {q : AV} {V : Value} (hu : P.underlying t = some d) (hd : KeyTy P s d) (hq : KeyV s q) (hV : toV ι q = some V) (em : Bool) (n : Nat) : (Instr.checkKey em (n + 2) t V).run P w = .ok () w := by
  unfold Instr.checkKey
  simp only [Sem.run_bind, run_underlying hu, Result.andThen]
  match s, hd, hq with
  | 0, hd, hq => obtain ⟨k, rfl⟩ := hd; cases V <;> rfl
  | 1, hd, hq => obtain rfl := hd; cases V <;> rfl
  | s + 2, hd, hq =>
    obtain ⟨fs, f1, f2, e, rfl, hfs, h1, h2, h3, h4⟩ := hd
    obtain ⟨x, a, b, c, rfl⟩ := hq
    obtain rfl : fs = #[f1, f2] := by apply Array.ext'; simpa using hfs
    simp only [toV, toT, Option.bind_eq_some_iff, Option.map_eq_some_iff] at hV
    obtain ⟨vs, ⟨A, hA, rs, ⟨B, hB, cs, hC, rfl⟩, rfl⟩, hV⟩ := hV
    simp only [comV] at hV
    split at hV
    case isFalse => cases hV
    injection hV with hV; subst hV
    have g1 : aggOf P f1.type = some false := by simp [aggOf, h1]
    have g2 : aggOf P f2.type = some false := by simp [aggOf, h2]
    have c1 : ∀ V, (Instr.checkKey em (n + 1) f1.type V).run P w = .ok () w := fun V => by
      unfold Instr.checkKey
      simp only [Sem.run_bind, run_underlying h1, Result.andThen]
      cases V <;> rfl
    have c2 : ∀ V, (Instr.checkKey em (n + 1) f2.type V).run P w = .ok () w := fun V => by
      unfold Instr.checkKey
      simp only [Sem.run_bind, run_underlying h2, Result.andThen]
      cases V <;> rfl
    have p1 : (part f1.type (A :: B :: cs).toArray f1.offset).run P w = .ok A w := by simp [part, run_aggOf g1, h3]
    have p2 : (part f2.type (A :: B :: cs).toArray f2.offset).run P w = .ok B w := by simp [part, run_aggOf g2, h4]
    by_cases n1 : f1.name = "_" <;> by_cases n2 : f2.name = "_" <;> simp [n1, n2, p1, p2, c1, c2]
theorem run_checkKeyM {d : TypeDesc} {s : Nat} {q : AV} {V : Value} (hu : P.underlying t = some d) (hd : KeyTy P s d) (hq : KeyV s q) (hV : toV ι q = some V) (em : Bool) : (Instr.checkKey em 10000 t V).run P w = .ok () w := run_checkKeyN hu hd hq hV em 9998
theorem kind_inj {a b : Nat} (ha : a < 8) (hb : b < 8) (h : kind a = kind b) : a = b := by
  have : ∀ n, n < 8 → kno (kind n) = n := by decide
  rw [← this a ha, ← this b hb, h]
theorem eqKey_ok {s : Nat} {d : TypeDesc} {q y : AV} {Q Y : Value} {f : Bool → Out} (hd : KeyTy P s d) (hq : KeyV s q) (hQ : toV ι q = some Q) (hY : toV ι y = some Y) (hr : NE r) (h : eqCell q y f = r) :
    ∃ b, Instr.sameNow d Q Y = some b ∧ f b = r ∧ (b = true → Q = Y) ∧ (b = true → KeyV s y) := by
  match s, hd, hq with
  | 0, hd, hq =>
    obtain ⟨k, rfl⟩ := hd
    obtain ⟨m, n, rfl, hm⟩ := hq
    obtain ⟨m', n', rfl, h1⟩ := vnum_inv (show vnum y _ = r from h) hr
    obtain ⟨h2, h3⟩ := bO_inv h1 hr
    obtain rfl := beq_nat h2
    rw [toV_int hm] at hQ hY
    injection hQ with hQ; injection hY with hY; subst hQ hY
    refine ⟨ibeq n n', by simp [Instr.sameNow, ibeq_eq], h3, fun hb => ?_, fun _ => ⟨_, _, rfl, hm⟩⟩
    rw [ibeq_eq] at hb
    rw [eq_of_beq hb]
  | s + 2, hd, hq =>
    obtain ⟨x, a, b, c, rfl⟩ := hq
    exact absurd h.symm (hr _)
  | 1, hd, hq =>
    obtain rfl := hd
    obtain ⟨a, rfl⟩ := hq
    obtain ⟨b, rfl, h1⟩ := vstr_inv (show vstr y _ = r from h) hr
    obtain ⟨a', hQ', ha, _⟩ := str_val (f := fun _ => Out.ret .leaf .leaf 0) (r := Out.ret .leaf .leaf 0) (show vstr (.str a) _ = _ from rfl) (fun c e => by cases e) hQ
    obtain ⟨b', hY', hb, _⟩ := str_val (f := fun _ => Out.ret .leaf .leaf 0) (r := Out.ret .leaf .leaf 0) (show vstr (.str b) _ = _ from rfl) (fun c e => by cases e) hY
    simp only [toV] at hQ hY
    split at hQ
    · rename_i hal
      split at hY
      · rename_i hbl
        injection hQ with hQ; injection hY with hY; subst hQ hY
        have ha : ∀ c ∈ a, c < 256 := by simpa using hal
        have hb : ∀ c ∈ b, c < 256 := by simpa using hbl
        refine ⟨sbeq a b, ?_, h1, fun he => ?_, fun _ => ⟨_, rfl⟩⟩
        · simp only [Instr.sameNow, Option.some.injEq, sbeq_eq]
          rw [Bool.eq_iff_iff, MapKept.bytes_beq]
          simp only [beq_iff_eq]
          exact ⟨fun e => sbytes_inj ha hb e, fun e => by rw [e]⟩
        · rw [sbeq_eq] at he; rw [eq_of_beq he]
      · cases hY
    · cases hQ
theorem mfind_ok {s : Nat} {d : TypeDesc} {q : AV} {Q : Value} (hd : KeyTy P s d) (hq : KeyV s q) (hQ : toV ι q = some Q) (hr : NE r) : ∀ {es : ML} {ents : List MapEntry} {no : Out} {c : K} (i : Nat), MapOk ι es ents → mfind q es no c = r →
    (Instr.findNow d Q ents i = some none ∧ no = r) ∨ ∃ j v V, Instr.findNow d Q ents i = some (some (j, V)) ∧ toV ι v = some V ∧ c v = r := by
  intro es
  induction es with
  | nil => intro ents no c i hm h; obtain rfl := hm; exact .inl ⟨rfl, h⟩
  | cons kk vv rest ih =>
    rintro ents no c i ⟨x, l', rfl, hk, hv, hm⟩ h
    obtain ⟨b, h1, h2, _, _⟩ := eqKey_ok hd hq hQ hk hr (show eqCell q kk (fun b => bO b (c vv) (mfind q rest no c)) = r from h)
    rcases bO_cases h2 with ⟨rfl, h3⟩ | ⟨rfl, h3⟩
    · exact .inr ⟨i, vv, x.val, by simp [Instr.findNow, h1], hv, h3⟩
    · rcases ih (i + 1) hm h3 with ⟨h4, h5⟩ | ⟨j, v, V, h4, h5, h6⟩
      · exact .inl ⟨by simp [Instr.findNow, h1, h4], h5⟩
      · exact .inr ⟨j, v, V, by simp [Instr.findNow, h1, h4], h5, h6⟩
theorem vmap_inv {f : ML → Out} (hR : Rel ι (un th KK) w) (hr : NE r) (hv : toV ι v = some V) (h : vmap v th f = r) :
    (V = .map none ∧ f .nil = r) ∨ ∃ b rr es ver ents clock, ι.mp b = some rr ∧ un th KK b = some (.mp es ver) ∧ V = .map (some rr) ∧ w.heap[rr]? = some (.map ents clock) ∧ MapOk ι es ents.toList ∧ f es = r := by
  obtain ⟨g, b, ep, off, l, c, rfl, h1⟩ := vref_inv h hr
  rcases bO_cases h1 with ⟨h2, h3⟩ | ⟨_, h2⟩
  · obtain rfl := beq_nat h2
    obtain ⟨es, ver, hg, h4⟩ := withMap_inv h3 hr
    simp only [toV, refV, Option.map_eq_some_iff] at hv
    obtain ⟨rr, hrr, rfl⟩ := hv
    obtain ⟨_, _, rr', ents, clock, h5, _, h6, h7⟩ := hR.obj _ _ (un_get hg)
    rw [hrr] at h5; injection h5 with h5; subst h5
    exact .inr ⟨b, rr, es, ver, ents, clock, hrr, un_get hg, rfl, h6, h7, h4⟩
  · obtain ⟨h3, h4⟩ := bO_inv h2 hr
    obtain rfl := beq_nat h3
    simp only [toV, refV, Option.some.injEq] at hv
    exact .inl ⟨hv.symm, h4⟩
theorem run_lookup {kt et : TypeId} {d : TypeDesc} {s : Nat} {Q M : Value} {ents : List MapEntry} {a : Option (Nat × Value)} {Z : Value} (hu : P.underlying t = some (.map kt et)) (hk : P.underlying kt = some d) (hd : KeyTy P s d) {q : AV} (hq : KeyV s q) (hQ : toV ι q = some Q)
    (hM : (M = .map none ∧ ents = []) ∨ ∃ rr es clock, M = .map (some rr) ∧ w.heap[rr]? = some (.map es clock) ∧ ents = es.toList) (hf : Instr.findNow d Q ents 0 = some a) (hz : (zeroValue et).run P w = .ok Z w) (ok : Bool) :
    (Instr.lookup t M Q ok).run P w = .ok (match a with | some (_, v) => if ok then .tuple #[v, .bool true] else v | none => if ok then .tuple #[Z, .bool false] else Z) w := by
  have hfk : (Instr.findKey kt Q ents).run P w = .ok a w := by simp [Instr.findKey, run_underlying hk, hf]
  have hck : ∀ em, (Instr.checkKey em 10000 kt Q).run P w = .ok () w := fun em => run_checkKeyM hk hd hq hQ em
  rcases hM with ⟨rfl, rfl⟩ | ⟨rr, es, clock, rfl, hh, rfl⟩
  · cases a with
    | none => simp [Instr.lookup, run_underlying hu, hck, hfk, hz]
    | some p => simp [Instr.lookup, run_underlying hu, hck, hfk]
  · have hg : (getObj rr).run P w = .ok (.map es clock) w := by simp [getObj, Sem.run, hh]
    cases a with
    | none => simp [Instr.lookup, run_underlying hu, hg, hck, hfk, hz]
    | some p => simp [Instr.lookup, run_underlying hu, hg, hck, hfk]
theorem okLook {A B : Operand} {kt et : TypeId} {ok : Bool} {s : Nat} {z q : AV} (ho : o.op = .lookup t A B ok) (hu : P.underlying t = some (.map kt et)) (hk : okey P kt = some s) (hz : zeroOf P et = some z) (hR : Rel ι (un th KK) w) (hr : NE r)
    (hv : toV ι v = some (ac.eval A)) (hq : toV ι q = some (ac.eval B)) (h : (if ok then pLookOk s z v q th k else pLook s z v q th k) = r) : OkV ι P w ac.eval o k r := by
  obtain ⟨d, hkd, hd⟩ := okey_ok hk
  obtain ⟨Z, hZr, _, hZ⟩ := run_zeroOf (w := w) ι hz
  have key : ∀ {f : ML → Out}, vmap v th f = r → ∃ es ents, f es = r ∧ MapOk ι es ents ∧ ((ac.eval A = .map none ∧ ents = []) ∨ ∃ rr es clock, ac.eval A = .map (some rr) ∧ w.heap[rr]? = some (.map es clock) ∧ ents = es.toList) := by
    intro f h
    rcases vmap_inv hR hr hv h with ⟨h1, h2⟩ | ⟨b, rr, es, _, ents, clock, h1, h2, h3, h4, h5, h6⟩
    · exact ⟨.nil, [], h2, rfl, .inl ⟨h1, rfl⟩⟩
    · exact ⟨es, ents.toList, h6, h5, .inr ⟨rr, ents, clock, h3, h4, rfl⟩⟩
  cases ok with
  | false =>
    obtain ⟨hkv, h1⟩ := kcls_inv (show kcls s q (vmap v th fun es => mfind q es (k z) k) = r from h) hr
    obtain ⟨es, ents, h2, hm, hM⟩ := key h1
    rcases mfind_ok hd hkv hq hr 0 hm h2 with ⟨h3, h4⟩ | ⟨j, vv, VV, h3, h4, h5⟩
    · exact ⟨_, _, h4, hZ, exec_v (by unfold execOp; rw [ho]) (run_lookup hu hkd hd hkv hq hM h3 hZr false)⟩
    · exact ⟨_, _, h5, h4, exec_v (by unfold execOp; rw [ho]) (run_lookup hu hkd hd hkv hq hM h3 hZr false)⟩
  | true =>
    obtain ⟨hkv, h1⟩ := kcls_inv (show kcls s q (vmap v th fun es => mfind q es (k (.com 1 0 (.cons z (.cons ff .nil)))) fun v => k (.com 1 0 (.cons v (.cons tt .nil)))) = r from h) hr
    obtain ⟨es, ents, h2, hm, hM⟩ := key h1
    rcases mfind_ok hd hkv hq hr 0 hm h2 with ⟨h3, h4⟩ | ⟨j, vv, VV, h3, h4, h5⟩
    · exact ⟨_, _, h4, by simp [toV, toT, hZ, ff, numV, comV], exec_v (by unfold execOp; rw [ho]) (run_lookup hu hkd hd hkv hq hM h3 hZr true)⟩
    · exact ⟨_, _, h5, by simp [toV, toT, h4, tt, numV, comV], exec_v (by unfold execOp; rw [ho]) (run_lookup hu hkd hd hkv hq hM h3 hZr true)⟩
theorem lstr_inv (hr : NE r) : ∀ {l : AV} {vs : List Value} {f : List Nat → Out}, toT ι l = some vs → lstr l f = r → ∃ ns : List Nat, vs = ns.map (fun n : Nat => Value.int .u8 (n : Int)) ∧ (∀ c ∈ ns, c < 256) ∧ f ns = r := by
  intro l
  induction l with
  | nil => intro vs f hl h; simp [toT] at hl; subst hl; exact ⟨[], rfl, by simp, h⟩
  | cons a b _ ih =>
    intro vs f hl h
    simp only [toT, Option.bind_eq_some_iff, Option.map_eq_some_iff] at hl
    obtain ⟨x, hx, rr, hrr, rfl⟩ := hl
    obtain ⟨q, n, rfl, h1⟩ := vnum_inv (show vnum a _ = r from h) hr
    obtain ⟨h2, h3⟩ := bO_inv h1 hr
    obtain rfl := beq_nat h2
    obtain ⟨m, rfl, h4⟩ := natI_inv h3 hr
    obtain ⟨h5, h6⟩ := bO_inv h4 hr
    obtain ⟨ns, h7, h8, h9⟩ := ih hrr h6
    have h5 : m < 256 := by simpa [Nat.blt_eq] using h5
    rw [toV_int (by omega)] at hx; injection hx with hx; subst hx
    exact ⟨m :: ns, by simp [h7, kind], by simp; exact ⟨h5, h8⟩, h9⟩
  | _ => intro vs f hl h; simp [toT] at hl
theorem push_sbytes : ∀ (ns : List Nat) (b : List Nat), (ns.map (fun n : Nat => (n : Int))).foldl (fun r n => r.push (UInt8.ofNat n.toNat)) (sbytes b) = sbytes (b ++ ns)
  | [], b => by simp
  | n :: ns, b => by
    rw [List.map_cons, List.foldl_cons]
    have : (sbytes b).push (UInt8.ofNat (n : Int).toNat) = sbytes (b ++ [n]) := by
      apply ByteArray.ext
      simp [sbytes, ByteArray.push]
    rw [this, push_sbytes ns (b ++ [n])]; simp
theorem okB2S {S D el : TypeId} {A : Operand} (ho : o.op = .convert S D A) (hS : P.underlying S = some (.slice el)) (hD : P.underlying D = some .string) (hel : P.underlying el = some (.int .u8)) (hR : Rel ι (un th KK) w) (hr : NE r)
    (hv : toV ι v = some (ac.eval A)) (h : pB2S v th k = r) : OkV ι P w ac.eval o k r := by
  obtain ⟨g, b, ep, off, len, cap, rfl, h1⟩ := vref_inv h hr
  have fin : ∀ {V : Value} {v : AV}, (Conv.bytesToString (ac.eval A)).run P w = .ok V w → (∃ a l c, ac.eval A = .slice a l c) → toV ι v = some V → k v = r → OkV ι P w ac.eval o k r := by
    rintro V v hV ⟨a, l, c, hA⟩ hv hk
    refine ⟨_, _, hk, hv, exec_v (by unfold execOp; rw [ho]) ?_⟩
    rw [hA] at hV ⊢
    cases a <;> simp [convert, run_underlying hS, run_underlying hD, run_underlying hel, hV]
  rcases isSl_cases h1 with ⟨hg, h2⟩ | ⟨_, _, h2⟩
  · obtain ⟨z, C, hz, hV, _, _⟩ := sl_val hg hv
    obtain ⟨sz, c, n, ep', hg', h3⟩ := withRow_inv h2 hr
    obtain ⟨cs, _, _, hra, _, hc⟩ := row_at hR (un_get hg') hz
    obtain ⟨l, vs, h4, h5, h6, h7, h8⟩ := readC_inv hc hr h3
    obtain ⟨ns, rfl, h9, h10⟩ := lstr_inv hr h4 h8
    refine fin ?_ ⟨_, _, _, hV⟩ (toV_str h9) h10
    rw [hV]
    have := load_list (P := P) hra h7
    rw [h5] at this
    rw [run_bytesToString w _ len C (ns.map fun n : Nat => (n : Int)) (by rw [this]; simp [Function.comp_def])]
    congr 2
    exact push_sbytes ns []
  · have zero : (g = 2 ∨ g = 5 ∨ g = 6) → k (.str []) = r → OkV ι P w ac.eval o k r := by
      intro hg hk
      obtain ⟨A', C, hV, _, _⟩ := sl_end hg hv
      refine fin (V := .string .empty) ?_ ⟨_, _, _, hV⟩ (by simp [toV, sbytes]; rfl) hk
      rw [hV]
      cases A' with
      | none => rfl
      | some a =>
        have := run_loadCells_list (P := P) w a [] (by simp)
        exact run_bytesToString w a 0 C [] (by simpa using this)
    rcases bO_cases h2 with ⟨h3, h4⟩ | ⟨_, h3⟩
    · exact zero (.inl (beq_nat h3)) h4
    · rcases bO_cases h3 with ⟨h4, h5⟩ | ⟨_, h4⟩
      · exact zero (.inr (.inl (beq_nat h4))) h5
      · rcases bO_cases h4 with ⟨h5, h6⟩ | ⟨_, h5⟩
        · exact zero (.inr (.inr (beq_nat h5))) h6
        · obtain ⟨h6, h7⟩ := bO_inv h5 hr
          obtain rfl := beq_nat h6
          have hV := arg_val hv
          obtain ⟨l, vs, g4, g5, g6, g7, g8⟩ := readP_inv hR hr h7
          obtain ⟨ns, rfl, h9, h10⟩ := lstr_inv hr g4 g8
          refine fin ?_ ⟨_, _, _, hV⟩ (toV_str h9) h10
          rw [hV]
          have := run_loadCells_list (P := P) w (⟨b, off, spot ep⟩ : Addr) _ g7
          rw [g5] at this
          rw [run_bytesToString w _ len cap (ns.map fun n : Nat => (n : Int)) (by rw [this]; simp [Function.comp_def])]
          congr 2
          exact push_sbytes ns []
end Ev
namespace Ev
open Go
variable [Told] [TokV] [ToldOK]
variable {ι : Rn} {P : Program} {w : World} {o : Oper} {r : Out} {k : K} {x y v : AV} {X Y V : Value} {t : TypeId} {ac : Act} {l e : T AV} {th : H} {KK : G}
theorem eqLeaf_ok {c e : Nat} {f : Bool → Out} (hc : (c = 0 ∧ ∃ q, P.underlying t = some (.int q)) ∨ (c = 1 ∧ P.underlying t = some .string) ∨ (c = 2 ∧ P.underlying t = some .bool)) (hx : toV ι x = some X) (hy : toV ι y = some Y) (hr : NE r) (h : eqLeaf c x y f = r) :
    ∃ b, (Op.equalIn (e + 1) t X Y).run P w = .ok b w ∧ f b = r := by
  rcases hc with ⟨rfl, q, hu⟩ | ⟨rfl, hu⟩ | ⟨rfl, hu⟩
  · rcases tk2_inv (show tk2 10 x y _ _ = r from h) with h | ⟨v, hv, hk⟩
    · obtain ⟨q', a, b, hq, rfl, rfl, h1⟩ := two_vals h hr hx hy
      exact ⟨_, by unfold Op.equalIn; simp [run_underlying hu, ibeq_eq], h1⟩
    · obtain ⟨q', a, b, h1, h2, h3⟩ := (ToldOK.ok _ _ _ _ hv).eql rfl
      rw [tv_ok h1] at hx; injection hx with hx; subst hx
      rw [tv_ok h2] at hy; injection hy with hy; subst hy
      have h4 := tv_ok (ι := ι) h3
      refine ⟨(a == b), by unfold Op.equalIn; simp [run_underlying hu], ?_⟩
      rcases bool_val hk hr h4 with ⟨h5, h6⟩ | ⟨h5, h6⟩
      · injection h5 with h5; rw [h5]; exact h6
      · injection h5 with h5; rw [h5]; exact h6
  · rcases tk2_inv (show tk2 18 x y _ _ = r from h) with h | ⟨v, hv, hk⟩
    case inr =>
      obtain ⟨a, b, h1, h2, h3⟩ := (ToldOK.ok _ _ _ _ hv).eqs rfl
      rw [tv_ok h1] at hx; injection hx with hx; subst hx
      rw [tv_ok h2] at hy; injection hy with hy; subst hy
      have h4 := tv_ok (ι := ι) h3
      refine ⟨(a == b), by unfold Op.equalIn; simp [run_underlying hu], ?_⟩
      rcases bool_val hk hr h4 with ⟨h5, h6⟩ | ⟨h5, h6⟩
      · injection h5 with h5; rw [h5]; exact h6
      · injection h5 with h5; rw [h5]; exact h6
    obtain ⟨a, rfl, ha, h1⟩ := str_val (show vstr x _ = r from h) hr hx
    obtain ⟨b, rfl, hb, h2⟩ := str_val h1 hr hy
    refine ⟨_, ?_, h2⟩
    unfold Op.equalIn
    simp only [Sem.run_bind, run_underlying hu, Result.andThen_ok, Sem.run_pure, sbeq_eq]
    congr 1
    rw [Bool.eq_iff_iff, MapKept.bytes_beq, beq_iff_eq]
    exact ⟨fun e => sbytes_inj ha hb e, fun e => by rw [e]⟩
  · rcases bool_val (show vbool x _ _ = r from h) hr hx with ⟨rfl, h1⟩ | ⟨rfl, h1⟩ <;> rcases bool_val h1 hr hy with ⟨rfl, h2⟩ | ⟨rfl, h2⟩ <;> exact ⟨_, run_equalIn_bool hu _ _ _, h2⟩
def EqAt (P : Program) (d : Nat) (t : TypeId) (cl : List Nat) : Prop :=
  ∀ (ι : Rn) (w : World) (e : Nat) (xs ys : Array Value) (off : Nat) (a b : AV) (as bs : List Value) (cl2 : List Nat) (k : Bool → Out) (r : Out), NE r → toT ι a = some as → toT ι b = some bs →
    (∀ j, j < cl.length → xs[off + j]? = as[j]?) → (∀ j, j < cl.length → ys[off + j]? = bs[j]?) → eqCells (cl ++ cl2) a b k = r →
    ∃ X Y res, (part t xs off).run P w = .ok X w ∧ (part t ys off).run P w = .ok Y w ∧ (Op.equalIn (d + e) t X Y).run P w = .ok res w ∧
      ((res = false ∧ k false = r) ∨ (res = true ∧ ∃ a' b', toT ι a' = some (as.drop cl.length) ∧ toT ι b' = some (bs.drop cl.length) ∧ eqCells cl2 a' b' k = r))
theorem leaf_eqAt {c d : Nat} (hc : (c = 0 ∧ ∃ q, P.underlying t = some (.int q)) ∨ (c = 1 ∧ P.underlying t = some .string) ∨ (c = 2 ∧ P.underlying t = some .bool)) : EqAt P (d + 1) t [c] := by
  intro ι w e xs ys off a b as bs cl2 k r hr ha hb hx hy h
  have hg : aggOf P t = some false := by rcases hc with ⟨_, q, hu⟩ | ⟨_, hu⟩ | ⟨_, hu⟩ <;> simp [aggOf, hu]
  obtain ⟨x, a', rfl, h1⟩ := lcons_inv (show lcons a _ = r from h) hr
  obtain ⟨y, b', rfl, h2⟩ := lcons_inv h1 hr
  simp only [toT, Option.bind_eq_some_iff, Option.map_eq_some_iff] at ha hb
  obtain ⟨X, hX, as', has, rfl⟩ := ha
  obtain ⟨Y, hY, bs', hbs, rfl⟩ := hb
  obtain ⟨res, h3, h4⟩ := eqLeaf_ok (w := w) (e := d + e) hc hX hY hr h2
  have hx0 : xs[off]? = some X := by simpa using hx 0 (by simp)
  have hy0 : ys[off]? = some Y := by simpa using hy 0 (by simp)
  refine ⟨X, Y, res, by simp [part, run_aggOf hg, hx0], by simp [part, run_aggOf hg, hy0], by rw [show d + 1 + e = d + e + 1 by omega]; exact h3, ?_⟩
  rcases bO_cases h4 with ⟨rfl, h5⟩ | ⟨rfl, h5⟩
  · exact .inr ⟨rfl, a', b', by simpa using has, by simpa using hbs, h5⟩
  · exact .inl ⟨rfl, h5⟩
def stepF (P : Program) (d : Nat) (acc : Option (List Nat)) (f : Field) : Option (List Nat) := match acc with
  | none => none
  | some l => if f.name ≠ "_" ∧ f.offset = l.length then (leaves P d f.type).map (l ++ ·) else none
theorem foldl_none {d : Nat} : ∀ fs : List Field, fs.foldl (stepF P d) none = none
  | [] => rfl
  | f :: fs => by rw [List.foldl_cons]; exact foldl_none fs
theorem fields_eqAt {d : Nat} (ih : ∀ t cl, leaves P d t = some cl → EqAt P d t cl) : ∀ {fs : List Field} {acc l : List Nat}, fs.foldl (stepF P d) (some acc) = some l →
    ∃ rest, l = acc ++ rest ∧ ∀ (ι : Rn) (w : World) (e : Nat) (xs ys : Array Value) (a b : AV) (as bs : List Value) (cl2 : List Nat) (k : Bool → Out) (r : Out), NE r → toT ι a = some as → toT ι b = some bs →
      (∀ j, j < rest.length → xs[acc.length + j]? = as[j]?) → (∀ j, j < rest.length → ys[acc.length + j]? = bs[j]?) → eqCells (rest ++ cl2) a b k = r →
      ∃ res, (Op.eqFields (d + e) xs ys fs).run P w = .ok res w ∧ ((res = false ∧ k false = r) ∨ (res = true ∧ ∃ a' b', toT ι a' = some (as.drop rest.length) ∧ toT ι b' = some (bs.drop rest.length) ∧ eqCells cl2 a' b' k = r)) := by
  intro fs
  induction fs with
  | nil =>
    intro acc l h
    simp only [List.foldl_nil, Option.some.injEq] at h
    subst h
    exact ⟨[], by simp, fun ι w e xs ys a b as bs cl2 k r hr ha hb _ _ h => ⟨true, by simp [Op.eqFields], .inr ⟨rfl, a, b, by simpa using ha, by simpa using hb, h⟩⟩⟩
  | cons f fs ihf =>
    intro acc l h
    rw [List.foldl_cons] at h
    simp only [stepF] at h
    split at h
    · rename_i hf
      cases hlf : leaves P d f.type with
      | none => rw [hlf] at h; rw [Option.map_none] at h; erw [foldl_none] at h; cases h
      | some cf =>
        rw [hlf, Option.map_some] at h
        obtain ⟨rest, rfl, hrest⟩ := ihf h
        refine ⟨cf ++ rest, by simp, fun ι w e xs ys a b as bs cl2 k r hr ha hb hx hy hk => ?_⟩
        rw [List.append_assoc] at hk
        obtain ⟨X, Y, res, h1, h2, h3, h4⟩ := ih _ _ hlf ι w e xs ys f.offset a b as bs (rest ++ cl2) k r hr ha hb
          (fun j hj => by rw [hf.2]; exact hx j (by simp; omega)) (fun j hj => by rw [hf.2]; exact hy j (by simp; omega)) hk
        rcases h4 with ⟨rfl, h5⟩ | ⟨rfl, a', b', h5, h6, h7⟩
        · exact ⟨false, by simp [Op.eqFields, hf.1, h1, h2, h3], .inl ⟨rfl, h5⟩⟩
        · obtain ⟨res, g1, g2⟩ := hrest ι w e xs ys a' b' _ _ cl2 k r hr h5 h6
            (fun j hj => by rw [List.getElem?_drop, ← hx (cf.length + j) (by simp; omega)]; simp [Nat.add_assoc]) (fun j hj => by rw [List.getElem?_drop, ← hy (cf.length + j) (by simp; omega)]; simp [Nat.add_assoc]) h7
          refine ⟨res, by simp [Op.eqFields, hf.1, h1, h2, h3, g1], ?_⟩
          rcases g2 with g2 | ⟨g2, a'', b'', g3, g4, g5⟩
          · exact .inl g2
          · exact .inr ⟨g2, a'', b'', by rw [g3, List.drop_drop]; simp, by rw [g4, List.drop_drop]; simp, g5⟩
    · erw [foldl_none] at h; cases h
theorem leaves_eqAt : ∀ (d : Nat) (t : TypeId) (cl : List Nat), leaves P d t = some cl → EqAt P d t cl := by
  intro d
  induction d with
  | zero => intro t cl h; simp [leaves] at h
  | succ d ih =>
    intro t cl h
    unfold leaves at h
    split at h
    · rename_i q hq; split at h
      · injection h with h; subst h; exact leaf_eqAt (.inl ⟨rfl, q, hq⟩)
      · cases h
    · rename_i hq; split at h
      · injection h with h; subst h; exact leaf_eqAt (.inr (.inl ⟨rfl, hq⟩))
      · cases h
    · rename_i hq; split at h
      · injection h with h; subst h; exact leaf_eqAt (.inr (.inr ⟨rfl, hq⟩))
      · cases h
    · rename_i fs hq
      split at h
      · cases h
      · rename_i hst
        split at h
        · rename_i l' hl'
          split at h
          · rename_i hsz
            injection h with h; subst h
            obtain ⟨rest, e1, hrest⟩ := fields_eqAt ih (fs := fs.toList) (acc := []) (l := l') hl'
            simp only [List.nil_append] at e1; subst e1
            have hg : aggOf P t = some true := by simp [aggOf, hq]
            intro ι w e xs ys off a b as bs cl2 k r hr ha hb hx hy hk
            have get : ∀ (zs : Array Value) (ws : List Value), (∀ j, j < l'.length → zs[off + j]? = ws[j]?) → ∀ j, j < l'.length → (zs.extract off (off + l'.length))[([] : List Nat).length + j]? = ws[j]? := by
              intro zs ws hz j hj
              rw [← hz j hj]
              simp [Array.getElem?_extract]
              intro hlt
              by_cases hle : off + j < zs.size
              · omega
              · omega
            obtain ⟨res, g1, g2⟩ := hrest ι w e (xs.extract off (off + l'.length)) (ys.extract off (off + l'.length)) a b as bs cl2 k r hr ha hb (get xs as hx) (get ys bs hy) hk
            refine ⟨_, _, res, part_agg hg hsz, part_agg hg hsz, ?_, g2⟩
            have hf : P.fieldsOf t = fs := by simp [Program.fieldsOf, hq]
            rw [show d + 1 + e = (d + e) + 1 by omega, run_equalIn_agg (P := P) (w := w) (d + e) t _ _ (by rw [hf]; exact hq) (by simpa using hst), hf]
            exact g1
          · cases h
        · cases h
    · cases h
theorem eqA_ok {cl : List Nat} {f : Bool → Out} {a b : AV} {as bs : List Value} {xs ys : Array Value} (hst : isSt P t = true) (hcl : leaves P 12 t = some cl) (hr : NE r) (ha : toT ι a = some as) (hb : toT ι b = some bs) (hx : xs = as.toArray) (hy : ys = bs.toArray) (h : eqCells cl a b f = r) :
    ∃ res, (Op.equalIn 10000 t (.agg xs) (.agg ys)).run P w = .ok res w ∧ f res = r := by
  have hq : ∃ fs, P.underlying t = some (.struct fs) := by
    unfold isSt at hst
    split at hst
    · rename_i fs hfs; exact ⟨fs, hfs⟩
    · cases hst
  obtain ⟨fs, hq⟩ := hq
  unfold leaves at hcl
  simp only [hq] at hcl
  split at hcl
  · cases hcl
  · rename_i hs
    split at hcl
    · rename_i l' hl'
      split at hcl
      · injection hcl with hcl; subst hcl
        obtain ⟨rest, e1, hrest⟩ := fields_eqAt (leaves_eqAt 11) (fs := fs.toList) (acc := []) (l := l') hl'
        simp only [List.nil_append] at e1; subst e1
        obtain ⟨res, g1, g2⟩ := hrest ι w 9988 xs ys a b as bs [] f r hr ha hb (by subst hx; simp) (by subst hy; simp) (by simpa using h)
        have hf : P.fieldsOf t = fs := by simp [Program.fieldsOf, hq]
        have : (Op.equalIn (9999 + 1) t (.agg xs) (.agg ys)).run P w = .ok res w := by
          rw [run_equalIn_agg (P := P) (w := w) 9999 t _ _ (by rw [hf]; exact hq) (by simpa using hs), hf]
          exact g1
        refine ⟨res, this, ?_⟩
        rcases g2 with ⟨rfl, g2⟩ | ⟨rfl, a', b', _, _, g2⟩
        · exact g2
        · exact g2
      · cases hcl
    · cases hcl
theorem okEqA {A B : Operand} {yt : TypeId} {cl : List Nat} {neg : Bool} (ho : o.op = .binOp (if neg then .neq else .eql) t A B yt) (hst : isSt P t = true) (hg : P.eqGuardType P.depth t = false) (hcl : leaves P 12 t = some cl) (hr : NE r)
    (hx : toV ι x = some (ac.eval A)) (hy : toV ι y = some (ac.eval B)) (h : (if neg then pNeA cl x y k else pEqA cl x y k) = r) : OkV ι P w ac.eval o k r := by
  cases neg with
  | false =>
    obtain ⟨a, as, ha, haa, hA, h1⟩ := agg_val (show vagg x _ = r from h) hr hx
    obtain ⟨b, bs, hb, hba, hB, h2⟩ := agg_val h1 hr hy
    obtain ⟨res, h3, h4⟩ := eqA_ok (w := w) hst hcl hr ha hb rfl rfl h2
    rw [pB_eq] at h4
    refine ⟨_, _, h4, toV_bool res, exec_bin ho hA hB (run_eqGuard_agg w _ t A B _ _ hg) ?_⟩
    show (binOp .eql t _ _).run P w = _
    rw [run_eql_struct w t, h3]; rfl
  | true =>
    obtain ⟨a, as, ha, haa, hA, h1⟩ := agg_val (show vagg x _ = r from h) hr hx
    obtain ⟨b, bs, hb, hba, hB, h2⟩ := agg_val h1 hr hy
    obtain ⟨res, h3, h4⟩ := eqA_ok (w := w) hst hcl hr ha hb rfl rfl h2
    rw [nB_eq] at h4
    refine ⟨_, _, h4, toV_bool' res, exec_bin ho hA hB (run_eqGuard_agg w _ t A B _ _ hg) ?_⟩
    show (binOp .neq t _ _).run P w = _
    rw [run_neq_struct w t, h3]; rfl
end Ev
namespace Ev
open Go
variable [Told] [TokV] [ToldOK]
variable {ι : Rn} {P : Program} {w : World} {o : Oper} {r : Out} {t : TypeId} {ac : Act} {g : G}
theorem fillC_cons (tg : Nat) (a b : AV) (i : Nat) (c : Bt Cell) : fillC tg (.cons a b) i c = fillC tg b (i + 1) (Bt.set c ⟨tg, a⟩ i) := rfl
theorem fillC_get (tg : Nat) : ∀ (l : AV) (i : Nat) (c : Bt Cell) (k : Nat), (fillC tg l i c).get k = if i ≤ k then (match (toL l)[k - i]? with | some a => some ⟨tg, a⟩ | none => c.get k) else c.get k := by
  intro l
  induction l with
  | cons a b _ ih =>
    intro i c k
    rw [fillC_cons, ih]
    by_cases h1 : i + 1 ≤ k
    · have h2 : i ≤ k := by omega
      have h3 : k - i = (k - (i + 1)) + 1 := by omega
      rw [if_pos h1, if_pos h2, h3]
      simp only [toL, List.getElem?_cons_succ]
      cases (toL b)[k - (i + 1)]? with
      | some a' => rfl
      | none => exact Bt.get_set_ne _ _ _ _ (by omega)
    · rw [if_neg h1]
      by_cases h2 : i = k
      · subst h2; simp [toL, Bt.get_set]
      · rw [if_neg (by omega)]; exact Bt.get_set_ne _ _ _ _ h2
  | _ => intro i c k; simp [fillC, lrec, toL]
theorem storeC_inv {ep : Nat} (hr : NE r) : ∀ {l : AV} {o : Nat} {c : Bt Cell} {k : Bt Cell → Out}, storeC ep l o c k = r →
    ∃ c', k c' = r ∧ (∀ j, j < (toL l).length → (c.get (o + j)).isSome = true) ∧ ∀ j, c'.get j = if o ≤ j then (match (toL l)[j - o]? with | some a => some ⟨ep, a⟩ | none => c.get j) else c.get j := by
  intro l
  induction l with
  | cons a b _ ih =>
    intro o c k h
    have h : Option.rec (motive := fun _ => Out) (.err 24) (fun _ => Bt.seq (Bt.set c ⟨ep, a⟩ o) fun c' => storeC ep b (Nat.succ o) c' k) (c.get o) = r := h
    cases hc : c.get o with
    | none => rw [hc] at h; exact absurd h.symm (hr _)
    | some x =>
      rw [hc] at h
      have h : Bt.seq (Bt.set c ⟨ep, a⟩ o) (fun c' => storeC ep b (Nat.succ o) c' k) = r := h
      rw [Bt.seq_eq] at h
      obtain ⟨c', h1, h2, h3⟩ := ih h
      refine ⟨c', h1, fun j hj => ?_, fun j => ?_⟩
      · cases j with
        | zero => simp [hc]
        | succ j =>
          have := h2 j (by simpa [toL] using hj)
          rw [Bt.get_set_ne _ _ _ _ (by omega)] at this
          rwa [show o + (j + 1) = o.succ + j by omega]
      · rw [h3]
        by_cases h4 : o.succ ≤ j
        · have h5 : o ≤ j := by omega
          have h6 : j - o = (j - o.succ) + 1 := by omega
          rw [if_pos h4, if_pos h5, h6]
          simp only [toL, List.getElem?_cons_succ]
          cases (toL b)[j - o.succ]? with
          | some a' => rfl
          | none => exact Bt.get_set_ne _ _ _ _ (by omega)
        · rw [if_neg h4]
          by_cases h5 : o = j
          · subst h5; simp [toL, Bt.get_set]
          · rw [if_neg (by omega)]; exact Bt.get_set_ne _ _ _ _ h5
  | _ => intro o c k h; exact ⟨c, h, fun j hj => by simp [toL] at hj, fun j => by simp [toL]⟩
def Rn.addB (ι : Rn) (n e : Nat) (x : Nat × Nat × Nat) : Rn := { ι with blk := fun b e' => if b = n ∧ e' = e then some x else ι.blk b e' }
def Rn.addM (ι : Rn) (n r : Nat) : Rn := { ι with mp := fun b => if b = n then some r else ι.mp b, mpv := fun b v => if b = n ∧ v = 0 then some (#[], 0) else ι.mpv b v }
theorem addB_le {n e : Nat} {x : Nat × Nat × Nat} (h : ι.blk n e = none) : ι.le (ι.addB n e x) :=
  ⟨fun b e' y hy => by
    show (if b = n ∧ e' = e then some x else ι.blk b e') = some y
    split
    · rename_i hb; obtain ⟨rfl, rfl⟩ := hb; rw [h] at hy; cases hy
    · exact hy, fun _ _ h => h, fun _ _ h => h, fun _ _ h => h, fun _ _ _ h => h⟩
theorem addM_le {n r : Nat} (h : ι.mp n = none) (hv : ∀ v, ι.mpv n v = none) : ι.le (ι.addM n r) :=
  ⟨fun _ _ _ h => h, fun b y hy => by
    show (if b = n then some r else ι.mp b) = some y
    split
    · rename_i hb; subst hb; rw [h] at hy; cases hy
    · exact hy, fun _ _ h => h, fun _ _ h => h, fun b v x hx => by
    show (if b = n ∧ v = 0 then some (#[], 0) else ι.mpv b v) = some x
    split
    · rename_i hb; obtain ⟨rfl, _⟩ := hb; rw [hv] at hx; cases hx
    · exact hx⟩
theorem blk_lt {b e : Nat} {z : Nat × Nat × Nat} (hR : Rel ι g w) (hz : ι.blk b e = some z) : z.1 < w.heap.size := by
  cases hg : g b with
  | none => rw [(hR.non b hg).2.1 e] at hz; cases hz
  | some ob =>
    have := hR.obj b ob hg
    cases ob with
    | row sz c n ep =>
      obtain ⟨cs, _, _, ⟨ty, fz, h, _⟩, _⟩ := row_at hR hg hz
      exact (Array.getElem?_eq_some_iff.1 h).1
    | mp es ver => rw [this.1 e] at hz; cases hz
theorem mp_lt {b r : Nat} (hR : Rel ι g w) (hz : ι.mp b = some r) : r < w.heap.size := by
  cases hg : g b with
  | none => rw [(hR.non b hg).1] at hz; cases hz
  | some ob =>
    have := hR.obj b ob hg
    cases ob with
    | row sz c n ep => rw [this.1] at hz; cases hz
    | mp es ver =>
      obtain ⟨_, _, r', ents, clock, h1, _, h2, _⟩ := this
      rw [h1] at hz; injection hz with hz; subst hz
      exact (Array.getElem?_eq_some_iff.1 h2).1
theorem mp_blk {b r b' e : Nat} {z : Nat × Nat × Nat} (hR : Rel ι g w) (hm : ι.mp b = some r) (hz : ι.blk b' e = some z) : z.1 ≠ r := by
  intro he
  cases hg : g b with
  | none => rw [(hR.non b hg).1] at hm; cases hm
  | some ob =>
    have := hR.obj b ob hg
    cases ob with
    | row sz c n ep => rw [this.1] at hm; cases hm
    | mp es ver =>
      obtain ⟨_, _, r', ents, clock, h1, _, h2, _⟩ := this
      rw [h1] at hm; injection hm with hm; subst hm
      cases hg' : g b' with
      | none => rw [(hR.non b' hg').2.1 e] at hz; cases hz
      | some ob' =>
        have := hR.obj b' ob' hg'
        cases ob' with
        | row sz c n ep =>
          obtain ⟨cs, _, _, ⟨ty, fz, h, _⟩, _⟩ := row_at hR hg' hz
          rw [he, h2] at h; cases h
        | mp es ver => rw [this.1 e] at hz; cases hz
theorem rowAt_push {rb : Nat} {cs : Array Value} {ob : Obj} (h : RowAt w rb cs) : RowAt (w.alloc ob) rb cs := by
  obtain ⟨ty, fz, h1, h2⟩ := h
  have hlt := (Array.getElem?_eq_some_iff.1 h1).1
  refine ⟨ty, fz, ?_, h2⟩
  show (w.heap.push ob)[rb]? = _
  rw [Array.getElem?_push, if_neg (by omega)]; exact h1
theorem objOk_push {ob : Obj} {b : Nat} {a : AO} {ι' : Rn} (hle : ι.le ι') (hb : ∀ e, ι'.blk b e = ι.blk b e) (hm : ι'.mp b = ι.mp b) (hmv : ∀ v, ι'.mpv b v = ι.mpv b v) (h : ObjOk ι w b a) : ObjOk ι' (w.alloc ob) b a := by
  cases a with
  | row sz c n ep =>
    obtain ⟨h1, h2, h3, h4⟩ := h
    refine ⟨by rw [hm]; exact h1, fun e he => by rw [hb]; exact h2 e he, h3, fun e he => ?_⟩
    obtain ⟨rb, cap, cs, g1, g2, g3, g4⟩ := h4 e he
    exact ⟨rb, cap, cs, by rw [hb]; exact g1, rowAt_push g2, g3, fun k tg v hk ht => let ⟨x, hx, hc, hi⟩ := g4 k tg v hk ht; ⟨x, toV_mono hle _ _ hx, hc, hi⟩⟩
  | mp es ver =>
    obtain ⟨h1, h1v, r, ents, clock, h2, h2v, h3, h4⟩ := h
    refine ⟨fun e => by rw [hb]; exact h1 e, fun v hv => by rw [hmv]; exact h1v v hv, r, ents, clock, by rw [hm]; exact h2, by rw [hmv]; exact h2v, ?_, MapOk.mono hle _ _ h4⟩
    have hlt := (Array.getElem?_eq_some_iff.1 h3).1
    show (w.heap.push ob)[r]? = _
    rw [Array.getElem?_push, if_neg (by omega)]; exact h3
theorem frm_push (ob : Obj) : Frm ι w (w.alloc ob) :=
  ⟨rfl, rfl, rfl, by show w.heap.size ≤ (w.heap.push ob).size; simp, fun rb h _ _ => by
    show (w.heap.push ob)[rb]? = _
    rw [Array.getElem?_push, if_neg (by omega)]⟩
theorem ext_addB {n e : Nat} {x : Nat × Nat × Nat} (h : ι.blk n e = none) (hx : w.heap.size ≤ x.1) : Ext w.heap.size ι (ι.addB n e x) :=
  ⟨⟨addB_le h, fun b e' y hy => by
    have hy : (if b = n ∧ e' = e then some x else ι.blk b e') = some y := hy
    split at hy
    · injection hy with hy; subst hy; exact .inr hx
    · exact .inl ⟨b, e', y, hy, rfl⟩, fun _ _ h => .inl h⟩, rfl⟩
theorem ext_addM {n r : Nat} (h : ι.mp n = none) (hv : ∀ v, ι.mpv n v = none) (hx : w.heap.size ≤ r) : Ext w.heap.size ι (ι.addM n r) :=
  ⟨⟨addM_le h hv, fun b e' y hy => .inl ⟨b, e', y, hy, rfl⟩, fun b y hy => by
    have hy : (if b = n then some r else ι.mp b) = some y := hy
    split at hy
    · injection hy with hy; subst hy; exact .inr hx
    · exact .inl hy⟩, rfl⟩
theorem alloc_row {n cap sz nc : Nat} {l : AV} {vs : List Value} {arr : Array Value} {ty : TypeId} {fz : Nat × Nat} (hR : Rel ι g w) (hn : g n = none) (hl : toT ι l = some vs) (hc : vs.all isCell = true) (ha : ∀ (j : Nat) v, vs[j]? = some v → arr[j]? = some v)
    (hs : arr.size = cap * sz) (hnc : vs.length ≤ nc) (hfz : ∀ k, k < arr.size → (decide (fz.1 ≤ k) && decide (k < fz.2)) = false) :
    Rel (ι.addB n 0 (w.heap.size, cap, sz)) (upd g n (.row sz (fillC 0 l 0 .leaf) nc 0)) (w.alloc (.cells arr ty fz)) ∧ Ext w.heap.size ι (ι.addB n 0 (w.heap.size, cap, sz)) ∧ Frm ι w (w.alloc (.cells arr ty fz)) := by
  obtain ⟨hm, hb, hv⟩ := hR.non n hn
  have hle : ι.le (ι.addB n 0 (w.heap.size, cap, sz)) := addB_le (hb 0)
  refine ⟨⟨?_, ?_, ?_, ?_, hR.argKeep (frm_push _) (ext_addB (hb 0) (Nat.le_refl _)).toExtC⟩, ext_addB (hb 0) (Nat.le_refl _), frm_push _⟩
  · intro b ob hob
    simp only [upd] at hob
    split at hob
    · rename_i e1; subst e1
      injection hob with hob; subst hob
      refine ⟨hm, fun e he => ?_, fun k x hk => ?_, fun e he => ?_⟩
      · show (if n = n ∧ e = 0 then _ else ι.blk n e) = none
        rw [if_neg (by omega)]; exact hb e
      · rw [fillC_get] at hk
        simp only [Nat.zero_le, if_true, Nat.sub_zero, Bt.get_leaf] at hk
        split at hk
        · rename_i a hla
          have := (List.getElem?_eq_some_iff.1 hla).1
          rw [← (toT_some hl).2.1] at this
          injection hk with hk; subst hk
          exact ⟨by omega, Nat.le_refl _⟩
        · cases hk
      · obtain rfl : e = 0 := by omega
        refine ⟨w.heap.size, cap, arr, by simp [Rn.addB], ⟨ty, fz, by show (w.heap.push _)[w.heap.size]? = _; simp, hfz⟩, hs, ?_⟩
        intro k tg v hk _
        rw [fillC_get] at hk
        simp only [Nat.zero_le, if_true, Nat.sub_zero, Bt.get_leaf] at hk
        split at hk
        · rename_i a hla
          injection hk with hk; injection hk with _ hk; subst hk
          obtain ⟨V, hV, hi⟩ := (toT_some hl).2.2 _ _ hla
          refine ⟨V, toV_mono hle _ _ hV, ?_, ha _ _ hi⟩
          simp only [List.all_eq_true] at hc
          exact hc V (List.mem_of_getElem? hi)
        · cases hk
    · rename_i e1
      exact objOk_push hle (fun e => by show (if b = n ∧ e = 0 then _ else ι.blk b e) = _; rw [if_neg (by rintro ⟨h, _⟩; exact e1 h.symm)]) rfl (fun _ => rfl) (hR.obj b ob hob)
  · intro b hbn
    simp only [upd] at hbn
    split at hbn
    · cases hbn
    · rename_i e1
      obtain ⟨h1, h2, h3⟩ := hR.non b hbn
      exact ⟨h1, fun e => by show (if b = n ∧ e = 0 then _ else ι.blk b e) = none; rw [if_neg (by rintro ⟨h, _⟩; exact e1 h.symm)]; exact h2 e, h3⟩
  · intro b e b' e' x x' hx hx' he
    have hx : (if b = n ∧ e = 0 then some (w.heap.size, cap, sz) else ι.blk b e) = some x := hx
    have hx' : (if b' = n ∧ e' = 0 then some (w.heap.size, cap, sz) else ι.blk b' e') = some x' := hx'
    split at hx <;> split at hx'
    · rename_i h1 h2; rw [h1.1, h2.1]
    · injection hx with hx; subst hx
      have := blk_lt hR hx'; simp only at he; omega
    · injection hx' with hx'; subst hx'
      have := blk_lt hR hx; simp only at he; omega
    · exact hR.inj _ _ _ _ _ _ hx hx' he
  · exact hR.injm
theorem alloc_map {n : Nat} (hR : Rel ι g w) (hn : g n = none) :
    Rel (ι.addM n w.heap.size) (upd g n (.mp .nil 0)) (w.alloc (.map #[] 0)) ∧ Ext w.heap.size ι (ι.addM n w.heap.size) ∧ Frm ι w (w.alloc (.map #[] 0)) := by
  obtain ⟨hm, hb, hv⟩ := hR.non n hn
  have hle : ι.le (ι.addM n w.heap.size) := addM_le hm hv
  refine ⟨⟨?_, ?_, ?_, ?_, hR.argKeep (frm_push _) (ext_addM hm hv (Nat.le_refl _)).toExtC⟩, ext_addM hm hv (Nat.le_refl _), frm_push _⟩
  · intro b ob hob
    simp only [upd] at hob
    split at hob
    · rename_i e1; subst e1
      injection hob with hob; subst hob
      exact ⟨hb, fun v hv0 => by simp [Rn.addM, hv v]; omega, w.heap.size, #[], 0, by simp [Rn.addM], ⟨by simp [Rn.addM], ⟨by simp, by simp⟩⟩, by show (w.heap.push _)[w.heap.size]? = _; simp, rfl⟩
    · rename_i e1
      exact objOk_push hle (fun e => rfl) (by show (if b = n then _ else ι.mp b) = _; rw [if_neg (fun h => e1 h.symm)]) (fun v => by show (if b = n ∧ v = 0 then _ else ι.mpv b v) = _; rw [if_neg (fun h => e1 h.1.symm)]) (hR.obj b ob hob)
  · intro b hbn
    simp only [upd] at hbn
    split at hbn
    · cases hbn
    · rename_i e1
      obtain ⟨h1, h2, h3⟩ := hR.non b hbn
      exact ⟨by show (if b = n then _ else ι.mp b) = none; rw [if_neg (fun h => e1 h.symm)]; exact h1, h2, fun v => by show (if b = n ∧ v = 0 then _ else ι.mpv b v) = none; rw [if_neg (fun h => e1 h.1.symm)]; exact h3 v⟩
  · exact hR.inj
  · intro b b' rr h1 h2
    have h1 : (if b = n then some w.heap.size else ι.mp b) = some rr := h1
    have h2 : (if b' = n then some w.heap.size else ι.mp b') = some rr := h2
    split at h1 <;> split at h2
    · rename_i e1 e2; rw [e1, e2]
    · injection h1 with h1; subst h1; have := mp_lt hR h2; omega
    · injection h2 with h2; subst h2; have := mp_lt hR h1; omega
    · exact hR.injm _ _ _ h1 h2
end Ev
namespace Ev
open Go
variable [Told] [TokV] [ToldOK]
variable {ι : Rn} {P : Program} {w : World} {o : Oper} {r : Out} {t : TypeId} {ac : Act} {g : G}
structure Same (rb : Nat) (w w' : World) : Prop where
  os : w'.os = w.os
  tape : w'.tape = w.tape
  output : w'.output = w.output
  size : w'.heap.size = w.heap.size
  other : ∀ r, r ≠ rb → w'.heap[r]? = w.heap[r]?
theorem setCell_row {rb off : Nat} {cs : Array Value} {v : Value} (h : RowAt w rb cs) : RowAt (w.setCell ⟨rb, off, none⟩ v) rb (cs.setIfInBounds off v) ∧ Same rb w (w.setCell ⟨rb, off, none⟩ v) := by
  obtain ⟨ty, fz, h1, h2⟩ := h
  refine ⟨⟨ty, fz, ?_, by simpa using h2⟩, rfl, rfl, rfl, by simp [World.setCell], fun r hr => ?_⟩
  · simp only [World.setCell, Array.getElem?_modify, if_true, h1, Option.map_some]
    rfl
  · simp only [World.setCell, Array.getElem?_modify]
    rw [if_neg (fun e => hr e.symm)]
theorem setCells_row {rb : Nat} : ∀ (vs : List Value) (off : Nat) (w : World) (cs : Array Value), RowAt w rb cs → off + vs.length ≤ cs.size →
    ∃ cs', RowAt (w.setCells rb off vs) rb cs' ∧ cs'.size = cs.size ∧ (∀ k, cs'[k]? = if off ≤ k then (match vs[k - off]? with | some v => some v | none => cs[k]?) else cs[k]?) ∧ Same rb w (w.setCells rb off vs)
  | [], off, w, cs, h, _ => ⟨cs, h, rfl, fun k => by simp, rfl, rfl, rfl, rfl, fun _ _ => rfl⟩
  | v :: vs, off, w, cs, h, hl => by
    simp only [List.length_cons] at hl
    obtain ⟨h1, h2⟩ := setCell_row (off := off) (v := v) h
    obtain ⟨cs', h3, h4, h5, h6⟩ := setCells_row vs (off + 1) _ _ h1 (by simp; omega)
    refine ⟨cs', h3, by simpa using h4, fun k => ?_, ⟨h6.os.trans h2.os, h6.tape.trans h2.tape, h6.output.trans h2.output, h6.size.trans h2.size, fun r hr => (h6.other r hr).trans (h2.other r hr)⟩⟩
    rw [h5]
    by_cases h7 : off + 1 ≤ k
    · have h8 : off ≤ k := by omega
      have h9 : k - off = (k - (off + 1)) + 1 := by omega
      rw [if_pos h7, if_pos h8, h9]
      simp only [List.getElem?_cons_succ]
      cases vs[k - (off + 1)]? with
      | some a => rfl
      | none => simp only; rw [Array.getElem?_setIfInBounds_ne (by omega)]
    · rw [if_neg h7]
      by_cases h8 : off = k
      · subst h8
        rw [if_pos (Nat.le_refl _), Nat.sub_self]
        simp only [List.getElem?_cons_zero]
        rw [Array.getElem?_setIfInBounds_self_of_lt (by omega)]
      · rw [if_neg (by omega), Array.getElem?_setIfInBounds_ne (by omega)]
theorem frm_same {b e : Nat} {z : Nat × Nat × Nat} {w' : World} (hz : ι.blk b e = some z) (h : Same z.1 w w') : Frm ι w w' :=
  ⟨h.os, h.tape, h.output, Nat.le_of_eq h.size.symm, fun rb _ h1 _ => h.other rb (fun e' => h1 b e z hz e'.symm)⟩
theorem frm_sameM {b rr : Nat} {w' : World} (hz : ι.mp b = some rr) (h : Same rr w w') : Frm ι w w' :=
  ⟨h.os, h.tape, h.output, Nat.le_of_eq h.size.symm, fun rb _ _ h2 => h.other rb (fun e' => h2 b rr hz e'.symm)⟩
theorem store_sem {b ep off sz nc : Nat} {c c' : Bt Cell} {l : AV} {vs : List Value} {z : Nat × Nat × Nat} (hR : Rel ι g w) (hg : g b = some (.row sz c nc ep)) (hz : ι.blk b ep = some z) (hl : toT ι l = some vs) (hc : vs.all isCell = true)
    (hin : ∀ j, j < (toL l).length → (c.get (off + j)).isSome = true)
    (hc' : ∀ j, c'.get j = if off ≤ j then (match (toL l)[j - off]? with | some a => some ⟨ep, a⟩ | none => c.get j) else c.get j) :
    (storeCells ⟨z.1, off, none⟩ vs).run P w = .ok () (w.setCells z.1 off vs) ∧ Rel ι (upd g b (.row sz c' nc ep)) (w.setCells z.1 off vs) ∧ Frm ι w (w.setCells z.1 off vs) := by
  obtain ⟨cs, hsz, _, hra, hcs, hce⟩ := row_at hR hg hz
  have htag : ∀ k x, c.get k = some x → x.tag ≤ ep := fun k x hx => ((hR.obj _ _ hg).2.2.1 k x hx).2
  have hlen := (toT_some hl).2.1
  have hlt : ∀ j, j < vs.length → off + j < cs.size := by
    intro j hj
    obtain ⟨x, hx⟩ := Option.isSome_iff_exists.1 (hin j (by omega))
    obtain ⟨V, _, _, hV⟩ := hce _ x.tag x.v (by rw [hx]) (htag _ _ hx)
    exact (Array.getElem?_eq_some_iff.1 hV).1
  have hle : off + vs.length ≤ cs.size ∨ vs.length = 0 := by
    rcases Nat.eq_zero_or_pos vs.length with h | h
    · exact .inr h
    · have := hlt (vs.length - 1) (by omega); left; omega
  have main : off + vs.length ≤ cs.size ∨ vs = [] := by
    rcases hle with h | h
    · exact .inl h
    · exact .inr (List.length_eq_zero_iff.1 h)
  refine ⟨?_, ?_⟩
  · have := run_storeCells_cells (P := P) z.1 off vs 0 w (fun j hj => by
        rw [Nat.add_zero, cell?_row hra]; simp [hlt j hj]) (fun j hj => by
        obtain ⟨ty, fz, h1, h2⟩ := hra
        have := h2 (off + j) (hlt j hj)
        simp only [World.frozen?, h1, Nat.add_zero]
        exact this) (fun v hv => by
        simp only [List.all_eq_true] at hc
        have := hc v hv
        cases v <;> first | rfl | simp [isCell] at this)
    simpa using this
  · rcases main with hle | rfl
    · obtain ⟨cs', h1, h2, h3, h4⟩ := setCells_row vs off w cs hra hle
      refine ⟨⟨?_, ?_, hR.inj, hR.injm, hR.argKeep (frm_same hz h4) (.refl _ _)⟩, frm_same hz h4⟩
      · intro b' ob hob
        simp only [upd] at hob
        split at hob
        · rename_i e1; subst e1
          injection hob with hob; subst hob
          obtain ⟨g1, g2, g3, g4⟩ := hR.obj b _ hg
          refine ⟨g1, g2, fun k x hk => ?_, fun e he => ?_⟩
          · rw [hc'] at hk
            split at hk
            · rename_i h5
              split at hk
              · rename_i a ha
                have := (List.getElem?_eq_some_iff.1 ha).1
                obtain ⟨y, hy⟩ := Option.isSome_iff_exists.1 (hin (k - off) this)
                rw [show off + (k - off) = k by omega] at hy
                injection hk with hk; subst hk
                exact ⟨(g3 k y hy).1, Nat.le_refl _⟩
              · exact g3 k x hk
            · exact g3 k x hk
          · obtain ⟨rb, cap, cs0, k1, k2, k3, k4⟩ := g4 e he
            by_cases hrb : rb = z.1
            · subst hrb
              -- the same row of the world
              have : cs0 = cs := by
                obtain ⟨ty, fz, q1, _⟩ := k2
                obtain ⟨ty', fz', q2, _⟩ := hra
                rw [q1] at q2; injection q2 with q2; injection q2
              subst this
              refine ⟨z.1, cap, cs', k1, h1, by rw [h2]; exact k3, fun k tg v hk ht => ?_⟩
              rw [hc'] at hk
              rw [h3]
              split at hk
              · rename_i h5
                split at hk
                · rename_i a ha
                  injection hk with hk; injection hk with hk1 hk2; subst hk2
                  obtain ⟨V, hV, hi⟩ := (toT_some hl).2.2 _ _ ha
                  simp only [List.all_eq_true] at hc
                  exact ⟨V, hV, hc V (List.mem_of_getElem? hi), by rw [if_pos h5, hi]⟩
                · rename_i ha
                  obtain ⟨V, hV, hvc, hi⟩ := k4 k tg v hk ht
                  refine ⟨V, hV, hvc, ?_⟩
                  have : vs[k - off]? = none := by
                    rw [List.getElem?_eq_none_iff] at ha ⊢; omega
                  rw [if_pos h5, this]; exact hi
              · rename_i h5
                obtain ⟨V, hV, hvc, hi⟩ := k4 k tg v hk ht
                exact ⟨V, hV, hvc, by rw [if_neg h5]; exact hi⟩
            · -- another row: an older epoch's
              refine ⟨rb, cap, cs0, k1, ?_, k3, fun k tg v hk ht => ?_⟩
              · obtain ⟨ty, fz, q1, q2⟩ := k2
                exact ⟨ty, fz, by rw [h4.other rb hrb]; exact q1, q2⟩
              · have hne : e ≠ ep := by
                  intro e1; subst e1
                  rw [k1] at hz; injection hz with hz; subst hz; exact hrb rfl
                rw [hc'] at hk
                split at hk
                · split at hk
                  · injection hk with hk; injection hk with hk1 hk2; omega
                  · exact k4 k tg v hk ht
                · exact k4 k tg v hk ht
        · rename_i e1
          have hob' := hR.obj b' ob hob
          cases ob with
          | row sz' c0 n0 ep0 =>
            obtain ⟨g1, g2, g3, g4⟩ := hob'
            refine ⟨g1, g2, g3, fun e he => ?_⟩
            obtain ⟨rb, cap, cs0, k1, ⟨ty, fz, q1, q2⟩, k3, k4⟩ := g4 e he
            have : rb ≠ z.1 := fun e2 => e1 (hR.inj b ep b' e z _ hz k1 e2.symm)
            exact ⟨rb, cap, cs0, k1, ⟨ty, fz, by rw [h4.other rb this]; exact q1, q2⟩, k3, k4⟩
          | mp es ver =>
            obtain ⟨g1, g1v, rr, ents, clock, g2, g2v, g3, g4⟩ := hob'
            have : rr ≠ z.1 := fun e2 => mp_blk hR g2 hz e2.symm
            exact ⟨g1, g1v, rr, ents, clock, g2, g2v, by rw [h4.other rr this]; exact g3, g4⟩
      · intro b' hb'
        simp only [upd] at hb'
        split at hb'
        · cases hb'
        · exact hR.non b' hb'
    · -- nothing is stored
      have e0 : toL l = [] := by
        have : (toL l).length = 0 := by simpa using hlen.symm
        exact List.length_eq_zero_iff.1 this
      have ec : ∀ j, c'.get j = c.get j := fun j => by rw [hc', e0]; simp
      have key : ∀ e, CellsOk ι e c' = CellsOk ι e c := fun e => by funext cs; simp only [CellsOk, ec]
      refine ⟨⟨?_, ?_, hR.inj, hR.injm, hR.arg⟩, Frm.refl _ _⟩
      · intro b' ob hob
        simp only [upd] at hob
        split at hob
        · rename_i e1; subst e1
          injection hob with hob; subst hob
          obtain ⟨g1, g2, g3, g4⟩ := hR.obj b _ hg
          refine ⟨g1, g2, fun k x hk => g3 k x (by rw [← ec]; exact hk), fun e he => ?_⟩
          rw [key]; exact g4 e he
        · exact hR.obj b' ob hob
      · intro b' hb'
        simp only [upd] at hb'
        split at hb'
        · cases hb'
        · exact hR.non b' hb'
end Ev
namespace Ev
open Go
variable [Told] [TokV] [ToldOK]
variable {ι : Rn} {P : Program} {w : World} {o : Oper} {r : Out} {t : TypeId} {ac : Act} {g : G} {l e : T AV} {th : H} {v x y : AV} {n : Nat} {k : KH}
def OkA (ι : Rn) (g : G) (P : Program) (w : World) (ρ : Operand → Value) (o : Oper) (th : H) (n : Nat) (k : KH) (r : Out) : Prop :=
  ∃ v ob, k v (th.set ob n) (n + 1) = r ∧ ∃ V w' ι', (execOp ρ o).run P w = .ok (.value V) w' ∧ toV ι' v = some V ∧ Rel ι' (upd g n ob) w' ∧ Ext w.heap.size ι ι' ∧ Frm ι w w'
theorem newRow_eq (sz : Nat) (l : AV) (nc : Nat) (t : H) (n : Nat) (k : H → Nat → Out) : newRow sz l nc t n k = k (t.set (.row sz (fillC 0 l 0 .leaf) nc 0) n) (n + 1) := by
  unfold newRow
  rw [Bt.seq_eq, forceN_eq, hset_eq, forceN_eq]
theorem okA_row {sz nc cap : Nat} {l : AV} {vs : List Value} {arr : Array Value} {ty : TypeId} {v : AV} {V : Value} (hR : Rel ι g w) (hn : g n = none) (hl : toT ι l = some vs) (hc : vs.all isCell = true) (ha : ∀ (j : Nat) u, vs[j]? = some u → arr[j]? = some u)
    (hs : arr.size = cap * sz) (hnc : vs.length ≤ nc) (hv : ∀ ι' : Rn, ι'.blk n 0 = some (w.heap.size, cap, sz) → toV ι' v = some V) (hrun : (execOp ac.eval o).run P w = .ok (.value V) (w.alloc (.cells arr ty)))
    (h : k v (th.set (.row sz (fillC 0 l 0 .leaf) nc 0) n) (n + 1) = r) : OkA ι g P w ac.eval o th n k r := by
  obtain ⟨h1, h2, h3⟩ := alloc_row (ty := ty) (fz := (0, 0)) hR hn hl hc ha hs hnc (fun k _ => by simp)
  exact ⟨_, _, h, V, _, _, hrun, hv _ (by simp [Rn.addB]), h1, h2, h3⟩
theorem okBox {A : Operand} {ty : TypeId} (ho : o.op = .box ty A) (hR : Rel ι g w) (hn : g n = none) (hr : NE r) (hv : toV ι v = some (ac.eval A)) (h : pBox v th n k = r) : OkA ι g P w ac.eval o th n k r := by
  obtain ⟨l, hl, hc, h1⟩ := cellsK_ok h hr hv
  rw [newRow_eq] at h1
  have hlen := toT_length hl
  refine okA_row (cap := 1) (arr := (ac.eval A).cells) (ty := ty) hR hn hl hc (fun j u hu => by simpa using hu) ?_ (by rw [hlen]; exact Nat.le_refl _) (fun ι' hb => toV_ptr hb 0 0) ?_ h1
  · rw [hlen]; simp
  · unfold execOp; rw [ho]
    simp [Instr.box, newVar, Go.newRow]
theorem okAlloc {z : AV} {ty : TypeId} (ho : o.op = .alloc ty) (hz : zeroOf P ty = some z) (hR : Rel ι g w) (hn : g n = none) (hr : NE r) (h : pBox z th n k = r) : OkA ι g P w ac.eval o th n k r := by
  obtain ⟨V, hV, _, hzV⟩ := run_zeroOf (w := w) ι hz
  obtain ⟨l, hl, hc, h1⟩ := cellsK_ok h hr hzV
  rw [newRow_eq] at h1
  have hlen := toT_length hl
  refine okA_row (cap := 1) (arr := V.cells) (ty := ty) hR hn hl hc (fun j u hu => by simpa using hu) ?_ (by rw [hlen]; exact Nat.le_refl _) (fun ι' hb => toV_ptr hb 0 0) ?_ h1
  · rw [hlen]; simp
  · unfold execOp; rw [ho]
    simp [Instr.alloc, hV, newVar, Go.newRow]
theorem okMkMap {ty : TypeId} (ho : o.op = .makeMap ty none) (hR : Rel ι g w) (hn : g n = none) (h : pMkMap th n k = r) : OkA ι g P w ac.eval o th n k r := by
  unfold pMkMap at h
  rw [hset_eq, forceN_eq] at h
  obtain ⟨h1, h2, h3⟩ := alloc_map hR hn
  refine ⟨_, _, h, .map (some w.heap.size), _, _, ?_, ?_, h1, h2, h3⟩
  · unfold execOp; rw [ho]
    simp [Instr.makeMap]
  · simp [toV, refV, Rn.addM]
theorem rep2_eq (z : AV) : ∀ n, rep2 z n = lrep z n
  | 0 => rfl
  | n + 1 => by
    show app2 z (rep2 z n) = lapp z (lrep z n)
    rw [rep2_eq z n]
    have : ∀ a b : AV, app2 a b = lapp a b := by
      intro a
      induction a with
      | cons x r _ ih => intro b; show AV.cons x (app2 r b) = .cons x (lapp r b); rw [ih]
      | _ => intro b; rfl
    exact this _ _
theorem toT_lrep {z : AV} {zs : List Value} (hz : toT ι z = some zs) : ∀ n, toT ι (lrep z n) = some (List.replicate n zs).flatten
  | 0 => by simp [lrep, toT]
  | n + 1 => by
    show toT ι (lapp z (lrep z n)) = _
    rw [toT_append hz (toT_lrep hz n), List.replicate_succ, List.flatten_cons]
theorem rep_get {zs : List Value} (h0 : 0 < zs.length) : ∀ (n j : Nat), j < n * zs.length → (List.replicate n zs).flatten[j]? = zs[j % zs.length]?
  | 0, j, h => by omega
  | n + 1, j, h => by
    rw [List.replicate_succ, List.flatten_cons]
    by_cases hj : j < zs.length
    · rw [List.getElem?_append_left hj, Nat.mod_eq_of_lt hj]
    · rw [List.getElem?_append_right (by omega), rep_get h0 n (j - zs.length) (by rw [Nat.succ_mul] at h; omega)]
      congr 1
      rw [Nat.mod_eq_sub_mod (a := j) (by omega)]
theorem rep_len {zs : List Value} (n : Nat) : (List.replicate n zs).flatten.length = n * zs.length := by
  simp [List.length_flatten]
theorem rep_all {zs : List Value} (h : zs.all isCell = true) (n : Nat) : (List.replicate n zs).flatten.all isCell = true := by
  simp only [List.all_eq_true, List.mem_flatten, List.mem_replicate] at h ⊢
  rintro x ⟨l, ⟨_, rfl⟩, hx⟩; exact h x hx
theorem zero_arr {zs : Array Value} (h0 : 0 < zs.size) (n sz : Nat) (hz : zs.size = sz) : (Array.range (n * sz)).map (fun i => zs[i % zs.size]!) = ((List.replicate n zs.toList).flatten).toArray := by
  apply Array.ext'
  apply List.ext_getElem?
  intro j
  simp only [Array.toList_map, Array.toList_range, List.getElem?_map, List.getElem?_range]
  by_cases hj : j < n * sz
  · rw [List.getElem?_range hj, rep_get (by simpa using h0) n j (by simpa [hz] using hj)]
    simp only [Option.map_some, Array.length_toList]
    have : j % zs.size < zs.size := Nat.mod_lt _ h0
    rw [Array.getElem?_toList, Array.getElem?_eq_getElem this, getElem!_pos zs _ this]
  · rw [List.getElem?_eq_none (by simpa using Nat.le_of_not_lt hj), List.getElem?_eq_none (by rw [rep_len]; simp [hz]; omega)]
    rfl
theorem okMkSl {A B : Operand} {el : TypeId} {sz bytes : Nat} {z a b : AV} (ho : o.op = .makeSlice t A B) (hu : P.underlying t = some (.slice el)) (hs : szOf P el = some sz) (hb : byOf P el = some bytes) (hz : zcOf P el = some z) (hz0 : lenA z = sz) (hsz : sz ≠ 0) (hby : bytes ≠ 0)
    (hR : Rel ι g w) (hn : g n = none) (hr : NE r) (ha : toV ι a = some (ac.eval A)) (hbv : toV ι b = some (ac.eval B)) (h : pMkSl sz bytes z a b th n k = r) : OkA ι g P w ac.eval o th n k r := by
  obtain ⟨q, ln, hq, hA, h1⟩ := nat_val h hr ha
  obtain ⟨q', cp, hq', hB, h2⟩ := nat_val h1 hr hbv
  obtain ⟨h3, h4⟩ := bO_inv h2 hr
  obtain ⟨h5, h6⟩ := bO_inv h4 hr
  rw [newRow_eq] at h6
  have h3 := Nat.le_of_ble_eq_true h3
  have h5 : cp * bytes ≤ 1048576 := Nat.le_of_ble_eq_true h5
  obtain ⟨i, V, hi, hV, hzt, hza⟩ := zcOf_ok ι hz
  have hbi : i.bytes = bytes := by simpa [byOf, hi] using hb
  have hsi : i.size = sz := by simpa [szOf, hi] using hs
  have hzl : V.cells.size = sz := by
    rw [lenA_eq, toT_length hzt] at hz0; simpa using hz0
  have hlrep := toT_lrep hzt cp
  have hcp : cp ≤ 1048576 := by
    have := Nat.le_mul_of_pos_right cp (Nat.pos_of_ne_zero hby); omega
  have hlen : (List.replicate cp V.cells.toList).flatten.length = cp * sz := by rw [rep_len]; simp [hzl]
  refine okA_row (cap := cp) (arr := ((List.replicate cp V.cells.toList).flatten).toArray) (ty := el) (V := .slice (some ⟨w.heap.size, 0, none⟩) ln cp) hR hn hlrep (rep_all hza cp) (fun j u hu => by simpa using hu) (by simpa using hlen) (by rw [hlen]; exact Nat.le_refl _) (fun ι' hb => by simp [toV, refV, hb]) ?_ h6
  unfold execOp; rw [ho]
  have harr := zero_arr (zs := V.cells) (by omega) cp sz hzl
  have hm := run_make (P := P) w t el i V hu hi hV (kind q) (kind q') ln cp (by omega) (by omega) (by rw [hbi, ← Int.natCast_mul, Nat.mul_comm]; omega) (by omega)
  simp only [Int.toNat_natCast, madeCells, hsi, harr] at hm
  dsimp only
  rw [hA, hB]
  simp [hm]
theorem zero_arr0 {zs : Array Value} (n sz : Nat) (hz : zs.size = sz) (hs : sz ≠ 0) : (Array.range (n * sz)).map (zs[· % zs.size]!) = ((List.replicate n zs.toList).flatten).toArray := zero_arr (by omega) n sz hz
theorem okRowSl {PS : Array (Nat × Operand)} {ps : List (Nat × Nat × Opd)} {el : TypeId} {sz ln : Nat} {z : AV} (ho : o.op = .buildSlice t ln PS) (hu : P.underlying t = some (.slice el)) (hs : szOf P el = some sz) (hz : zcOf P el = some z) (hz0 : lenA z = sz) (hsz : sz ≠ 0) (hsm : ln * sz ≤ 4096)
    (hp : cParts (fun i => some (i * sz, sz)) PS.toList = some ps) (hl : TR ι l ac.tmps) (he : TR ι e ac.tmps) (hR : Rel ι g w) (hn : g n = none) (hr : NE r)
    (h : denParts l e ps (rep2 z ln) (fun r => pRowSl sz ln r th n k) = r) : OkA ι g P w ac.eval o th n k r := by
  obtain ⟨i, V, hi, hV, hzt, hza⟩ := zcOf_ok ι hz
  have hsi : i.size = sz := by simpa [szOf, hi] using hs
  have hzl : V.cells.size = sz := by
    rw [lenA_eq, toT_length hzt] at hz0; simpa using hz0
  have hlrep := toT_lrep hzt ln
  rw [← rep2_eq] at hlrep
  obtain ⟨z', zs', g1, g2, g3, g4, g5⟩ := parts_inv hl he hr hp hlrep (rep_all hza ln) h
  obtain ⟨h1, h2⟩ := bO_inv g5 hr
  rw [newRow_eq] at h2
  have hlen : zs'.length = ln * sz := by rw [g3, rep_len]; simp [hzl]
  refine okA_row (cap := ln) (arr := zs'.toArray) (ty := el) (V := .slice (some ⟨w.heap.size, 0, none⟩) ln ln) hR hn g1 g2 (fun j u hu => by simpa using hu) (by simpa using hlen) (by rw [toT_length g1]; exact Nat.le_refl _) (fun ι' hb => by simp [toV, refV, hb]) ?_ h2
  unfold execOp; rw [ho]
  have hfill : Instr.fill (fun i_1 => some (i_1 * i.size, i.size)) ((Array.range (ln * i.size)).map (V.cells[· % V.cells.size]!)) (PS.map fun (i, x) => (i, ac.eval x)).toList = some zs'.toArray := by
    rw [hsi, zero_arr0 ln sz hzl hsz]
    simpa using g4
  by_cases h0 : ln = 0
  · subst h0
    have e0 : zs' = [] := List.length_eq_zero_iff.1 (by simpa using hlen)
    subst e0
    simp only [Nat.zero_mul] at hfill
    have hsr := run_szOf (w := w) hs
    have hf2 : Instr.fill (fun i => some (i * sz, sz)) ((Array.range 0).map (fun x => (#[] : Array Value)[x % (#[] : Array Value).size]!)) (PS.map fun (i, x) => (i, ac.eval x)).toList = some #[] := by
      rw [← hsi, ← hfill]; congr 1; simp
    simp only [Instr.buildSlice, Sem.run_bind, run_underlying hu, Result.andThen_ok, hsr, Nat.zero_mul]
    simp only [show ¬ (0 : Nat) > 2 ^ 24 by omega, if_false, if_true, Sem.run_bind, Sem.run_pure, Result.andThen_ok, hf2]
    rfl
  · have hpos : ¬ ln * i.size = 0 := by rw [hsi]; intro h; rcases Nat.mul_eq_zero.1 h with h | h; exact h0 h; exact hsz h
    have hm := run_buildSlice (P := P) w t el ln (PS.map fun (i, x) => (i, ac.eval x)) zs'.toArray i V hu hi hV (by rw [hsi]; omega) hpos hfill
    simp [hm]
end Ev
namespace Ev
open Go
variable [Told] [TokV] [ToldOK]
variable {ι : Rn} {P : Program} {w : World} {o : Oper} {r : Out} {t : TypeId} {ac : Act} {g : G} {l e : T AV} {th : H} {v x y : AV} {n : Nat} {k : KH} {KK : G}
theorem Rel.drew (hR : Rel ι g w) : Rel ι g w.drew := ⟨hR.obj, hR.non, hR.inj, hR.injm, hR.arg⟩
theorem Frm.drew : Frm ι w w.drew := ⟨rfl, rfl, rfl, Nat.le_refl _, fun _ _ _ _ => rfl⟩
theorem Frm.of_drew {w' : World} (h : Frm ι w.drew w') : Frm ι w w' := ⟨h.os, h.tape, h.output, h.size, h.block⟩
theorem toT_strL : ∀ (s : List Nat), (∀ c ∈ s, c < 256) → toT ι (strL s) = some (byteCells (sbytes s)) := by
  intro s hs
  have key : ∀ s : List Nat, (∀ c ∈ s, c < 256) → toT ι (strL s) = some (s.map fun c : Nat => Value.int .u8 (c : Int)) := by
    intro s
    induction s with
    | nil => intro _; rfl
    | cons c s ih =>
      intro hs
      show toT ι (.cons (.num 4 (Int.ofNat c)) (strL s)) = _
      simp only [toT, ih (fun c hc => hs c (.tail _ hc)), toV_int (show 4 < 8 by omega), Option.bind_some, Option.map_some, List.map_cons]
      rfl
  rw [key s hs]
  congr 1
  simp only [byteCells, sbytes, List.map_map]
  apply List.map_congr_left
  intro c hc
  have := hs c hc
  simp only [Function.comp, UInt8.toNat_ofNat']
  congr 2
  omega
theorem strL_cells (s : List Nat) : (byteCells (sbytes s)).all isCell = true := by
  simp only [byteCells, List.all_map, List.all_eq_true]
  intro c _; rfl
theorem okS2B {S D el : TypeId} {A : Operand} (ho : o.op = .convert S D A) (hS : P.underlying S = some .string) (hD : P.underlying D = some (.slice el)) (hel : P.underlying el = some (.int .u8)) (hR : Rel ι g w) (hn : g n = none) (hr : NE r)
    (hv : toV ι v = some (ac.eval A)) (h : pS2B v th n k = r) : OkA ι g P w ac.eval o th n k r := by
  obtain ⟨s, hA, hs, h1⟩ := str_val h hr hv
  rw [newRow_eq] at h1
  have hl := toT_strL (ι := ι) s hs
  have hlen : (byteCells (sbytes s)).length = s.length := by rw [byteCells_length, sbytes_size]
  generalize hcap : grownCap w s.length 0 el = cap at *
  have hcle : s.length ≤ cap := by
    exact hcap ▸ Nat.le_add_right _ _
  have hasz : ((byteCells (sbytes s)).toArray ++ Array.replicate (cap - s.length) (Value.int .u8 0)).size = cap := by simp [hlen]; omega
  obtain ⟨g1, g2, g3⟩ := alloc_row (ty := el) (fz := (cap, cap + 1)) (cap := cap) (sz := 1) (nc := s.length) (arr := (byteCells (sbytes s)).toArray ++ Array.replicate (cap - s.length) (Value.int .u8 0)) hR.drew hn hl (strL_cells s) (fun j u hu => by
      have hlt := (List.getElem?_eq_some_iff.1 hu).1
      rw [Array.getElem?_append_left (by simpa using hlt)]; simpa using hu) (by rw [hasz, Nat.mul_one]) (by rw [hlen]; exact Nat.le_refl _) (fun k hk => by
      rw [hasz] at hk; simp; omega)
  refine ⟨_, _, h1, .slice (some ⟨w.heap.size, 0, none⟩) s.length cap, _, _, ?_, ?_, g1, g2, g3.of_drew⟩
  · unfold execOp; rw [ho]
    dsimp only
    rw [hA]
    have e1 : (sbytes s).data.map (fun b => Value.int .u8 b.toNat) = (byteCells (sbytes s)).toArray := by
      apply Array.ext'; simp [byteCells]
    simp only [convert, Sem.run_bind, run_underlying hS, run_underlying hD, Result.andThen_ok, run_underlying hel, Conv.stringToBytes, run_choose, Question.forced, Bool.false_eq_true, if_false, sbytes_size, e1]
    have e2 : (Question.appendCap s.length 0 el).cut (w.tape w.drawn (.appendCap s.length 0 el)) = cap := hcap
    rw [e2]
    simp only [Result.andThen_ok, Go.newRow, Sem.run_bind, run_newObj_alloc, Sem.run_pure, markStringish, run_shape]
    have e3 : ∀ ob, (w.drew.alloc ob).heap[w.heap.size]? = some ob := fun ob => by show (w.heap.push ob)[w.heap.size]? = _; simp
    have e4 : ({ w with drawn := w.drawn + 1 } : World) = w.drew := rfl
    rw [e4]
    simp only [World.shape?, e3, Sem.run_bind, run_freeze, Result.andThen_ok, Sem.run_pure, hasz]
    congr 1
    unfold World.freeze World.alloc
    simp only [Nat.one_ne_zero, if_false]
    congr 1
    apply Array.ext_getElem?
    intro j
    rw [Array.getElem?_modify]
    have e5 : w.drew.heap = w.heap := rfl
    rw [e5]
    by_cases hj : w.heap.size = j
    · subst hj; simp
    · have hj' : ¬ j = w.heap.size := fun e => hj e.symm
      rw [if_neg hj]; simp only [Array.getElem?_push, if_neg hj']
  · have : ι.blk n 0 = none := (hR.non n hn).2.1 0
    simp only [toV, refV, Rn.addB, true_and, if_true, Option.bind_some, Nat.zero_div, Nat.add_zero, hcle, Nat.sub_zero]
    rfl
def OkW (ι : Rn) (KK : G) (P : Program) (w : World) (ρ : Operand → Value) (o : Oper) (n : Nat) (k : KH) (r : Out) : Prop :=
  ∃ v t' n', k v t' n' = r ∧ n ≤ n' ∧ HT t' n' ∧ (KT KK n' → ∃ x w' ι', (execOp ρ o).run P w = .ok x w' ∧ ((x = .skip ∧ v = unit) ∨ ∃ V, x = .value V ∧ toV ι' v = some V) ∧ Post KK ι w t' ι' w')
theorem HT.set {b : Nat} {ob : AO} (h : HT th n) (hb : b < n) : HT (th.set ob b) n := fun j hj => by
  rw [M.get_set_ne _ _ _ _ (by omega)]; exact h j hj
theorem HT.lt {b : Nat} {ob : AO} (h : HT th n) (hb : th.get b = some ob) : b < n := by
  rcases Nat.lt_or_ge b n with h' | h'
  · exact h'
  · rw [h b h'] at hb; cases hb
theorem Ext.self : Ext w.heap.size ι ι := Ext.refl _ _
theorem okSt {A B : Operand} {sz : Nat} {p v : AV} (ho : o.op = .store t A B) (hs : szOf P t = some sz) (hR : Rel ι (un th KK) w) (hH : HT th n) (hr : NE r) (hp : toV ι p = some (ac.eval A)) (hv : toV ι v = some (ac.eval B))
    (h : pSt sz p v th (fun t' => k unit t' n) = r) : OkW ι KK P w ac.eval o n k r := by
  obtain ⟨l, hl, hc, h1⟩ := cellsK_ok h hr hv
  obtain ⟨h2, h3⟩ := bO_inv h1 hr
  obtain ⟨b, ep, off, z, hz, hA, h4⟩ := ptr_val h3 hr hp
  obtain ⟨sz', c, nc, e', hg, h5⟩ := withRow_inv (show withRow th b _ = r from h4) hr
  obtain ⟨h6, h7⟩ := bO_inv h5 hr
  obtain rfl := beq_nat h6
  obtain ⟨c', h8, h9, h10⟩ := storeC_inv hr h7
  rw [hset_eq] at h8
  obtain ⟨s1, s2, s3⟩ := store_sem (P := P) hR (un_get hg) hz hl hc h9 h10
  refine ⟨_, _, _, h8, Nat.le_refl _, hH.set (hH.lt hg), fun _ => ⟨.skip, _, ι, ?_, .inl ⟨rfl, rfl⟩, ⟨?_, Ext.self, s3⟩⟩⟩
  · unfold execOp; rw [ho]
    dsimp only
    have h2 : llen l = sz := beq_nat h2
    rw [toT_length hl] at h2
    have h2 : (ac.eval B).cells.size = sz := by simpa using h2
    simp [Instr.storeAt, hA, Instr.sureAddr, storeVar, run_szOf hs, h2, s1]
  · rw [un_set]; exact s2
theorem mput_inv {s : Nat} {d : TypeDesc} {q v : AV} {Q V : Value} (hd : KeyTy P s d) (hq : KeyV s q) (hQ : toV ι q = some Q) (hV : toV ι v = some V) (hr : NE r) : ∀ {es : ML} {ents : List MapEntry} {f : ML → Out} (i : Nat), MapOk ι es ents → mput q v es f = r →
    ∃ es', f es' = r ∧ ((Instr.findNow d Q ents i = some none ∧ ∀ born, MapOk ι es' (ents ++ [{ key := Q, val := V, born := born }])) ∨
      ∃ j x V0, ents[j]? = some x ∧ x.key = Q ∧ Instr.findNow d Q ents i = some (some (i + j, V0)) ∧ MapOk ι es' (ents.set j { x with key := Q, val := V })) := by
  intro es
  induction es with
  | nil => intro ents f i hm h; obtain rfl := hm; exact ⟨_, h, .inl ⟨rfl, fun born => ⟨_, [], rfl, hQ, hV, rfl⟩⟩⟩
  | cons kk vv rest ih =>
    rintro ents f i ⟨x, l', rfl, hk, hv, hm⟩ h
    obtain ⟨b, h1, h2, h2', _⟩ := eqKey_ok hd hq hQ hk hr (show eqCell q kk (fun b => bO b (f (.cons q v rest)) (mput q v rest fun r' => f (.cons kk vv r'))) = r from h)
    rcases bO_cases h2 with ⟨rfl, h3⟩ | ⟨rfl, h3⟩
    · exact ⟨_, h3, .inr ⟨0, x, x.val, rfl, (h2' rfl).symm, by simp [Instr.findNow, h1], ⟨_, l', rfl, hQ, hV, hm⟩⟩⟩
    · obtain ⟨es', h4, h5⟩ := ih (i + 1) hm h3
      refine ⟨_, h4, ?_⟩
      rcases h5 with ⟨h5, h6⟩ | ⟨j, y, V0, h5, h6, h7, h8⟩
      · exact .inl ⟨by simp [Instr.findNow, h1, h5], fun born => ⟨x, _, rfl, hk, hv, h6 born⟩⟩
      · exact .inr ⟨j + 1, y, V0, by simpa using h5, h6, by simp [Instr.findNow, h1, h7]; omega, ⟨x, _, rfl, hk, hv, h8⟩⟩
def Rn.addV (ι : Rn) (b v : Nat) (x : Array MapEntry × Nat) : Rn := { ι with mpv := fun b' v' => if b' = b ∧ v' = v then some x else ι.mpv b' v' }
theorem addV_le {b v : Nat} {x : Array MapEntry × Nat} (h : ι.mpv b v = none) : ι.le (ι.addV b v x) :=
  ⟨fun _ _ _ h => h, fun _ _ h => h, fun _ _ h => h, fun _ _ h => h, fun b' v' y hy => by
    show (if b' = b ∧ v' = v then some x else ι.mpv b' v') = some y
    split
    · rename_i hb; obtain ⟨rfl, rfl⟩ := hb; rw [h] at hy; cases hy
    · exact hy⟩
theorem ext_addV {N b v : Nat} {x : Array MapEntry × Nat} (h : ι.mpv b v = none) : Ext N ι (ι.addV b v x) :=
  ⟨⟨addV_le h, fun b e y hy => .inl ⟨b, e, y, hy, rfl⟩, fun _ _ h => .inl h⟩, rfl⟩
theorem setMap_rel {b rr ver : Nat} {es es' : ML} {ents ents' : Array MapEntry} {clock clock' : Nat} (hR : Rel ι g w) (hg : g b = some (.mp es ver)) (hb : ι.mp b = some rr) (hh : w.heap[rr]? = some (.map ents clock)) (hm : MapOk ι es' ents'.toList) (hw : Wf ents' clock') :
    Rel (ι.addV b (ver + 1) (ents', clock')) (upd g b (.mp es' (ver + 1))) { w with heap := w.heap.setIfInBounds rr (.map ents' clock') } ∧ Frm ι w { w with heap := w.heap.setIfInBounds rr (.map ents' clock') } ∧ ι.mpv b (ver + 1) = none := by
  have hlt := (Array.getElem?_eq_some_iff.1 hh).1
  have hv0 : ι.mpv b (ver + 1) = none := (hR.obj b _ hg).2.1 _ (Nat.lt_succ_self _)
  have hle : ι.le (ι.addV b (ver + 1) (ents', clock')) := addV_le hv0
  have oth : ∀ r', r' ≠ rr → (w.heap.setIfInBounds rr (.map ents' clock'))[r']? = w.heap[r']? := fun r' h => Array.getElem?_setIfInBounds_ne (fun e => h e.symm)
  refine ⟨⟨?_, ?_, hR.inj, hR.injm, hR.argKeep (frm_sameM hb ⟨rfl, rfl, rfl, by simp, oth⟩) (ext_addV hv0).toExtC⟩, frm_sameM hb ⟨rfl, rfl, rfl, by simp, oth⟩, hv0⟩
  · intro b' ob hob
    simp only [upd] at hob
    split at hob
    · rename_i e1; subst e1
      injection hob with hob; subst hob
      refine ⟨(hR.obj b _ hg).1, fun v hv => ?_, rr, ents', clock', hb, ⟨by simp [Rn.addV], hw⟩, by show (w.heap.setIfInBounds rr _)[rr]? = _; simp [hlt], MapOk.mono hle _ _ hm⟩
      show (if b = b ∧ v = ver + 1 then _ else ι.mpv b v) = none
      rw [if_neg (by omega)]; exact (hR.obj b _ hg).2.1 v (by omega)
    · rename_i e1
      have hob' := hR.obj b' ob hob
      cases ob with
      | row sz c n ep =>
        obtain ⟨g1, g2, g3, g4⟩ := hob'
        refine ⟨g1, g2, g3, fun e he => ?_⟩
        obtain ⟨rb, cap, cs0, k1, ⟨ty, fz, q1, q2⟩, k3, k4⟩ := g4 e he
        have : rb ≠ rr := mp_blk hR hb k1
        exact ⟨rb, cap, cs0, k1, ⟨ty, fz, by rw [oth rb this]; exact q1, q2⟩, k3, fun k tg v hk ht => let ⟨x, hx, hc, hi⟩ := k4 k tg v hk ht; ⟨x, toV_mono hle _ _ hx, hc, hi⟩⟩
      | mp es0 ver0 =>
        obtain ⟨g1, g1v, r2, ents2, clock2, g2, g2v, g3, g4⟩ := hob'
        have : r2 ≠ rr := fun e2 => e1 (hR.injm b b' rr hb (by rw [← e2]; exact g2))
        exact ⟨g1, fun v hv => (by show (if b' = b ∧ v = ver + 1 then _ else ι.mpv b' v) = none; rw [if_neg (fun h => e1 h.1.symm)]; exact g1v v hv), r2, ents2, clock2, g2, ⟨hle.mpv _ _ _ g2v.1, g2v.2⟩, by show (w.heap.setIfInBounds rr _)[r2]? = _; rw [oth r2 this]; exact g3, MapOk.mono hle _ _ g4⟩
  · intro b' hb'
    simp only [upd] at hb'
    split at hb'
    · cases hb'
    · rename_i e1
      obtain ⟨h1, h2, h3⟩ := hR.non b' hb'
      exact ⟨h1, h2, fun v => by show (if b' = b ∧ v = ver + 1 then _ else ι.mpv b' v) = none; rw [if_neg (fun h => e1 h.1.symm)]; exact h3 v⟩
theorem wf_push {ents : Array MapEntry} {clock : Nat} {Q V : Value} (h : Wf ents clock) : Wf (ents.push { key := Q, val := V, born := clock }) (clock + 1) := by
  refine ⟨fun x hx => ?_, ?_⟩
  · rw [Array.toList_push, List.mem_append] at hx
    rcases hx with hx | hx
    · have := h.lt x hx; omega
    · simp only [List.mem_singleton] at hx; subst hx; exact Nat.lt_succ_self _
  · rw [Array.toList_push, List.map_append, List.nodup_append]
    refine ⟨h.nd, by simp, ?_⟩
    intro a ha b hb
    simp only [List.map_cons, List.map_nil, List.mem_singleton] at hb
    subst hb
    obtain ⟨x, hx, rfl⟩ := List.mem_map.1 ha
    have := h.lt x hx
    omega
theorem wf_same {ents ents' : Array MapEntry} {clock : Nat} (h : Wf ents clock) (he : ents'.toList.map (·.born) = ents.toList.map (·.born)) : Wf ents' clock := by
  refine ⟨fun x hx => ?_, by rw [he]; exact h.nd⟩
  have : x.born ∈ ents.toList.map (·.born) := by rw [← he]; exact List.mem_map.2 ⟨x, hx, rfl⟩
  obtain ⟨y, hy, e⟩ := List.mem_map.1 this
  rw [← e]; exact h.lt y hy
theorem wf_modify {ents : Array MapEntry} {clock j : Nat} {Q V : Value} (h : Wf ents clock) : Wf (ents.modify j fun e => { e with key := Q, val := V }) clock := by
  refine wf_same h ?_
  apply List.ext_getElem?
  intro i
  rw [List.getElem?_map, List.getElem?_map, Array.getElem?_toList, Array.getElem?_toList, Array.getElem?_modify]
  by_cases hij : j = i
  · subst hij; cases ents[j]? <;> simp
  · simp [hij]
theorem wf_erase {ents : Array MapEntry} {clock j : Nat} (h : Wf ents clock) : Wf (ents.eraseIdxIfInBounds j) clock := by
  have hs : (ents.eraseIdxIfInBounds j).toList.Sublist ents.toList := by
    unfold Array.eraseIdxIfInBounds
    split
    · rw [Array.toList_eraseIdx]; exact List.eraseIdx_sublist ..
    · exact List.Sublist.refl _
  exact ⟨fun x hx => h.lt x (hs.subset hx), (hs.map _).nodup h.nd⟩
theorem okMapUpd {A B C : Operand} {kt et : TypeId} {s : Nat} {m q v : AV} (ho : o.op = .mapUpdate t A B C) (hu : P.underlying t = some (.map kt et)) (hk : okey P kt = some s) (hR : Rel ι (un th KK) w) (hH : HT th n) (hr : NE r)
    (hm : toV ι m = some (ac.eval A)) (hq : toV ι q = some (ac.eval B)) (hv : toV ι v = some (ac.eval C)) (h : pMapUpd s m q v th (fun t' => k unit t' n) = r) : OkW ι KK P w ac.eval o n k r := by
  obtain ⟨d, hkd, hd⟩ := okey_ok hk
  obtain ⟨hkv, h1⟩ := kcls_inv h hr
  obtain ⟨g, b, ep, off, l, c, rfl, h2⟩ := vref_inv h1 hr
  obtain ⟨h3, h4⟩ := bO_inv h2 hr
  obtain rfl := beq_nat h3
  obtain ⟨es, ver, hg, h5⟩ := withMap_inv h4 hr
  simp only [toV, refV, Option.map_eq_some_iff] at hm
  obtain ⟨rr, hrr, hA⟩ := hm
  obtain ⟨_, _, rr', ents, clock, h6, hmw, h7, h8⟩ := hR.obj _ _ (un_get hg)
  rw [hrr] at h6; injection h6 with h6; subst h6
  obtain ⟨es', h9, h10⟩ := mput_inv hd hkv hq hv hr 0 h8 h5
  rw [forceN_eq, hset_eq] at h9
  refine ⟨_, _, _, h9, Nat.le_refl _, hH.set (hH.lt hg), fun _ => ?_⟩
  have hgo : (getObj rr).run P w = .ok (.map ents clock) w := by simp [getObj, Sem.run, h7]
  have hck : (Instr.checkKey false 10000 kt (ac.eval B)).run P w = .ok () w := run_checkKeyM hkd hd hkv hq false
  have hso : ∀ ob, (setObj rr ob).run P w = .ok () { w with heap := w.heap.setIfInBounds rr ob } := fun ob => by simp [setObj, Sem.run, h7]
  rcases h10 with ⟨h10, h11⟩ | ⟨j, x, V0, h10, h11, h12, h13⟩
  · have hfk : (Instr.findKey kt (ac.eval B) ents.toList).run P w = .ok none w := by simp [Instr.findKey, run_underlying hkd, h10]
    obtain ⟨g1, g2, g3⟩ := setMap_rel (ents' := ents.push { key := ac.eval B, val := ac.eval C, born := clock }) (clock' := clock + 1) hR (un_get hg) hrr h7 (by rw [Array.toList_push]; exact h11 clock) (wf_push hmw.2)
    refine ⟨.skip, _, _, ?_, .inl ⟨rfl, rfl⟩, ⟨by rw [un_set]; exact g1, ext_addV g3, g2⟩⟩
    unfold execOp; rw [ho]
    dsimp only
    rw [← hA]
    simp [Instr.mapUpdate, run_underlying hu, hgo, hck, hfk, hso]
  · rw [Nat.zero_add] at h12
    have hfk : (Instr.findKey kt (ac.eval B) ents.toList).run P w = .ok (some (j, V0)) w := by simp [Instr.findKey, run_underlying hkd, h12]
    have h10' : ents[j]? = some x := by simpa using h10
    have hsb : Instr.sameBits 10000 (ac.eval B) (ac.eval B) = true := by
      match s, hkv, hd with
      | 0, hkv, _ =>
        obtain ⟨m', n', rfl, hm'⟩ := hkv
        rw [toV_int hm'] at hq; injection hq with hq
        rw [← hq]; simp [Instr.sameBits]
      | s + 2, hkv, hd =>
        obtain ⟨fs, f1, f2, e, rfl, _⟩ := hd
        exfalso
        cases hel : ents.toList with
        | nil => rw [hel] at h12; simp [Instr.findNow] at h12
        | cons x0 es0 => rw [hel] at h12; cases hev : ac.eval B <;> cases hek : x0.key <;> simp [Instr.findNow, Instr.sameNow, hev, hek] at h12
      | 1, hkv, _ =>
        obtain ⟨a, rfl⟩ := hkv
        simp only [toV] at hq
        split at hq
        · injection hq with hq; rw [← hq]; simp [Instr.sameBits, MapKept.bytes_beq]
        · cases hq
    have hkts : (Instr.keyThatStays (ac.eval B) (ac.eval B)).run P w = .ok (ac.eval B) w := by simp [Instr.keyThatStays, hsb]
    obtain ⟨g1, g2, g3⟩ := setMap_rel (ents' := ents.modify j fun e => { e with key := ac.eval B, val := ac.eval C }) (clock' := clock) hR (un_get hg) hrr h7 (by
      have : (ents.modify j fun e => { e with key := ac.eval B, val := ac.eval C }).toList = ents.toList.set j { x with key := ac.eval B, val := ac.eval C } := by
        apply List.ext_getElem?
        intro i
        rw [Array.getElem?_toList, Array.getElem?_modify, List.getElem?_set]
        by_cases hij : j = i
        · subst hij
          have hlt := (Array.getElem?_eq_some_iff.1 h10').1
          have hx := (Array.getElem?_eq_some_iff.1 h10').2
          simp [hlt, hx]
        · simp [hij]
      rw [this]; exact h13) (wf_modify hmw.2)
    refine ⟨.skip, _, _, ?_, .inl ⟨rfl, rfl⟩, ⟨by rw [un_set]; exact g1, ext_addV g3, g2⟩⟩
    unfold execOp; rw [ho]
    dsimp only
    rw [← hA]
    simp [Instr.mapUpdate, run_underlying hu, hgo, hck, hfk, h10', h11, hkts, hso]
theorem mdel_inv {s : Nat} {d : TypeDesc} {q : AV} {Q : Value} (hd : KeyTy P s d) (hq : KeyV s q) (hQ : toV ι q = some Q) (hr : NE r) : ∀ {es : ML} {ents : List MapEntry} {f : ML → Out} (i : Nat), MapOk ι es ents → mdel q es f = r →
    ∃ es', f es' = r ∧ ((Instr.findNow d Q ents i = some none ∧ MapOk ι es' ents) ∨
      ∃ j V0, j < ents.length ∧ Instr.findNow d Q ents i = some (some (i + j, V0)) ∧ MapOk ι es' (ents.eraseIdx j)) := by
  intro es
  induction es with
  | nil => intro ents f i hm h; obtain rfl := hm; exact ⟨_, h, .inl ⟨rfl, rfl⟩⟩
  | cons kk vv rest ih =>
    rintro ents f i ⟨x, l', rfl, hk, hv, hm⟩ h
    obtain ⟨b, h1, h2, _, _⟩ := eqKey_ok hd hq hQ hk hr (show eqCell q kk (fun b => bO b (f rest) (mdel q rest fun r' => f (.cons kk vv r'))) = r from h)
    rcases bO_cases h2 with ⟨rfl, h3⟩ | ⟨rfl, h3⟩
    · exact ⟨_, h3, .inr ⟨0, x.val, by simp, by simp [Instr.findNow, h1], by simpa using hm⟩⟩
    · obtain ⟨es', h4, h5⟩ := ih (i + 1) hm h3
      refine ⟨_, h4, ?_⟩
      rcases h5 with ⟨h5, h6⟩ | ⟨j, V0, h5, h7, h8⟩
      · exact .inl ⟨by simp [Instr.findNow, h1, h5], ⟨x, _, rfl, hk, hv, h6⟩⟩
      · exact .inr ⟨j + 1, V0, by simpa using h5, by simp [Instr.findNow, h1, h7]; omega, ⟨x, _, rfl, hk, hv, h8⟩⟩
theorem okMapDel {A B : Operand} {c : Call} {kt et : TypeId} {s : Nat} {m q : AV} (ho : o.op = .call c) (hcb : c.callee = .builtin .delete) (hargs : c.args.toList = [A, B]) (hty : c.argTypes[0]? = some t) (hu : P.underlying t = some (.map kt et)) (hk : okey P kt = some s) (hR : Rel ι (un th KK) w) (hH : HT th n) (hr : NE r)
    (hm : toV ι m = some (ac.eval A)) (hq : toV ι q = some (ac.eval B)) (h : pMapDel s m q th (fun t' => k unit t' n) = r) : OkW ι KK P w ac.eval o n k r := by
  obtain ⟨d, hkd, hd⟩ := okey_ok hk
  obtain ⟨hkv, h1⟩ := kcls_inv h hr
  obtain ⟨g, b, ep, off, l, c0, rfl, h2⟩ := vref_inv h1 hr
  obtain ⟨callee, args, tys⟩ := c
  obtain rfl : callee = .builtin .delete := hcb
  obtain rfl : args = #[A, B] := by apply Array.ext'; simpa using hargs
  have hck : ∀ em w', (Instr.checkKey em 10000 kt (ac.eval B)).run P w' = .ok () w' := fun em w' => run_checkKeyM hkd hd hkv hq em
  have unit_ok' : ∀ {ι : Rn}, toV ι unit = some (.tuple #[]) := by intro ι; simp [unit, toV, toT, comV]
  rcases bO_cases h2 with ⟨h3, h4⟩ | ⟨_, h4⟩
  · obtain rfl := beq_nat h3
    obtain ⟨es, ver, hg, h5⟩ := withMap_inv h4 hr
    simp only [toV, refV, Option.map_eq_some_iff] at hm
    obtain ⟨rr, hrr, hA⟩ := hm
    obtain ⟨_, _, rr', ents, clock, h6, hmw, h7, h8⟩ := hR.obj _ _ (un_get hg)
    rw [hrr] at h6; injection h6 with h6; subst h6
    obtain ⟨es', h9, h10⟩ := mdel_inv hd hkv hq hr 0 h8 h5
    rw [forceN_eq, hset_eq] at h9
    refine ⟨_, _, _, h9, Nat.le_refl _, hH.set (hH.lt hg), fun _ => ?_⟩
    have hgo : (getObj rr).run P w = .ok (.map ents clock) w := by simp [getObj, Sem.run, h7]
    have hso : ∀ ob, (setObj rr ob).run P w = .ok () { w with heap := w.heap.setIfInBounds rr ob } := fun ob => by simp [setObj, Sem.run, h7]
    rcases h10 with ⟨h10, h11⟩ | ⟨j, V0, hj, h12, h13⟩
    · have hfk : (Instr.findKey kt (ac.eval B) ents.toList).run P w = .ok none w := by simp [Instr.findKey, run_underlying hkd, h10]
      obtain ⟨g1, g2, g3⟩ := setMap_rel (ents' := ents) (clock' := clock) hR (un_get hg) hrr h7 h11 hmw.2
      refine ⟨.value (.tuple #[]), _, _, ?_, .inr ⟨_, rfl, unit_ok'⟩, ⟨by rw [un_set]; exact g1, ext_addV g3, g2⟩⟩
      unfold execOp; rw [ho]
      simp [resolve, invoke, builtin, Builtin.delete_, hty, ← hA, run_underlying hu, hgo, hck, hfk, hso]
    · rw [Nat.zero_add] at h12
      have hfk : (Instr.findKey kt (ac.eval B) ents.toList).run P w = .ok (some (j, V0)) w := by simp [Instr.findKey, run_underlying hkd, h12]
      have hj' : j < ents.size := by simpa using hj
      obtain ⟨g1, g2, g3⟩ := setMap_rel (ents' := ents.eraseIdxIfInBounds j) (clock' := clock) hR (un_get hg) hrr h7 (by
        rw [Array.eraseIdxIfInBounds, dif_pos hj', Array.toList_eraseIdx]; exact h13) (wf_erase hmw.2)
      refine ⟨.value (.tuple #[]), _, _, ?_, .inr ⟨_, rfl, unit_ok'⟩, ⟨by rw [un_set]; exact g1, ext_addV g3, g2⟩⟩
      unfold execOp; rw [ho]
      simp [resolve, invoke, builtin, Builtin.delete_, hty, ← hA, run_underlying hu, hgo, hck, hfk, hso]
  · obtain ⟨h3, h5⟩ := bO_inv h4 hr
    obtain rfl := beq_nat h3
    have hA : Value.map none = ac.eval A := by simpa [toV, refV] using hm
    refine ⟨_, _, _, h5, Nat.le_refl _, hH, fun _ => ⟨.value (.tuple #[]), _, ι, ?_, .inr ⟨_, rfl, unit_ok'⟩, .refl hR⟩⟩
    unfold execOp; rw [ho]
    simp [resolve, invoke, builtin, Builtin.delete_, hty, ← hA, run_underlying hu, hck]
theorem ixb_next {fn : Func} (hn : fn.name = "internal/bytealg.IndexByteString") (ho : fn.origin = "") : Extern.findNext fn = none := by
  unfold Extern.findNext
  rw [hn, ho]
  have h1 : Extern.allNextRows.lookup "internal/bytealg.IndexByteString" = none := by kernel_rfl
  have h2 : Extern.allNextRows.lookup "" = none := by kernel_rfl
  simp only [h1, h2]; rfl
theorem ixb_find {fn : Func} (hn : fn.name = "internal/bytealg.IndexByteString") : Extern.find fn = some Extern.BytealgIndexByte.indexByte := by
  unfold Extern.find
  rw [hn]
  have h1 : Extern.allGenericRows.lookup "internal/bytealg.IndexByteString" = none := by kernel_rfl
  have h2 : Extern.allTypedRows.lookup "internal/bytealg.IndexByteString" = none := by kernel_rfl
  have h3 : Extern.allRows.lookup "internal/bytealg.IndexByteString" = some Extern.BytealgIndexByte.indexByte := by kernel_rfl
  simp only [h1, h2, h3]; rfl
theorem findB_eq (c : Nat) (hc : c < 256) : ∀ (l : List Nat) (i : Nat), (∀ x ∈ l, x < 256) → findB c l i = if Go.Lib.indexByte (l.map fun x => UInt8.ofNat x) (UInt8.ofNat c) = -1 then -1 else Go.Lib.indexByte (l.map fun x => UInt8.ofNat x) (UInt8.ofNat c) + i
  | [], i, _ => rfl
  | x :: l, i, h => by
    show Bool.rec (motive := fun _ => Int) (findB c l (Nat.succ i)) (Int.ofNat i) (Nat.beq x c) = _
    have hx : x < 256 := h x (.head _)
    rw [List.map_cons, Go.Lib.indexByte]
    by_cases e : x = c
    · subst e
      rw [Bt.beq_true rfl]; simp
    · have e2 : (UInt8.ofNat x == UInt8.ofNat c) = false := by
        rw [beq_eq_false_iff_ne]
        intro h2
        have := congrArg UInt8.toNat h2
        simp at this; omega
      rw [Bt.beq_false e, e2]
      have := findB_eq c hc l (i + 1) (fun y hy => h y (.tail _ hy))
      have hge := Go.Lib.indexByte_ge (l.map fun x => UInt8.ofNat x) (UInt8.ofNat c)
      show findB c l (i + 1) = _
      rw [this]
      by_cases e3 : Go.Lib.indexByte (l.map fun x => UInt8.ofNat x) (UInt8.ofNat c) = -1
      · simp [e3]
      · simp only [e3, if_false, beq_iff_eq, Bool.false_eq_true]
        rw [if_neg (by omega)]; push_cast; omega
theorem okIxb {c : Call} {f : FuncId} {fn : Func} {A B : Operand} {x y : AV} (ho : o.op = .call c) (hc : c.callee = .value (.func f)) (hargs : c.args.toList = [A, B]) (hf : P.funcs[f]? = some fn) (hb : fn.body.isNone = true) (hn : fn.name = "internal/bytealg.IndexByteString") (hg : fn.origin = "") (hR : Rel ι (un th KK) w) (hH : HT th n) (hr : NE r)
    (hx : toV ι x = some (ac.eval A)) (hy : toV ι y = some (ac.eval B)) (h : pIdxByte x y (fun v => k v th n) = r) : OkW ι KK P w ac.eval o n k r := by
  obtain ⟨a, rfl, h⟩ := vstr_inv (show vstr x _ = r from h) hr
  obtain ⟨q, i, rfl, h⟩ := vnum_inv h hr
  obtain ⟨hq, h⟩ := bO_inv h hr
  obtain rfl := beq_nat hq
  cases i with
  | negSucc m => exact absurd h.symm (hr _)
  | ofNat m =>
    have h : pI 3 (findB (Nat.mod m 256) a 0) (fun v => k v th n) = r := h
    rw [pI_eq] at h
    rw [toV_int (by omega)] at hy
    injection hy with hy
    simp only [toV] at hx
    split at hx
    · rename_i hal
      injection hx with hx
      have ha : ∀ c ∈ a, c < 256 := by simpa using hal
      have hrun : (Extern.BytealgIndexByte.indexByte #[ac.eval A, ac.eval B]).run P w = .ok (.int .i64 (findB (Nat.mod m 256) a 0)) w := by
        rw [← hx, ← hy]
        have := Go.Lib.run_indexByteString (P := P) (sbytes a) (Int.ofNat m) w
        rw [show kind 4 = .u8 from rfl, this, findB_eq (m.mod 256) (Nat.mod_lt _ (by omega)) a 0 ha]
        have e1 : (Int.ofNat m).toNat.toUInt8 = UInt8.ofNat (m.mod 256) := by
          apply UInt8.toNat_inj.1
          simp [Nat.toUInt8]
          show m % 256 = m % 256 % 256
          omega
        have e2 : (sbytes a).data.toList = a.map fun x => UInt8.ofNat x := by simp [sbytes]
        rw [e1, e2]
        congr 2
        split
        · rename_i h4; exact h4
        · simp
      refine ⟨_, _, _, h, Nat.le_refl _, hH, fun _ => ⟨.value (.int .i64 (findB (Nat.mod m 256) a 0)), _, ι, ?_, .inr ⟨_, rfl, by rw [toV_int (by omega)]; rfl⟩, .refl hR⟩⟩
      obtain ⟨callee, args, tys⟩ := c
      obtain rfl : callee = .value (.func f) := hc
      obtain rfl : args = #[A, B] := by apply Array.ext'; simpa using hargs
      have hcall := run_callFunc_indexByte hf (by rw [hn]; rfl) hb (ixb_next hn hg) (ixb_find hn) #[ac.eval A, ac.eval B] w
      rw [hrun] at hcall
      unfold execOp; rw [ho]
      have hX : ac.eval (.func f) = .func (.func f) #[] #[] := rfl
      simp [resolve, invoke, hX, Deferred.ofValue, hcall, Result.andThen]
    · cases hx
end Ev
namespace Ev
open Go
variable [Told] [TokV] [ToldOK]
variable {ι : Rn} {P : Program} {w : World} {o : Oper} {r : Out} {t tx ty el : TypeId} {ac : Act} {g : G} {l e : T AV} {th : H} {v x y : AV} {n : Nat} {k : KH} {KK : G} {i : TypeInfo} {z : Value} {Y : Value} {cnt : Nat} {news : List Value}
structure Adds (P : Program) (t tx ty el : TypeId) (i : TypeInfo) (z : Value) (Y : Value) (cnt : Nat) (news : List Value) (w : World) : Prop where
  len : news.length = cnt * i.size
  room : ∀ b off sLen sCap, sLen + cnt ≤ sCap → (∀ j, j < news.length → (w.cell? ⟨b, off + sLen * i.size + j, none⟩).isSome = true) → (∀ j, j < news.length → w.frozen? ⟨b, off + sLen * i.size + j, none⟩ = false) →
    (Builtin.append_ #[t, tx] ty #[.slice (some ⟨b, off, none⟩) sLen sCap, Y]).run P w = .ok (.slice (some ⟨b, off, none⟩) (sLen + cnt) sCap) (w.setCells b (off + sLen * i.size) news)
  grow : ∀ base sLen sCap (olds : List Value), (Builtin.firstCells i.size sLen (.slice base sLen sCap)).run P w.drew = .ok olds.toArray w.drew → sCap < sLen + cnt → ((sLen + cnt : Nat) : Int) ≤ 9223372036854775807 →
    Builtin.nextslicecap (sLen + cnt) sCap * i.bytes ≤ 281474976710656 →
    (Builtin.append_ #[t, tx] ty #[.slice base sLen sCap, Y]).run P w = .ok (.slice (some ⟨w.heap.size, 0, none⟩) (sLen + cnt) (grownCap w (sLen + cnt) sCap el))
        (w.drew.alloc (.cells ((olds ++ news).toArray ++ Builtin.zeroCells z.cells (grownCap w (sLen + cnt) sCap el - (sLen + cnt))) el))
  none : cnt = 0 → ∀ base sLen sCap, sLen ≤ sCap → (Builtin.append_ #[t, tx] ty #[.slice base sLen sCap, Y]).run P w = .ok (.slice base sLen sCap) w
theorem Adds.ofSrc (ht : P.underlying t = some (.slice el)) (hi : P.info? el = some i) (hz : i.zero = some z) (hs : Src P i.size tx Y cnt news w) : Adds P t tx ty el i z Y cnt news w :=
  ⟨hs.newsLen, fun b off sLen sCap h1 h2 h3 => run_append_room_src w t tx ty el i ht hi b off sLen sCap Y cnt news hs h1 h2 h3,
   fun base sLen sCap olds h1 h2 h3 h4 => run_append_grow_src w t tx ty el i z ht hi hz base sLen sCap olds h1 Y cnt news hs h2 h3 h4,
   fun h0 base sLen sCap h1 => by
    subst h0
    have : news = [] := List.length_eq_zero_iff.1 (by rw [hs.newsLen, Nat.zero_mul])
    subst this
    exact run_append_nothing w t tx ty el i ht hi base sLen sCap h1 Y hs⟩
theorem zeroCells_eq {zs : Array Value} (h0 : 0 < zs.size) (m : Nat) : Builtin.zeroCells zs m = ((List.replicate m zs.toList).flatten).toArray := by
  unfold Builtin.zeroCells; exact zero_arr h0 m zs.size rfl
theorem zeroCells_size (zs : Array Value) (m : Nat) : (Builtin.zeroCells zs m).size = m * zs.size := by simp [Builtin.zeroCells]
theorem rep_oneCell {zs : List Value} (h : zs.all isCell = true) (m : Nat) : ∀ v ∈ (List.replicate m zs).flatten, v.oneCell' = true := by
  intro v hv
  have := rep_all h m
  simp only [List.all_eq_true] at this
  have := this v hv
  cases v <;> first | rfl | simp [isCell] at this
theorem Adds.ofZeros {q q' : IntKind} (ht : P.underlying t = some (.slice el)) (htx : P.underlying tx = some (.int q')) (hi : P.info? el = some i) (hz : i.zero = some z) (hzs : z.cells.size = i.size) (hsz : i.size ≠ 0) (hby : i.bytes ≠ 0) (hza : z.cells.toList.all isCell = true) (hc : cnt * i.bytes ≤ 1048576) :
    Adds P t tx ty el i z (.int q (cnt : Int)) cnt (List.replicate cnt z.cells.toList).flatten w := by
  have hlen : (List.replicate cnt z.cells.toList).flatten.length = cnt * i.size := by rw [rep_len]; simp [hzs]
  have hcn : cnt ≤ 1048576 := by have := Nat.le_mul_of_pos_right cnt (Nat.pos_of_ne_zero hby); omega
  have hw : IntKind.i64.wrap (cnt : Int) = cnt := IntWalk.i64_in _ (by constructor <;> omega)
  have c1 : ¬ ((cnt : Int) < 0) := by omega
  have c2 : ¬ ((281474976710656 : Int) < (cnt : Int) * (i.bytes : Int)) := by rw [← Int.natCast_mul]; omega
  have hzc := zeroCells_eq (zs := z.cells) (by omega) cnt
  have h00 : (cnt * i.size = 0) ↔ cnt = 0 := by
    constructor
    · intro h; rcases Nat.mul_eq_zero.1 h with h | h; exact h; exact absurd h hsz
    · intro h; rw [h, Nat.zero_mul]
  have hsr : ∀ W : World, (Go.sizeOf el).run P W = .ok i.size W := fun W => by simp [Go.sizeOf, typeInfo, hi]
  have hzr : ∀ W : World, (zeroValue el).run P W = .ok z W := fun W => by simp [zeroValue, typeInfo, hi, hz]
  -- what is appended
  have happ : ∀ W : World, ((if cnt * i.size = 0 then pure #[] else do pure (Builtin.zeroCells (← zeroValue el).cells cnt) : Sem (Array Value))).run P W = .ok ((List.replicate cnt z.cells.toList).flatten).toArray W := fun W => by
    by_cases h0 : cnt = 0
    · subst h0; simp
    · rw [if_neg (fun h => h0 (h00.1 h))]; simp [hzr, hzc]
  refine ⟨hlen, fun b off sLen sCap h1 h2 h3 => ?_, fun base sLen sCap olds h1 h2 h3 h4 => ?_, fun h0 base sLen sCap h1 => ?_⟩
  · have hst := run_storeCells_cells (P := P) b (off + sLen * i.size) _ 0 w (by simpa using h2) (by simpa using h3) (rep_oneCell hza cnt)
    simp only [Nat.add_zero] at hst
    simp only [Builtin.append_, Sem.run_bind, List.getElem?_toArray, List.getElem?_cons_zero, List.getElem?_cons_succ, run_underlying ht, run_underlying htx, Result.andThen_ok, hsr, Sem.run_pure]
    simp [asInt, asIntOf, hw, c1, typeInfo, hi, c2, h1, h00, Addr.add_lit]
    by_cases h0 : cnt = 0
    · subst h0; simp [storeCells] at hst ⊢; rfl
    · simp [h0, hzr, hzc, Addr.add_lit, hst]
  · have hn : ¬ (sLen + cnt ≤ sCap) := by omega
    have h63' : ¬ (9223372036854775807 < ((sLen : Int) + (cnt : Int))) := by omega
    have h48' : ¬ (281474976710656 < Builtin.nextslicecap (sLen + cnt) sCap * i.bytes) := by omega
    simp only [Builtin.append_, Sem.run_bind, List.getElem?_toArray, List.getElem?_cons_zero, List.getElem?_cons_succ, run_underlying ht, run_underlying htx, Result.andThen_ok, hsr, Sem.run_pure]
    simp [asInt, asIntOf, hw, c1, typeInfo, hi, c2, hn, h63', h48', h00, Question.forced, h1]
    by_cases h0 : cnt = 0
    · subst h0; simp [hzr, Go.newRow, grownCap]
    · simp [h0, hzr, hzc, Go.newRow, grownCap]
      congr 2
      apply Array.ext'
      simp
  · subst h0
    simp only [Builtin.append_, Sem.run_bind, List.getElem?_toArray, List.getElem?_cons_zero, List.getElem?_cons_succ, run_underlying ht, run_underlying htx, Result.andThen_ok, hsr, Sem.run_pure]
    have hw0 : IntKind.i64.wrap 0 = 0 := by decide
    cases base <;> simp [asInt, asIntOf, hw0, typeInfo, hi, h1, storeCells]
theorem nextcap_le {need old : Nat} (h : old < need) : Builtin.nextslicecap need old ≤ 2 * need + 1024 := by
  unfold Builtin.nextslicecap
  split
  · omega
  · split
    · omega
    · rw [growBy_four]
      repeat' split
      all_goals omega
theorem nextcap_fit {need old bytes : Nat} (h : old < need) (hb : bytes ≠ 0) (hf : need * bytes ≤ 1048576) : Builtin.nextslicecap need old * bytes ≤ 281474976710656 := by
  have h1 := nextcap_le h
  have h2 : bytes ≤ 1048576 := by have := Nat.le_mul_of_pos_left bytes (show 0 < need by omega); omega
  calc Builtin.nextslicecap need old * bytes ≤ (2 * need + 1024) * bytes := Nat.mul_le_mul_right _ h1
    _ = 2 * (need * bytes) + 1024 * bytes := by rw [Nat.add_mul, Nat.mul_assoc]
    _ ≤ 281474976710656 := by omega
theorem grownCap_ge (w : World) (need old : Nat) (el : TypeId) : need ≤ grownCap w need old el := Nat.le_add_right _ _
end Ev
namespace Ev
open Go
variable [Told] [TokV] [ToldOK]
variable {ι : Rn} {P : Program} {w : World} {o : Oper} {r : Out} {t tx ty el : TypeId} {ac : Act} {g : G} {l e : T AV} {th : H} {v x y : AV} {n : Nat} {k : KH} {KK : G} {i : TypeInfo} {z : Value} {Y : Value} {cnt : Nat} {news : List Value}
theorem addB_blk {b ep : Nat} {q : Nat × Nat × Nat} (b' e' : Nat) : (ι.addB b ep q).blk b' e' = if b' = b ∧ e' = ep then some q else ι.blk b' e' := rfl
theorem fill_new {tg : Nat} {l : AV} {vs : List Value} {off : Nat} {c : Bt Cell} {k : Nat} {x : Cell} (hl : toT ι l = some vs) (h : (fillC tg l off c).get k = some x) :
    (off ≤ k ∧ k < off + vs.length ∧ x.tag = tg ∧ ∃ V, toV ι x.v = some V ∧ vs[k - off]? = some V) ∨ ((k < off ∨ off + vs.length ≤ k) ∧ c.get k = some x) := by
  rw [fillC_get] at h
  have hlen := (toT_some hl).2.1
  by_cases h1 : off ≤ k
  · rw [if_pos h1] at h
    split at h
    · rename_i a ha
      injection h with h; subst h
      have := (List.getElem?_eq_some_iff.1 ha).1
      obtain ⟨V, hV, hi⟩ := (toT_some hl).2.2 _ _ ha
      exact .inl ⟨h1, by omega, rfl, V, hV, hi⟩
    · rename_i ha
      rw [List.getElem?_eq_none_iff] at ha
      exact .inr ⟨.inr (by omega), h⟩
  · rw [if_neg h1] at h; exact .inr ⟨.inl (by omega), h⟩
theorem epoch_same {b ep sz nc nc' off : Nat} {c : Bt Cell} {l : AV} {vs : List Value} {q : Nat × Nat × Nat} (hR : Rel ι g w) (hg : g b = some (.row sz c nc ep)) (hz : ι.blk b ep = some q) (hl : toT ι l = some vs) (hc : vs.all isCell = true)
    (hnc : nc ≤ nc') (hn : off + vs.length ≤ nc') {cs : Array Value} (hra : RowAt w q.1 cs) (hle : off + vs.length ≤ cs.size) :
    Rel (ι.addB b (ep + 1) q) (upd g b (.row sz (fillC (ep + 1) l off c) nc' (ep + 1))) (w.setCells q.1 off vs) ∧ Ext w.heap.size ι (ι.addB b (ep + 1) q) ∧ Frm ι w (w.setCells q.1 off vs) := by
  obtain ⟨g1, g2, g3, g4⟩ := hR.obj b _ hg
  have hnone := g2 (ep + 1) (by omega)
  have hle' : ι.le (ι.addB b (ep + 1) q) := addB_le hnone
  obtain ⟨cs', h1, h2, h3, h4⟩ := setCells_row vs off w cs hra hle
  have out : ∀ k, (k < off ∨ off + vs.length ≤ k) → cs'[k]? = cs[k]? := by
    intro k hk
    rw [h3]
    by_cases h5 : off ≤ k
    · rw [if_pos h5, List.getElem?_eq_none (by omega)]
    · rw [if_neg h5]
  have uniq : ∀ {cs0 : Array Value}, RowAt w q.1 cs0 → cs0 = cs := by
    rintro cs0 ⟨ty, fz, q1, _⟩
    obtain ⟨ty', fz', q2, _⟩ := hra
    rw [q1] at q2; injection q2 with q2; injection q2
  have hE : ExtC w.heap.size ι (ι.addB b (ep + 1) q) := ⟨hle', fun b' e' y hy => by
    rw [addB_blk] at hy
    split at hy
    · injection hy with hy; subst hy; exact .inl ⟨b, ep, q, hz, rfl⟩
    · exact .inl ⟨b', e', y, hy, rfl⟩, fun _ _ h => .inl h⟩
  refine ⟨⟨?_, ?_, ?_, hR.injm, hR.argKeep (frm_same hz h4) hE⟩, ⟨hE, rfl⟩, frm_same hz h4⟩
  · intro b' ob hob
    simp only [upd] at hob
    split at hob
    · rename_i e1; subst e1
      injection hob with hob; subst hob
      refine ⟨g1, fun e he => ?_, fun k x hk => ?_, fun e he => ?_⟩
      · rw [addB_blk, if_neg (by omega)]; exact g2 e (by omega)
      · rcases fill_new hl hk with ⟨a1, a2, a3, _⟩ | ⟨_, a2⟩
        · exact ⟨by omega, by omega⟩
        · have := g3 k x a2; exact ⟨by omega, by omega⟩
      · by_cases hee : e = ep + 1
        · subst hee
          obtain ⟨rb, cap, cs0, k1, k2, k3, k4⟩ := g4 ep (Nat.le_refl _)
          rw [hz] at k1; injection k1 with k1; subst k1
          have := uniq k2; subst this
          refine ⟨rb, cap, cs', by rw [addB_blk]; simp, h1, by rw [h2]; exact k3, fun k tg v hk ht => ?_⟩
          rcases fill_new hl hk with ⟨a1, a2, a3, V, a4, a5⟩ | ⟨a1, a2⟩
          · refine ⟨V, toV_mono hle' _ _ a4, ?_, by rw [h3, if_pos a1, a5]⟩
            simp only [List.all_eq_true] at hc; exact hc V (List.mem_of_getElem? a5)
          · have := (g3 k _ a2).2
            obtain ⟨V, b1, b2, b3⟩ := k4 k tg v a2 this
            exact ⟨V, toV_mono hle' _ _ b1, b2, by rw [out k a1]; exact b3⟩
        · obtain ⟨rb, cap, cs0, k1, k2, k3, k4⟩ := g4 e (by omega)
          have hk1 : (ι.addB b (ep + 1) q).blk b e = some (rb, cap, sz) := by rw [addB_blk, if_neg (by omega)]; exact k1
          by_cases hrb : rb = q.1
          · subst hrb
            have := uniq k2; subst this
            refine ⟨q.1, cap, cs', hk1, h1, by rw [h2]; exact k3, fun k tg v hk ht => ?_⟩
            rcases fill_new hl hk with ⟨a1, a2, a3, V, a4, a5⟩ | ⟨a1, a2⟩
            · simp only at a3; omega
            · obtain ⟨V, b1, b2, b3⟩ := k4 k tg v a2 ht
              exact ⟨V, toV_mono hle' _ _ b1, b2, by rw [out k a1]; exact b3⟩
          · refine ⟨rb, cap, cs0, hk1, ?_, k3, fun k tg v hk ht => ?_⟩
            · obtain ⟨ty, fz, q1, q2⟩ := k2
              exact ⟨ty, fz, by rw [h4.other rb hrb]; exact q1, q2⟩
            · rcases fill_new hl hk with ⟨a1, a2, a3, V, a4, a5⟩ | ⟨a1, a2⟩
              · simp only at a3; omega
              · obtain ⟨V, b1, b2, b3⟩ := k4 k tg v a2 ht
                exact ⟨V, toV_mono hle' _ _ b1, b2, b3⟩
    · rename_i e1
      have hob' := hR.obj b' ob hob
      cases ob with
      | row sz' c0 n0 ep0 =>
        obtain ⟨d1, d2, d3, d4⟩ := hob'
        have hb' : ∀ e, (ι.addB b (ep + 1) q).blk b' e = ι.blk b' e := fun e => by rw [addB_blk, if_neg (by rintro ⟨h, _⟩; exact e1 h.symm)]
        refine ⟨d1, fun e he => by rw [hb']; exact d2 e he, d3, fun e he => ?_⟩
        obtain ⟨rb, cap, cs0, k1, ⟨ty, fz, q1, q2⟩, k3, k4⟩ := d4 e he
        have : rb ≠ q.1 := fun e2 => e1 (hR.inj b ep b' e q _ hz k1 e2.symm)
        exact ⟨rb, cap, cs0, by rw [hb']; exact k1, ⟨ty, fz, by rw [h4.other rb this]; exact q1, q2⟩, k3, fun k tg v hk ht => let ⟨V, b1, b2, b3⟩ := k4 k tg v hk ht; ⟨V, toV_mono hle' _ _ b1, b2, b3⟩⟩
      | mp es ver =>
        obtain ⟨d1, d1v, rr, ents, clock, d2, d2v, d3, d4⟩ := hob'
        have : rr ≠ q.1 := fun e2 => mp_blk hR d2 hz e2.symm
        exact ⟨fun e => by rw [addB_blk, if_neg (by rintro ⟨h, _⟩; exact e1 h.symm)]; exact d1 e, d1v, rr, ents, clock, d2, d2v, by rw [h4.other rr this]; exact d3, MapOk.mono hle' _ _ d4⟩
  · intro b' hb'
    simp only [upd] at hb'
    split at hb'
    · cases hb'
    · rename_i e1
      obtain ⟨d1, d2, d3⟩ := hR.non b' hb'
      exact ⟨d1, fun e => by rw [addB_blk, if_neg (by rintro ⟨h, _⟩; exact e1 h.symm)]; exact d2 e, d3⟩
  · intro b1 e1 b2 e2 x1 x2 hx1 hx2 he
    rw [addB_blk] at hx1 hx2
    split at hx1 <;> split at hx2
    · rename_i a1 a2; rw [a1.1, a2.1]
    · rename_i a1 _; injection hx1 with hx1; subst hx1; rw [a1.1]; exact hR.inj _ _ _ _ _ _ hz hx2 he
    · rename_i _ a2; injection hx2 with hx2; subst hx2; rw [a2.1]; exact hR.inj _ _ _ _ _ _ hx1 hz he
    · exact hR.inj _ _ _ _ _ _ hx1 hx2 he
theorem epoch_new {b ep sz nc nc' off cap' : Nat} {c : Bt Cell} {l : AV} {vs : List Value} {q : Nat × Nat × Nat} {ty : TypeId} {arr : Array Value} (hR : Rel ι g w) (hg : g b = some (.row sz c nc ep)) (hz : ι.blk b ep = some q) (hl : toT ι l = some vs) (hc : vs.all isCell = true)
    (hnc : nc ≤ nc') (hn : off + vs.length = nc') {cs : Array Value} (hra : RowAt w q.1 cs) (hnew : ∀ j, j < vs.length → arr[off + j]? = vs[j]?) (hold : ∀ j, j < off → arr[j]? = cs[j]?) (hsz : arr.size = cap' * sz) :
    Rel (ι.addB b (ep + 1) (w.heap.size, cap', sz)) (upd g b (.row sz (fillC (ep + 1) l off c) nc' (ep + 1))) (w.alloc (.cells arr ty)) ∧ Ext w.heap.size ι (ι.addB b (ep + 1) (w.heap.size, cap', sz)) ∧ Frm ι w (w.alloc (.cells arr ty)) := by
  obtain ⟨g1, g2, g3, g4⟩ := hR.obj b _ hg
  have hnone := g2 (ep + 1) (by omega)
  have hle' : ι.le (ι.addB b (ep + 1) (w.heap.size, cap', sz)) := addB_le hnone
  have uniq : ∀ {cs0 : Array Value}, RowAt w q.1 cs0 → cs0 = cs := by
    rintro cs0 ⟨ty, fz, q1, _⟩
    obtain ⟨ty', fz', q2, _⟩ := hra
    rw [q1] at q2; injection q2 with q2; injection q2
  refine ⟨⟨?_, ?_, ?_, hR.injm, hR.argKeep (frm_push _) (ext_addB hnone (Nat.le_refl _)).toExtC⟩, ext_addB hnone (Nat.le_refl _), frm_push _⟩
  · intro b' ob hob
    simp only [upd] at hob
    split at hob
    · rename_i e1; subst e1
      injection hob with hob; subst hob
      refine ⟨g1, fun e he => ?_, fun k x hk => ?_, fun e he => ?_⟩
      · rw [addB_blk, if_neg (by omega)]; exact g2 e (by omega)
      · rcases fill_new hl hk with ⟨a1, a2, a3, _⟩ | ⟨_, a2⟩
        · exact ⟨by omega, by omega⟩
        · have := g3 k x a2; exact ⟨by omega, by omega⟩
      · by_cases hee : e = ep + 1
        · subst hee
          obtain ⟨rb, cap, cs0, k1, k2, k3, k4⟩ := g4 ep (Nat.le_refl _)
          rw [hz] at k1; injection k1 with k1; subst k1
          have := uniq k2; subst this
          refine ⟨w.heap.size, cap', arr, by rw [addB_blk]; simp, ⟨ty, (0, 0), by show (w.heap.push _)[w.heap.size]? = _; simp, fun k _ => by simp⟩, hsz, fun k tg v hk ht => ?_⟩
          rcases fill_new hl hk with ⟨a1, a2, a3, V, a4, a5⟩ | ⟨a1, a2⟩
          · refine ⟨V, toV_mono hle' _ _ a4, ?_, ?_⟩
            · simp only [List.all_eq_true] at hc; exact hc V (List.mem_of_getElem? a5)
            · have := hnew (k - off) (by omega)
              rw [show off + (k - off) = k by omega] at this
              rw [this]; exact a5
          · have := (g3 k _ a2)
            obtain ⟨V, b1, b2, b3⟩ := k4 k tg v a2 this.2
            exact ⟨V, toV_mono hle' _ _ b1, b2, by rw [hold k (by omega)]; exact b3⟩
        · obtain ⟨rb, cap, cs0, k1, k2, k3, k4⟩ := g4 e (by omega)
          refine ⟨rb, cap, cs0, by rw [addB_blk, if_neg (by omega)]; exact k1, rowAt_push k2, k3, fun k tg v hk ht => ?_⟩
          rcases fill_new hl hk with ⟨a1, a2, a3, V, a4, a5⟩ | ⟨a1, a2⟩
          · simp only at a3; omega
          · obtain ⟨V, b1, b2, b3⟩ := k4 k tg v a2 ht
            exact ⟨V, toV_mono hle' _ _ b1, b2, b3⟩
    · rename_i e1
      exact objOk_push hle' (fun e => by rw [addB_blk, if_neg (by rintro ⟨h, _⟩; exact e1 h.symm)]) rfl (fun _ => rfl) (hR.obj b' ob hob)
  · intro b' hb'
    simp only [upd] at hb'
    split at hb'
    · cases hb'
    · rename_i e1
      obtain ⟨d1, d2, d3⟩ := hR.non b' hb'
      exact ⟨d1, fun e => by rw [addB_blk, if_neg (by rintro ⟨h, _⟩; exact e1 h.symm)]; exact d2 e, d3⟩
  · intro b1 e1 b2 e2 x1 x2 hx1 hx2 he
    rw [addB_blk] at hx1 hx2
    split at hx1 <;> split at hx2
    · rename_i a1 a2; rw [a1.1, a2.1]
    · injection hx1 with hx1; subst hx1; have := blk_lt hR hx2; simp only at he; omega
    · injection hx2 with hx2; subst hx2; have := blk_lt hR hx1; simp only at he; omega
    · exact hR.inj _ _ _ _ _ _ hx1 hx2 he
end Ev
namespace Ev
open Go
variable [Told] [TokV] [ToldOK]
variable {ι : Rn} {P : Program} {w : World} {o : Oper} {r : Out} {t tx ty el : TypeId} {ac : Act} {g : G} {l e : T AV} {th : H} {v x y : AV} {n : Nat} {k : KH} {KK : G} {i : TypeInfo} {z : Value} {Y : Value} {cnt : Nat} {news : List Value}
theorem HT.next {ob : AO} (h : HT th n) : HT (th.set ob n) (n + 1) := fun j hj => by
  rw [M.get_set_ne _ _ _ _ (by omega)]; exact h j (by omega)
theorem exec_app {A B : Operand} {c : Call} {V : Value} {w' : World} (ho : o.op = .call c) (hc : c.callee = .builtin .append) (hargs : c.args.toList = [A, B])
    (h : (Builtin.append_ c.argTypes o.type #[ac.eval A, ac.eval B]).run P w = .ok V w') : (execOp ac.eval o).run P w = .ok (.value V) w' := by
  have hargs' : c.args = #[A, B] := by rw [← Array.toArray_toList (xs := c.args), hargs]
  unfold execOp; rw [ho]
  simp only [resolve, hc, Sem.run_bind, Sem.run_pure, Result.andThen_ok, invoke]
  rw [hargs']
  simp [builtin, h]
theorem fresh_ok {sz bytes need : Nat} {f : AV} {olds : List Value} {base : Option Addr} {sLen sCap : Nat} {A B : Operand} {c : Call} (ho : o.op = .call c) (hc : c.callee = .builtin .append) (hargs : c.args.toList = [A, B]) (hat : c.argTypes = #[t, tx])
    (hsi : i.size = sz) (hbi : i.bytes = bytes) (hby : bytes ≠ 0) (hzs : z.cells.size = sz)
    (hA : ac.eval A = .slice base sLen sCap) (hB : ac.eval B = Y) (ha : Adds P t tx o.type el i z Y cnt news w) (hR : Rel ι (un th KK) w) (hH : HT th n) (hr : NE r)
    (hold : (Builtin.firstCells i.size sLen (.slice base sLen sCap)).run P w.drew = .ok olds.toArray w.drew) (hol : olds.length = sLen * sz) (hf : toT ι f = some (olds ++ news)) (hfc : (olds ++ news).all isCell = true)
    (hneed : need = sLen + cnt) (hg : sCap < need) (hfit : need * bytes ≤ 1048576) (h : fresh sz f need th n k = r) : OkW ι KK P w ac.eval o n k r := by
  subst hneed
  unfold fresh at h
  rw [newRow_eq] at h
  have hmx : sLen + cnt ≤ 1048576 := by have := Nat.le_mul_of_pos_right (sLen + cnt) (Nat.pos_of_ne_zero hby); omega
  have hrun := ha.grow base sLen sCap olds hold hg (by omega) (by rw [hbi]; exact nextcap_fit hg hby hfit)
  have hcap := grownCap_ge w (sLen + cnt) sCap el
  generalize grownCap w (sLen + cnt) sCap el = cap at hrun hcap
  have hlen : (olds ++ news).length = (sLen + cnt) * sz := by rw [List.length_append, hol, ha.len, hsi, Nat.add_mul]
  refine ⟨_, _, _, h, by omega, hH.next, fun hK => ?_⟩
  have hn : un th KK n = none := un_none hH hK (by omega)
  obtain ⟨g1, g2, g3⟩ := alloc_row (ty := el) (fz := (0, 0)) (cap := cap) (sz := sz) (nc := (sLen + cnt) * sz) (arr := (olds ++ news).toArray ++ Builtin.zeroCells z.cells (cap - (sLen + cnt))) hR.drew hn hf hfc (fun j u hu => by
      have hlt := (List.getElem?_eq_some_iff.1 hu).1
      rw [Array.getElem?_append_left (by simpa using hlt)]; simpa using hu) (by
      rw [Array.size_append, zeroCells_size, hzs]
      simp only [List.size_toArray, hlen]
      rw [← Nat.add_mul]; congr 1; omega) (by rw [hlen]; exact Nat.le_refl _) (fun k _ => by simp)
  refine ⟨_, _, _, exec_app ho hc hargs (by rw [hat, hA, hB]; exact hrun), .inr ⟨_, rfl, ?_⟩, ⟨by rw [un_set]; exact g1, g2, g3.of_drew⟩⟩
  have : (0 : Nat) + sLen + cnt ≤ cap := by omega
  simp only [toV, refV, Rn.addB, true_and, if_true, Option.bind_some, Nat.zero_div, Nat.add_zero, hcap, Nat.sub_zero]
  rfl
theorem appTo_ok {sz bytes : Nat} {s new : AV} {A B : Operand} {c : Call} (ho : o.op = .call c) (hc : c.callee = .builtin .append) (hargs : c.args.toList = [A, B]) (hat : c.argTypes = #[t, tx])
    (hsi : i.size = sz) (hbi : i.bytes = bytes) (hby : bytes ≠ 0) (hzs : z.cells.size = sz) (hsz0 : sz ≠ 0)
    (hB : ac.eval B = Y) (ha : Adds P t tx o.type el i z Y cnt news w) (hR : Rel ι (un th KK) w) (hH : HT th n) (hr : NE r) (hs : toV ι s = some (ac.eval A)) (hnew : toT ι new = some news) (hnc : news.all isCell = true)
    (h : appTo sz bytes s new cnt th n k = r) : OkW ι KK P w ac.eval o n k r := by
  obtain ⟨g, b, ep, off, len, cap, rfl, h1⟩ := vref_inv h hr
  have hexec : ∀ {V : Value} {w' : World}, (Builtin.append_ #[t, tx] o.type #[ac.eval A, Y]).run P w = .ok V w' → (execOp ac.eval o).run P w = .ok (.value V) w' := fun h => exec_app ho hc hargs (by rw [hat, hB]; exact h)
  have hlen : news.length = cnt * sz := by rw [ha.len, hsi]
  have hfr : ∀ {W : World} {rb : Nat} {cs : Array Value}, RowAt W rb cs → ∀ j, j < cs.size → W.frozen? ⟨rb, j, none⟩ = false := by
    intro W rb cs hra j hj
    obtain ⟨ty, fz, q1, q2⟩ := hra
    simp only [World.frozen?, q1]; exact q2 j hj
  rcases isSl_cases h1 with ⟨hg, h2⟩ | ⟨_, _, h2⟩
  · obtain ⟨zz, C, hz, hV, hC3, hC4⟩ := sl_val hg hs
    have hcapC : cap ≤ C := by
      rcases hg with rfl | rfl
      · rw [hC3 rfl]; exact Nat.le_refl _
      · have := hC4 rfl; omega
    rw [forceN_eq] at h2
    rcases bO_cases h2 with ⟨h3, h4⟩ | ⟨h3, h4⟩
    · -- in place
      have h3 : len + cnt ≤ cap := Nat.le_of_ble_eq_true h3
      obtain ⟨sz', c0, nc, e', hgt, h5⟩ := withRow_inv (show withRow th b _ = r from h4) hr
      obtain ⟨h6, h7⟩ := bO_inv h5 hr
      obtain rfl := beq_nat h6
      obtain ⟨c', h8, h9, h10⟩ := storeC_inv hr h7
      rw [hset_eq] at h8
      obtain ⟨cs, hsz, _, hra, hcs, hce⟩ := row_at hR (un_get hgt) hz
      have hlt : ∀ j, j < news.length → off + len * sz + j < cs.size := by
        intro j hj
        obtain ⟨x, hx⟩ := Option.isSome_iff_exists.1 (h9 j (by rw [← (toT_some hnew).2.1]; exact hj))
        obtain ⟨V, _, _, hV⟩ := hce _ x.tag x.v (by rw [hx]) ((hR.obj _ _ (un_get hgt)).2.2.1 _ _ hx).2
        exact (Array.getElem?_eq_some_iff.1 hV).1
      obtain ⟨s1, s2, s3⟩ := store_sem (P := P) hR (un_get hgt) hz hnew hnc h9 h10
      have hrun := ha.room zz.1 off len C (by omega) (fun j hj => by
        rw [cell?_row hra, hsi]; simp [hlt j hj]) (fun j hj => by rw [hsi]; exact hfr hra _ (hlt j hj))
      rw [hsi] at hrun
      refine ⟨_, _, _, h8, Nat.le_refl _, hH.set (hH.lt hgt), fun _ => ⟨_, _, ι, hexec (by rw [hV]; exact hrun), .inr ⟨_, rfl, ?_⟩, ⟨by rw [un_set]; exact s2, Ext.self, s3⟩⟩⟩
      rcases hg with rfl | rfl
      · rw [hC3 rfl]; simp [toV, refV, hz]
      · obtain ⟨q1, q2⟩ := hC4 rfl
        simp [toV, refV, hz, q1, q2]
    · have h3 : cap < len + cnt := by
        rcases Nat.lt_or_ge cap (len + cnt) with h' | h'
        · exact h'
        · rw [Nat.ble_eq_true_of_le (show Nat.add len cnt ≤ cap from h')] at h3; cases h3
      obtain ⟨h5, h6⟩ := bO_inv h4 hr
      have h5 : (len + cnt) * bytes ≤ 1048576 := Nat.le_of_ble_eq_true h5
      rcases bO_cases h6 with ⟨h7, h8⟩ | ⟨h7, h8⟩
      · -- of known capacity
        obtain rfl := beq_nat h7
        obtain ⟨sz', c0, nc, e', hgt, h9⟩ := withRow_inv h8 hr
        obtain ⟨cs, hsz, _, hra, hcs, hce⟩ := row_at hR (un_get hgt) hz
        obtain ⟨fo, olds, h10, h11, h12, h13, h14⟩ := readC_inv hce hr h9
        have hC := hC3 rfl
        refine fresh_ok ho hc hargs hat hsi hbi hby hzs hV hB ha hR hH hr ?_ h11 (toT_append h10 hnew) (by simp [h12, hnc]) rfl (by omega) h5 h14
        have hra' : RowAt w.drew zz.1 cs := hra
        have := load_list (P := P) hra' h13
        rw [h11, ← hsi] at this
        exact this
      · -- of unknown capacity
        have hg4 : g = 4 := by
          rcases hg with rfl | rfl
          · simp at h7
          · rfl
        subst hg4
        obtain ⟨h9, h10'⟩ := bO_inv h8 hr
        obtain ⟨h9', h10⟩ := bO_inv h10' hr
        have h9' := Nat.le_of_ble_eq_true h9'
        obtain rfl := beq_nat h9
        obtain ⟨sz', c0, nc, e', hgt, h11⟩ := withRow_inv h10 hr
        obtain ⟨h12, h13⟩ := bO_inv h11 hr
        obtain ⟨h14, h15⟩ := bO_inv h13 hr
        obtain ⟨h16, h17⟩ := bO_inv h15 hr
        obtain rfl := beq_nat h12
        obtain rfl := beq_nat h14
        have h16 : nc ≤ (len + cnt) * sz := Nat.le_of_ble_eq_true h16
        rw [forceN_eq, forceN_eq, Bt.seq_eq, hset_eq] at h17
        obtain ⟨q1, q2⟩ := hC4 rfl
        obtain ⟨cs, hsz, _, hra, hcs, hce⟩ := row_at hR (un_get hgt) hz
        simp only [Nat.zero_div, Nat.sub_zero, Nat.add_zero] at q1 q2
        subst q2
        refine ⟨_, _, _, h17, Nat.le_refl _, hH.set (hH.lt hgt), fun _ => ?_⟩
        by_cases hroom : len + cnt ≤ zz.2.1
        · have hle : len * sz + news.length ≤ cs.size := by
            rw [hlen, hcs, ← Nat.add_mul]; exact Nat.mul_le_mul_right _ hroom
          obtain ⟨s1, s2, s3⟩ := epoch_same (off := len * sz) (nc' := (len + cnt) * sz) hR (un_get hgt) hz hnew hnc h16 (by rw [hlen, ← Nat.add_mul]; exact Nat.le_refl _) hra hle
          have hrun := ha.room zz.1 0 len zz.2.1 hroom (fun j hj => by
            rw [cell?_row hra, hsi]
            have : len * sz + j < cs.size := by omega
            simp [this]) (fun j hj => by rw [hsi]; exact hfr hra _ (by omega))
          rw [hsi, Nat.zero_add] at hrun
          refine ⟨_, _, _, hexec (by rw [hV]; exact hrun), .inr ⟨_, rfl, ?_⟩, ⟨by rw [un_set]; exact s1, s2, s3⟩⟩
          simp only [toV, refV, Rn.addB, true_and, if_true, Option.bind_some, Nat.zero_div, Nat.add_zero, Nat.sub_zero]
          rw [if_pos (by exact hroom)]
          rfl
        · have hg' : zz.2.1 < len + cnt := by omega
          have hlz : len * sz ≤ cs.size := by
            rw [hcs]; exact Nat.mul_le_mul_right _ (by omega)
          let olds : List Value := cs.toList.take (len * sz)
          have hol : olds.length = len * sz := by simp [olds]; omega
          have hog : ∀ j, j < len * sz → olds[j]? = cs[j]? := fun j hj => by simp [olds, List.getElem?_take, hj]
          have hra' : RowAt w.drew zz.1 cs := hra
          have hload := load_list (P := P) (off := 0) (vs := olds) hra' (fun j v hv => by
            have := (List.getElem?_eq_some_iff.1 hv).1
            rw [Nat.zero_add, ← hog j (by omega)]; exact hv)
          have hmx : len + cnt ≤ 1048576 := by have := Nat.le_mul_of_pos_right (len + cnt) (Nat.pos_of_ne_zero hby); omega
          have hrun := ha.grow (some ⟨zz.1, 0, none⟩) len zz.2.1 olds (by rw [hol, ← hsi] at hload; exact hload) hg' (by omega) (by rw [hbi]; exact nextcap_fit hg' hby h5)
          have hcap := grownCap_ge w (len + cnt) zz.2.1 el
          generalize grownCap w (len + cnt) zz.2.1 el = cap' at hrun hcap
          obtain ⟨s1, s2, s3⟩ := epoch_new (off := len * sz) (nc' := (len + cnt) * sz) (cap' := cap') (ty := el) (arr := (olds ++ news).toArray ++ Builtin.zeroCells z.cells (cap' - (len + cnt))) hR.drew (un_get hgt) hz hnew hnc h16
            (by rw [hlen, ← Nat.add_mul]) hra' (fun j hj => by
              rw [Array.getElem?_append_left (by simp [hol]; omega)]
              simp [List.getElem?_append_right, hol]) (fun j hj => by
              rw [Array.getElem?_append_left (by simp [hol]; omega), ← hog j hj]
              simp [List.getElem?_append_left, hol, hj]) (by
              rw [Array.size_append, zeroCells_size, hzs]
              simp only [List.size_toArray, List.length_append, hol, hlen]
              rw [← Nat.add_mul, ← Nat.add_mul]; congr 1; omega)
          refine ⟨_, _, _, hexec (by rw [hV]; exact hrun), .inr ⟨_, rfl, ?_⟩, ⟨by rw [un_set]; exact s1, s2, s3.of_drew⟩⟩
          simp only [toV, refV, Rn.addB, true_and, if_true, Option.bind_some, Nat.zero_div, Nat.add_zero, Nat.sub_zero]
          rw [if_pos (by exact hcap)]
          rfl
  · have hend : ∀ {A' : Option Addr} {C : Nat}, ac.eval A = .slice A' 0 C → cnt = 0 → k (.ref g b ep off len cap) th n = r → OkW ι KK P w ac.eval o n k r := by
      intro A' C hV h0 hk
      refine ⟨_, _, _, hk, Nat.le_refl _, hH, fun _ => ⟨_, _, ι, hexec (by rw [hV]; exact ha.none h0 A' 0 C (Nat.zero_le _)), .inr ⟨_, rfl, by rw [hs, hV]⟩, Post.refl hR⟩⟩
    have hfresh : ∀ {A' : Option Addr}, ac.eval A = .slice A' 0 0 → cnt ≠ 0 → cnt * bytes ≤ 1048576 → fresh sz new cnt th n k = r → OkW ι KK P w ac.eval o n k r := by
      intro A' hV h0 hfit hk
      refine fresh_ok (olds := []) (sLen := 0) (sCap := 0) ho hc hargs hat hsi hbi hby hzs hV hB ha hR hH hr ?_ (by simp) (by simpa using hnew) (by simpa using hnc) (by omega) (by omega) hfit hk
      cases A' with
      | none => exact run_firstCells_none w.drew _ _ _ _
      | some a => exact run_firstCells_some w.drew _ 0 a 0 0 [] (by simp) (by simp)
    rcases bO_cases h2 with ⟨h3, h4⟩ | ⟨_, h2⟩
    · obtain rfl := beq_nat h3
      have hV := arg_val hs
      obtain ⟨h5, h6⟩ := bO_no h4 hr
      have h5 := blt_ff h5
      rcases bO_cases h6 with ⟨h7, h8⟩ | ⟨_, h7⟩
      · have h7 := beq_nat h7
        exact ⟨_, _, _, h8, Nat.le_refl _, hH, fun _ => ⟨_, _, ι, hexec (by rw [hV]; exact ha.none h7 _ len cap h5), .inr ⟨_, rfl, by rw [hs, hV]⟩, Post.refl hR⟩⟩
      · rw [forceN_eq] at h7
        obtain ⟨h8, h9⟩ := bO_inv h7 hr
        obtain ⟨h10, h11⟩ := bO_inv h9 hr
        have h8 : cap < len + cnt := by simpa [Nat.blt_eq] using h8
        have h10 : (len + cnt) * bytes ≤ 1048576 := Nat.le_of_ble_eq_true h10
        obtain ⟨l, vs, g1, g2, g3, g4, g5⟩ := readP_inv hR hr h11
        have g2 : vs.length = len * sz := g2
        refine fresh_ok (olds := vs) ho hc hargs hat hsi hbi hby hzs hV hB ha hR hH hr ?_ g2 (toT_append g1 hnew) (by simp [g3, hnc]) rfl h8 h10 g5
        exact run_firstCells_some (P := P) w.drew i.size len _ len cap vs (by rw [g2, hsi]) g4
    rcases bO_cases h2 with ⟨h3, h4⟩ | ⟨h3, h4⟩
    · have h3 := beq_nat h3
      rcases bO_cases h4 with ⟨h5, h6⟩ | ⟨_, h5⟩
      · obtain ⟨A', C, hV, _, _⟩ := sl_end (.inl (beq_nat h5)) hs
        exact hend hV h3 h6
      · rcases bO_cases h5 with ⟨h6, h7⟩ | ⟨_, h6⟩
        · obtain ⟨A', C, hV, _, _⟩ := sl_end (.inr (.inl (beq_nat h6))) hs
          exact hend hV h3 h7
        · obtain ⟨h7, h8⟩ := bO_inv h6 hr
          obtain ⟨A', C, hV, _, _⟩ := sl_end (.inr (.inr (beq_nat h7))) hs
          exact hend hV h3 h8
    · have h3 := beq_ff h3
      obtain ⟨h5, h6⟩ := bO_inv h4 hr
      have h5 : cnt * bytes ≤ 1048576 := Nat.le_of_ble_eq_true h5
      rcases bO_cases h6 with ⟨h7, h8⟩ | ⟨_, h7⟩
      · obtain ⟨A', C, hV, hA, _⟩ := sl_end (.inl (beq_nat h7)) hs
        rw [(hA (beq_nat h7)).2] at hV
        exact hfresh hV h3 h5 h8
      · obtain ⟨h8, h9⟩ := bO_inv h7 hr
        obtain ⟨A', C, hV, _, hA⟩ := sl_end (.inr (.inr (beq_nat h8))) hs
        rw [(hA (beq_nat h8)).1] at hV
        exact hfresh hV h3 h5 h9
end Ev
namespace Ev
open Go
variable [Told] [TokV] [ToldOK]
variable {ι : Rn} {P : Program} {w : World} {o : Oper} {r : Out} {t tx ty el : TypeId} {ac : Act} {l e : T AV} {th : H} {v x y : AV} {n : Nat} {k : KH} {KK : G}
theorem oneCell_of {vs : List Value} (h : vs.all isCell = true) : ∀ v ∈ vs, v.oneCell' = true := by
  intro v hv
  simp only [List.all_eq_true] at h
  have := h v hv
  cases v <;> first | rfl | simp [isCell] at this
structure ElTy (P : Program) (el : TypeId) (sz bytes : Nat) (zc : AV) (i : TypeInfo) (z : Value) : Prop where
  hi : P.info? el = some i
  hz : i.zero = some z
  size : i.size = sz
  bytes : i.bytes = bytes
  cells : z.cells.size = sz
theorem elTy {sz bytes : Nat} {zc : AV} (hs : szOf P el = some sz) (hb : byOf P el = some bytes) (hz : zcOf P el = some zc) (hz0 : lenA zc = sz) : ∃ i z, ElTy P el sz bytes zc i z := by
  obtain ⟨i, z, hi, hzz, hzt, hza⟩ := zcOf_ok ⟨fun _ _ => none, fun _ => none, fun _ => none, fun _ => none, fun _ _ => none⟩ hz
  refine ⟨i, z, hi, hzz, by simpa [szOf, hi] using hs, by simpa [byOf, hi] using hb, ?_⟩
  rw [lenA_eq, toT_length hzt] at hz0; simpa using hz0
theorem okApp {A B : Operand} {c : Call} {sz bytes : Nat} {zc : AV} (ho : o.op = .call c) (hc : c.callee = .builtin .append) (hargs : c.args.toList = [A, B]) (hat : c.argTypes = #[t, tx]) (ht : P.underlying t = some (.slice el))
    (htx : (∃ e', P.underlying tx = some (.slice e')) ∨ P.underlying tx = some .string) (hs : szOf P el = some sz) (hb : byOf P el = some bytes) (hz : zcOf P el = some zc) (hz0 : lenA zc = sz) (hsz0 : sz ≠ 0) (hby : bytes ≠ 0)
    (hR : Rel ι (un th KK) w) (hH : HT th n) (hr : NE r) (hx : toV ι x = some (ac.eval A)) (hy : toV ι y = some (ac.eval B)) (h : pApp sz bytes x y th n k = r) : OkW ι KK P w ac.eval o n k r := by
  obtain ⟨i, z, E⟩ := elTy hs hb hz hz0
  have fin : ∀ {new : AV} {news : List Value} {cnt : Nat}, Src P i.size tx (ac.eval B) cnt news w → toT ι new = some news → news.all isCell = true → appTo sz bytes x new cnt th n k = r → OkW ι KK P w ac.eval o n k r :=
    fun hsrc hn hnc hk => appTo_ok ho hc hargs hat E.size E.bytes hby E.cells hsz0 rfl (Adds.ofSrc ht E.hi E.hz hsrc) hR hH hr hx hn hnc hk
  have hnil : ∀ {A' : Option Addr} {C : Nat}, ac.eval B = .slice A' 0 C → appTo sz bytes x .nil 0 th n k = r → OkW ι KK P w ac.eval o n k r := by
    intro A' C hV hk
    refine fin (news := []) ⟨htx, fun W => by rw [hV]; rfl, ?_, ?_, by simp, fun _ h => by cases h⟩ rfl rfl hk
    · rw [hV]; cases A' with
      | none => exact run_firstCells_none w _ _ _ _
      | some a => exact run_firstCells_some w _ 0 a 0 C [] (by simp) (by simp)
    · rw [hV]; cases A' with
      | none => exact run_firstCells_none w.drew _ _ _ _
      | some a => exact run_firstCells_some w.drew _ 0 a 0 C [] (by simp) (by simp)
  cases y with
  | str s =>
    obtain ⟨h1, h2⟩ := bO_inv (show bO (Nat.beq sz 1) (appTo sz bytes x (strL s) s.length th n k) (.err 59) = r from h) hr
    have h1 := beq_nat h1
    obtain ⟨b, hB, hlt, hb⟩ := str_val (f := fun s' => Out.ok (.str s') .leaf 0) (r := Out.ok (.str s) .leaf 0) (show vstr (.str s) _ = _ from rfl) (fun c e => by cases e) hy
    obtain rfl : b = s := by injection hb with hb; injection hb
    refine fin (new := strL b) ⟨htx, fun W => by rw [hB]; simp [Builtin.lenOf, sbytes_size], ?_, ?_, ?_, oneCell_of (strL_cells b)⟩ (toT_strL b hlt) (strL_cells b) h2
    · rw [hB, E.size, h1]; have := firstCells_string (P := P) (sbytes b) w; rwa [sbytes_size] at this
    · rw [hB, E.size, h1]; have := firstCells_string (P := P) (sbytes b) w.drew; rwa [sbytes_size] at this
    · rw [byteCells_length, sbytes_size, E.size, h1, Nat.mul_one]
  | ref g b ep off len cap =>
    rcases isSl_cases (show isSl g (withRow th b fun _ c _ _ => readC c ep (Nat.mul len sz) off fun new => appTo sz bytes x new len th n k) _ = r from h) with ⟨hg, h2⟩ | ⟨_, _, h2⟩
    · obtain ⟨zz, C, hzz, hV, _, _⟩ := sl_val hg hy
      obtain ⟨sz', c0, nc, e', hgt, h3⟩ := withRow_inv h2 hr
      obtain ⟨cs, _, _, hra, _, hce⟩ := row_at hR (un_get hgt) hzz
      obtain ⟨new, news, h4, h5, h6, h7, h8⟩ := readC_inv hce hr h3
      have h5 : news.length = len * sz := h5
      have hcell : ∀ (j : Nat) v, news[j]? = some v → w.cell? ((⟨zz.1, off, none⟩ : Addr).add j) = some v := fun j v hv => by rw [addr_add, cell?_row hra]; exact h7 j v hv
      refine fin ⟨htx, fun W => by rw [hV]; rfl, ?_, ?_, by rw [h5, E.size], oneCell_of h6⟩ h4 h6 h8
      · rw [hV]; exact run_firstCells_some w i.size len _ len C news (by rw [h5, E.size]) hcell
      · rw [hV]; exact run_firstCells_some w.drew i.size len _ len C news (by rw [h5, E.size]) hcell
    · rcases bO_cases h2 with ⟨h5, h6⟩ | ⟨_, h5⟩
      · obtain ⟨A', C, hV, _, _⟩ := sl_end (.inl (beq_nat h5)) hy
        exact hnil hV h6
      · rcases bO_cases h5 with ⟨h6, h7⟩ | ⟨_, h6⟩
        · obtain ⟨A', C, hV, _, _⟩ := sl_end (.inr (.inl (beq_nat h6))) hy
          exact hnil hV h7
        · rcases bO_cases h6 with ⟨h7, h8⟩ | ⟨_, h7⟩
          · obtain ⟨A', C, hV, _, _⟩ := sl_end (.inr (.inr (beq_nat h7))) hy
            exact hnil hV h8
          · obtain ⟨h8, h9⟩ := bO_inv h7 hr
            obtain rfl := beq_nat h8
            have hV := arg_val hy
            obtain ⟨new, news, g1, g2, g3, g4, g5⟩ := readP_inv hR hr h9
            have g2 : news.length = len * sz := g2
            refine fin ⟨htx, fun W => by rw [hV]; rfl, ?_, ?_, by rw [g2, E.size], oneCell_of g3⟩ g1 g3 g5
            · rw [hV]; exact run_firstCells_some w i.size len _ len cap news (by rw [g2, E.size]) g4
            · rw [hV]; exact run_firstCells_some w.drew i.size len _ len cap news (by rw [g2, E.size]) g4
  | num q i => exact absurd h.symm (hr _)
  | com g x l => exact absurd h.symm (hr _)
  | nil => exact absurd h.symm (hr _)
  | cons a b => exact absurd h.symm (hr _)
theorem okAppZ {A B : Operand} {c : Call} {sz bytes : Nat} {zc : AV} {q' : IntKind} (ho : o.op = .call c) (hc : c.callee = .builtin .append) (hargs : c.args.toList = [A, B]) (hat : c.argTypes = #[t, tx]) (ht : P.underlying t = some (.slice el))
    (htx : P.underlying tx = some (.int q')) (hs : szOf P el = some sz) (hb : byOf P el = some bytes) (hz : zcOf P el = some zc) (hz0 : lenA zc = sz) (hsz0 : sz ≠ 0) (hby : bytes ≠ 0)
    (hR : Rel ι (un th KK) w) (hH : HT th n) (hr : NE r) (hx : toV ι x = some (ac.eval A)) (hy : toV ι y = some (ac.eval B)) (h : pAppZ sz bytes zc x y th n k = r) : OkW ι KK P w ac.eval o n k r := by
  obtain ⟨i, z, E⟩ := elTy hs hb hz hz0
  obtain ⟨i', z', hi', hz', hzt, hza⟩ := zcOf_ok ι hz
  obtain rfl : i' = i := by have := E.hi; rw [hi'] at this; injection this
  obtain rfl : z' = z := by have := E.hz; rw [hz'] at this; injection this
  obtain ⟨q, m, hq, hB, h1⟩ := nat_val h hr hy
  obtain ⟨h2, h3⟩ := bO_inv h1 hr
  have h2 : m * bytes ≤ 1048576 := Nat.le_of_ble_eq_true h2
  exact appTo_ok ho hc hargs hat E.size E.bytes hby E.cells hsz0 hB (Adds.ofZeros ht htx E.hi E.hz (by rw [E.cells, E.size]) (by rw [E.size]; exact hsz0) (by rw [E.bytes]; exact hby) hza (by rw [E.bytes]; exact h2)) hR hH hr hx (toT_lrep hzt m) (rep_all hza m) h3
end Ev
namespace Ev
open Go
variable [Told] [TokV] [ToldOK]
variable {ι : Rn} {P : Program} {w : World} {o : Oper} {r : Out} {t : TypeId} {ac : Act} {l e : T AV} {th : H} {n : Nat} {k : KH} {KK : G} {y : Yh} {ih : Ih} {iop : IOp}
def cls : IOp → Nat
  | .mv _ | .p1 _ _ | .p2 _ _ _ | .conv _ _ | .pick _ _ _ | .fad _ _ | .fld _ _ _ _ | .ext _ _ | .iad _ _ _ | .build _ _ | .slS _ _ _ | .mkI _ _ | .tas _ _ _ _ | .mkF _ _ | .mkB _ _ | .eqA _ _ _ _ => 0
  | .ldC _ _ | .ld _ | .slV _ _ _ _ _ | .look _ _ _ _ _ | .b2s _ => 1
  | .alloc _ | .box _ | .rowSl _ _ _ _ | .mkMap | .mkSl _ _ _ _ _ | .s2b _ => 2
  | .st _ _ _ | .ixb _ _ | .mapDel _ _ _ | .mapUpd _ _ _ _ | .app _ _ _ _ | .appZ _ _ _ _ _ => 3
  | .call _ _ | .callv _ _ | .inv _ _ _ => 4
  | .bad _ => 5
theorem b2 {α β γ : Type} {a : Option α} {b : Option β} {f : α → β → γ} {c : γ} (h : (do let x ← a; let y ← b; pure (f x y)) = some c) : ∃ x y, a = some x ∧ b = some y ∧ c = f x y := by
  simp only [Option.bind_eq_bind, Option.bind_eq_some_iff, Option.pure_def, Option.some.injEq] at h
  obtain ⟨x, hx, y, hy, h⟩ := h
  exact ⟨x, y, hx, hy, h.symm⟩
theorem b1 {α γ : Type} {a : Option α} {f : α → γ} {c : γ} (h : (do let x ← a; pure (f x)) = some c) : ∃ x, a = some x ∧ c = f x := by
  simp only [Option.bind_eq_bind, Option.bind_eq_some_iff, Option.pure_def, Option.some.injEq] at h
  obtain ⟨x, hx, h⟩ := h
  exact ⟨x, hx, h.symm⟩
theorem does_ok {op : BinOp} {A B : Operand} {yt : TypeId} {f : K} (ho : o.op = .binOp op t A B yt) (hg : (eqGuard op t A B (ac.eval A) (ac.eval B)).run P w = .ok () w) (h : Does2 ι P w op t (ac.eval A) (ac.eval B) f r) : OkV ι P w ac.eval o f r := by
  obtain ⟨v, V, h1, h2, h3⟩ := h
  exact ⟨v, V, h1, h2, exec_bin ho rfl rfl hg h3⟩
theorem isConst_or {A B : Operand} (h : (isConst A || isConst B) = true) : (∃ v, A = .const v) ∨ ∃ v, B = .const v := by
  cases A with
  | const v => exact .inl ⟨v, rfl⟩
  | _ => cases B with
    | const v => exact .inr ⟨v, rfl⟩
    | _ => simp [isConst] at h
theorem tv_same {x : AV} {X Y : Value} (hx : toV ι x = some X) (h : tv x = some Y) : X = Y := by
  rw [tv_ok h] at hx; injection hx with hx; exact hx.symm
theorem toList_beq (a b : ByteArray) : (a.toList == b.toList) = (a == b) := by
  rw [bytes_list, bytes_list, Bool.eq_iff_iff, MapKept.bytes_beq]
  simp only [beq_iff_eq]
  constructor
  · intro h
    cases h1 : a; cases h2 : b; rw [h1, h2] at h; congr 1; exact Array.ext' h
  · intro h; rw [h]
theorem told_ok {op : BinOp} {A B : Operand} {yt : TypeId} {c : Nat} {x y' v : AV} {f : K} (ho : o.op = .binOp op t A B yt)
    (hc : opOf c = some op ∨ (c = 10 ∧ op = .eql) ∨ (c = 11 ∧ op = .neq) ∨ (c = 18 ∧ op = .eql) ∨ (c = 19 ∧ op = .neq))
    (hx : toV ι x = some (ac.eval A)) (hy : toV ι y' = some (ac.eval B)) (hv : Told.tb c x y' = some v) (hk : f v = r) : OkV ι P w ac.eval o f r := by
  have hs := ToldOK.ok _ _ _ _ hv
  rcases hc with hc | ⟨rfl, rfl⟩ | ⟨rfl, rfl⟩ | ⟨rfl, rfl⟩ | ⟨rfl, rfl⟩
  · obtain ⟨q, q', a, b, V, h1, h2, h3, h4⟩ := hs.op _ hc
    have e1 := tv_same hx h1
    have e2 := tv_same hy h2
    exact does_ok ho (by rw [e1, e2]; exact guard_int) ⟨_, _, hk, tv_ok h3, by rw [e1, e2]; exact h4 _ _ _⟩
  · obtain ⟨q, a, b, h1, h2, h3⟩ := hs.eql rfl
    have e1 := tv_same hx h1
    have e2 := tv_same hy h2
    exact does_ok ho (by rw [e1, e2]; exact guard_int) ⟨_, _, hk, tv_ok h3, by rw [e1, e2]; simp [binOp, Op.intCmp]⟩
  · obtain ⟨q, a, b, h1, h2, h3⟩ := hs.neq rfl
    have e1 := tv_same hx h1
    have e2 := tv_same hy h2
    exact does_ok ho (by rw [e1, e2]; exact guard_int) ⟨_, _, hk, tv_ok h3, by rw [e1, e2]; simp [binOp, Op.intCmp, bne]⟩
  · obtain ⟨a, b, h1, h2, h3⟩ := hs.eqs rfl
    have e1 := tv_same hx h1
    have e2 := tv_same hy h2
    exact does_ok ho (by rw [e1, e2]; exact guard_str) ⟨_, _, hk, tv_ok h3, by rw [e1, e2]; simp only [binOp, Op.stringOp, Sem.run_pure, toList_beq]⟩
  · obtain ⟨a, b, h1, h2, h3⟩ := hs.nes rfl
    have e1 := tv_same hx h1
    have e2 := tv_same hy h2
    exact does_ok ho (by rw [e1, e2]; exact guard_str) ⟨_, _, hk, tv_ok h3, by rw [e1, e2]; simp only [binOp, Op.stringOp, Sem.run_pure, toList_beq]⟩
theorem u_bin {op : BinOp} {A B : Operand} {yt : TypeId} {c : Nat} {x y' : AV} {f : K} (hr : NE r) (ho : o.op = .binOp op t A B yt) (hb : binCode P op t A B = some c) (hx : toV ι x = some (ac.eval A)) (hy : toV ι y' = some (ac.eval B)) (h : den2 c x y' f = r) : OkV ι P w ac.eval o f r := by
  have gi : ∀ {op : BinOp} {F : Nat → Int → Int → Out}, two x y' F = r → (eqGuard op t A B (ac.eval A) (ac.eval B)).run P w = .ok () w := fun h2 => by
    obtain ⟨q, a, b, hq, hX, hY, _⟩ := two_vals h2 hr hx hy
    rw [hX, hY]; exact guard_int
  have gs : ∀ {op : BinOp} {F : List Nat → List Nat → Out}, vstr x (fun a => vstr y' fun b => F a b) = r → (eqGuard op t A B (ac.eval A) (ac.eval B)).run P w = .ok () w := fun h2 => by
    obtain ⟨a, hX, _, h3⟩ := str_val h2 hr hx
    obtain ⟨b, hY, _, _⟩ := str_val h3 hr hy
    rw [hX, hY]; exact guard_str
  have gb : ∀ {op : BinOp} {a b c d : Out}, vbool x (vbool y' a b) (vbool y' c d) = r → (eqGuard op t A B (ac.eval A) (ac.eval B)).run P w = .ok () w := fun h2 => by
    rcases bool_val h2 hr hx with ⟨hX, h3⟩ | ⟨hX, h3⟩ <;> rcases bool_val h3 hr hy with ⟨hY, _⟩ | ⟨hY, _⟩ <;> rw [hX, hY] <;> exact guard_bool
  have nt : ∀ {m : Nat}, nilTy P m t → (m = 4 → (∃ v, A = .const v) ∨ ∃ v, B = .const v) → NilAsk P m t A B := fun h1 h2 => ⟨h1, h2⟩
  have ii : ∀ {q : Nat}, (if isInt P t = true then some q else none) = some c → c = q := fun h2 => by
    split at h2
    · injection h2 with h2; exact h2.symm
    · cases h2
  cases op with
  | add =>
    simp only [binCode] at hb
    split at hb
    · injection hb with hb; subst hb
      rcases q0_inv hr h with h | ⟨v, hv, hk⟩
      · exact does_ok ho (gi h) (dAdd hr hx hy h)
      · exact told_ok ho (.inl rfl) hx hy hv hk
    · split at hb
      · injection hb with hb; subst hb
        exact does_ok ho (gs h) (dCat hr hx hy h)
      · cases hb
  | eql =>
    simp only [binCode, eqCode] at hb
    split at hb
    · injection hb with hb; subst hb
      rcases q10_inv hr h with h | ⟨v, hv, hk⟩
      · exact does_ok ho (gi h) (dEql hr hx hy h)
      · exact told_ok ho (by simp) hx hy hv hk
    · rename_i hu; injection hb with hb; subst hb; exact does_ok ho (gb h) (dEqB hu hr hx hy h)
    · injection hb with hb; subst hb
      rcases q18_inv hr h with h | ⟨v, hv, hk⟩
      · exact does_ok ho (gs h) (dEqS hr hx hy h)
      · exact told_ok ho (by simp) hx hy hv hk
    · rename_i el hu; injection hb with hb; subst hb; exact dEqN (m := 0) ho (nt ⟨_, hu⟩ (fun h => by cases h)) hr hx hy h
    · rename_i el hu; injection hb with hb; subst hb; exact dEqN (m := 1) ho (nt ⟨_, hu⟩ (fun h => by cases h)) hr hx hy h
    · rename_i a b c hu; injection hb with hb; subst hb; exact dEqN (m := 2) ho (nt ⟨_, _, _, hu⟩ (fun h => by cases h)) hr hx hy h
    · rename_i a b hu; injection hb with hb; subst hb; exact dEqN (m := 3) ho (nt ⟨_, _, hu⟩ (fun h => by cases h)) hr hx hy h
    · rename_i a hu
      split at hb
      · rename_i hcst; injection hb with hb; subst hb; exact dEqN (m := 4) ho (nt ⟨_, hu⟩ (fun _ => isConst_or hcst)) hr hx hy h
      · cases hb
    · cases hb
  | neq =>
    simp only [binCode, eqCode] at hb
    split at hb
    · injection hb with hb; subst hb
      rcases q11_inv hr h with h | ⟨v, hv, hk⟩
      · exact does_ok ho (gi h) (dNeq hr hx hy h)
      · exact told_ok ho (by simp) hx hy hv hk
    · rename_i hu; injection hb with hb; subst hb; exact does_ok ho (gb h) (dNeB hu hr hx hy h)
    · injection hb with hb; subst hb
      rcases q19_inv hr h with h | ⟨v, hv, hk⟩
      · exact does_ok ho (gs h) (dNeS hr hx hy h)
      · exact told_ok ho (by simp) hx hy hv hk
    · rename_i el hu; injection hb with hb; subst hb; exact dNeN (m := 0) ho (nt ⟨_, hu⟩ (fun h => by cases h)) hr hx hy h
    · rename_i el hu; injection hb with hb; subst hb; exact dNeN (m := 1) ho (nt ⟨_, hu⟩ (fun h => by cases h)) hr hx hy h
    · rename_i a b c hu; injection hb with hb; subst hb; exact dNeN (m := 2) ho (nt ⟨_, _, _, hu⟩ (fun h => by cases h)) hr hx hy h
    · rename_i a b hu; injection hb with hb; subst hb; exact dNeN (m := 3) ho (nt ⟨_, _, hu⟩ (fun h => by cases h)) hr hx hy h
    · rename_i a hu
      split at hb
      · rename_i hcst; injection hb with hb; subst hb; exact dNeN (m := 4) ho (nt ⟨_, hu⟩ (fun _ => isConst_or hcst)) hr hx hy h
      · cases hb
    · cases hb
  | sub =>
    obtain rfl := ii hb
    rcases q1_inv hr h with h | ⟨v, hv, hk⟩
    · exact does_ok ho (gi h) (dSub hr hx hy h)
    · exact told_ok ho (.inl rfl) hx hy hv hk
  | mul =>
    obtain rfl := ii hb
    rcases q2_inv hr h with h | ⟨v, hv, hk⟩
    · exact does_ok ho (gi h) (dMul hr hx hy h)
    · exact told_ok ho (.inl rfl) hx hy hv hk
  | quo =>
    obtain rfl := ii hb
    rcases q3_inv hr h with h | ⟨v, hv, hk⟩
    · exact does_ok ho (gi h) (dQuo hr hx hy h)
    · exact told_ok ho (.inl rfl) hx hy hv hk
  | rem =>
    obtain rfl := ii hb
    rcases q4_inv hr h with h | ⟨v, hv, hk⟩
    · exact does_ok ho (gi h) (dRem hr hx hy h)
    · exact told_ok ho (.inl rfl) hx hy hv hk
  | and =>
    obtain rfl := ii hb
    rcases q5_inv hr h with h | ⟨v, hv, hk⟩
    · exact does_ok ho (gi h) (dAnd hr hx hy h)
    · exact told_ok ho (.inl rfl) hx hy hv hk
  | or =>
    obtain rfl := ii hb
    rcases q6_inv hr h with h | ⟨v, hv, hk⟩
    · exact does_ok ho (gi h) (dOr hr hx hy h)
    · exact told_ok ho (.inl rfl) hx hy hv hk
  | xor =>
    obtain rfl := ii hb
    rcases q7_inv hr h with h | ⟨v, hv, hk⟩
    · exact does_ok ho (gi h) (dXor hr hx hy h)
    · exact told_ok ho (.inl rfl) hx hy hv hk
  | shl =>
    obtain rfl := ii hb
    rcases q8_inv hr h with h | ⟨v, hv, hk⟩
    · exact does_ok ho (by unfold eqGuard; simp) (dShl hr hx hy h)
    · exact told_ok ho (.inl rfl) hx hy hv hk
  | shr =>
    obtain rfl := ii hb
    rcases q9_inv hr h with h | ⟨v, hv, hk⟩
    · exact does_ok ho (by unfold eqGuard; simp) (dShr hr hx hy h)
    · exact told_ok ho (.inl rfl) hx hy hv hk
  | lss =>
    obtain rfl := ii hb
    rcases q12_inv hr h with h | ⟨v, hv, hk⟩
    · exact does_ok ho (gi h) (dLss hr hx hy h)
    · exact told_ok ho (.inl rfl) hx hy hv hk
  | leq =>
    obtain rfl := ii hb
    rcases q13_inv hr h with h | ⟨v, hv, hk⟩
    · exact does_ok ho (gi h) (dLeq hr hx hy h)
    · exact told_ok ho (.inl rfl) hx hy hv hk
  | gtr =>
    obtain rfl := ii hb
    rcases q14_inv hr h with h | ⟨v, hv, hk⟩
    · exact does_ok ho (gi h) (dGtr hr hx hy h)
    · exact told_ok ho (.inl rfl) hx hy hv hk
  | geq =>
    obtain rfl := ii hb
    rcases q15_inv hr h with h | ⟨v, hv, hk⟩
    · exact does_ok ho (gi h) (dGeq hr hx hy h)
    · exact told_ok ho (.inl rfl) hx hy hv hk
  | _ => simp [binCode] at hb
theorem some_bind {α β : Type} {a : Option α} {f : α → Option β} {c : β} (h : (a >>= f) = some c) : ∃ x, a = some x ∧ f x = some c := by
  simpa [Option.bind_eq_some_iff] using h
theorem pure_some {α : Type} {a b : α} (h : (pure a : Option α) = some b) : b = a := by
  simp only [Option.pure_def, Option.some.injEq] at h; exact h.symm
theorem fetch2 {A B : Operand} {a b : Opd} {f : AV → AV → Out} (ha : cOpd A = some a) (hb : cOpd B = some b) (hl : TR ι l ac.tmps) (he : TR ι e ac.tmps) (hr : NE r) (h : (fetch l e a fun a => fetch l e b fun b => f a b) = r) :
    ∃ x y, toV ι x = some (ac.eval A) ∧ toV ι y = some (ac.eval B) ∧ f x y = r := by
  obtain ⟨x, hx, h⟩ := fetch_inv ha hl he h hr
  obtain ⟨y, hy, h⟩ := fetch_inv hb hl he h hr
  exact ⟨x, y, hx, hy, h⟩
theorem exec_b2 {b : Builtin} {A B : Operand} {c : Call} {V : Value} (ho : o.op = .call c) (hc : c.callee = .builtin b) (hargs : c.args.toList = [A, B])
    (h : ∀ cs, (builtin b c.argTypes o.type cs #[ac.eval A, ac.eval B]).run P w = .ok (.value V) w) : (execOp ac.eval o).run P w = .ok (.value V) w := by
  have hargs' : c.args = #[A, B] := by rw [← Array.toArray_toList (xs := c.args), hargs]
  unfold execOp; rw [ho]
  simp only [resolve, hc, Sem.run_bind, Sem.run_pure, Result.andThen_ok, invoke]
  rw [hargs']
  simpa using h _
theorem cOpds1 {xs : List Operand} {x : Opd} (h : cOpds xs = some [x]) : ∃ A, xs = [A] ∧ cOpd A = some x := by
  match xs, h with
  | [], h => simp [cOpds] at h
  | [A], h =>
    simp only [cOpds] at h
    split at h
    · rename_i a r ha hr; simp only [Option.some.injEq, List.cons.injEq] at h hr; exact ⟨A, rfl, by rw [ha, h.1]⟩
    · cases h
  | A :: B :: l, h =>
    exfalso
    simp only [cOpds] at h
    split at h
    · rename_i a r ha hr
      split at hr
      · simp only [Option.some.injEq] at hr; subst hr; simp at h
      · cases hr
    · cases h
theorem cOpds2 {xs : List Operand} {x y : Opd} (h : cOpds xs = some [x, y]) : ∃ A B, xs = [A, B] ∧ cOpd A = some x ∧ cOpd B = some y := by
  match xs, h with
  | [], h => simp [cOpds] at h
  | A :: l, h =>
    simp only [cOpds] at h
    split at h
    · rename_i a r ha hr
      simp only [Option.some.injEq, List.cons.injEq] at h
      obtain ⟨rfl, rfl⟩ := h
      obtain ⟨B, rfl, hB⟩ := cOpds1 hr
      exact ⟨A, B, rfl, ha, hB⟩
    · cases h
theorem cOp_delete {args : Array Operand} {tys : Array TypeId} (hc : cOp P (.call { callee := .builtin .delete, args := args, argTypes := tys }) = some iop) :
    ∃ t kt et A B a b s, tys[0]? = some t ∧ args.toList = [A, B] ∧ cOpd A = some a ∧ cOpd B = some b ∧ P.underlying t = some (.map kt et) ∧ okey P kt = some s ∧ iop = .mapDel s a b := by
  simp only [cOp] at hc
  obtain ⟨t, ht, hc⟩ := some_bind hc
  split at hc
  · rename_i kt et hu
    obtain ⟨xy, hxy, hc⟩ := some_bind hc
    obtain ⟨⟨a, b⟩, hab, hc⟩ := some_bind hc
    split at hab
    · rename_i x y'
      simp only [Option.some.injEq, Prod.mk.injEq] at hab
      obtain ⟨rfl, rfl⟩ := hab
      obtain ⟨A, B, hA, hcA, hcB⟩ := cOpds2 hxy
      obtain ⟨s, hs, hc⟩ := some_bind hc
      obtain rfl := pure_some hc
      exact ⟨t, kt, et, A, B, x, y', s, ht, hA, hcA, hcB, hu, hs, rfl⟩
    · cases hab
  · cases hc
theorem cOp_append {args : Array Operand} {tys : Array TypeId} (hc : cOp P (.call { callee := .builtin .append, args := args, argTypes := tys }) = some iop) :
    ∃ t tx el A B a b sz by_ z, tys = #[t, tx] ∧ args.toList = [A, B] ∧ cOpd A = some a ∧ cOpd B = some b ∧ P.underlying t = some (.slice el) ∧ szOf P el = some sz ∧ byOf P el = some by_ ∧ zcOf P el = some z ∧ lenA z = sz ∧ sz ≠ 0 ∧ by_ ≠ 0 ∧
      ((∃ q, P.underlying tx = some (.int q) ∧ iop = .appZ sz by_ z a b) ∨ (((∃ e', P.underlying tx = some (.slice e')) ∨ P.underlying tx = some .string) ∧ iop = .app sz by_ a b)) := by
  simp only [cOp] at hc
  split at hc
  · simp at hc
  · rename_i hsz
    simp only [ne_eq, Decidable.not_not] at hsz
    obtain ⟨t, ht, hc⟩ := some_bind hc
    split at hc
    · rename_i el hu
      obtain ⟨xy, hxy, hc⟩ := some_bind hc
      obtain ⟨⟨a, b⟩, hab, hc⟩ := some_bind hc
      split at hab
      · rename_i x y' 
        simp only [Option.some.injEq, Prod.mk.injEq] at hab
        obtain ⟨rfl, rfl⟩ := hab
        obtain ⟨A, B, hA, hcA, hcB⟩ := cOpds2 hxy
        obtain ⟨sz, hs, hc⟩ := some_bind hc
        obtain ⟨by_, hb, hc⟩ := some_bind hc
        obtain ⟨z, hz, hc⟩ := some_bind hc
        split at hc
        · rename_i hcond
          obtain ⟨h1, h2, h3⟩ := hcond
          have htys : ∃ tx, tys = #[t, tx] := by
            obtain ⟨t0, tx, rfl⟩ : ∃ t0 tx, tys = #[t0, tx] := by
              match tys, hsz with
              | ⟨[p, q]⟩, _ => exact ⟨p, q, rfl⟩
              | ⟨[]⟩, h => simp at h
              | ⟨[_]⟩, h => simp at h
              | ⟨_ :: _ :: _ :: _⟩, h => simp at h
            simp at ht; subst ht; exact ⟨tx, rfl⟩
          obtain ⟨tx, rfl⟩ := htys
          refine ⟨t, tx, el, A, B, x, y', sz, by_, z, rfl, hA, hcA, hcB, hu, hs, hb, hz, h1, h2, h3, ?_⟩
          split at hc
          · rename_i q hq
            obtain rfl := pure_some hc
            exact .inl ⟨q, by simpa using hq, rfl⟩
          · rename_i hq
            obtain rfl := pure_some hc
            exact .inr ⟨.inr (by simpa using hq), rfl⟩
          · rename_i e' hq
            obtain rfl := pure_some hc
            exact .inr ⟨.inl ⟨e', by simpa using hq⟩, rfl⟩
          · cases hc
        · cases hc
      · cases hab
    · cases hc
theorem dPureCall {c : Call} (hop : o.op = .call c) (hc : cOp P (.call c) = some iop) (h0 : cls iop = 0) (hl : TR ι l ac.tmps) (he : TR ι e ac.tmps) (hr : NE r) (h : denOp y ih iop l e th n k = r) : OkV ι P w ac.eval o (fun v => k v th n) r := by
  obtain ⟨callee, args, tys⟩ := c
  cases callee with
  | value X =>
    cases X with
    | func f =>
      obtain ⟨a, ha, hc⟩ := some_bind hc
      obtain ⟨b, hb, hc⟩ := some_bind hc
      split at hc
      · obtain rfl := pure_some hc
        cases h0
      · split at hc
        · split at hc
          · obtain rfl := pure_some hc; cases h0
          · cases hc
        · cases hc
    | _ =>
      obtain ⟨a, ha, hc⟩ := some_bind hc
      obtain ⟨b, hb, hc⟩ := some_bind hc
      obtain rfl := pure_some hc
      cases h0
  | invoke _ _ =>
    obtain ⟨a, ha, hc⟩ := some_bind hc
    obtain ⟨b, hb, hc⟩ := some_bind hc
    obtain rfl := pure_some hc
    cases h0
  | builtin b =>
    cases b with
    | len =>
      simp only [cOp] at hc
      split at hc
      · rename_i x hx hu
        injection hc with hc; subst hc
        obtain ⟨A, hA, hcA⟩ := cOpds1 hx
        obtain ⟨s, hs, hu⟩ := Option.bind_eq_some_iff.1 hu
        obtain ⟨v, hv, h⟩ := fetch_inv hcA hl he h hr
        exact okLenS hop rfl hA hs hu hr hv h
      · rename_i x el hx hu
        injection hc with hc; subst hc
        obtain ⟨A, hA, hcA⟩ := cOpds1 hx
        obtain ⟨s, hs, hu⟩ := Option.bind_eq_some_iff.1 hu
        obtain ⟨v, hv, h⟩ := fetch_inv hcA hl he h hr
        exact okLenL hop rfl hA hs hu hr hv h
      · cases hc
    | cap =>
      simp only [cOp] at hc
      split at hc
      · rename_i x el hx hu
        injection hc with hc; subst hc
        obtain ⟨A, hA, hcA⟩ := cOpds1 hx
        obtain ⟨s, hs, hu⟩ := Option.bind_eq_some_iff.1 hu
        obtain ⟨v, hv, h⟩ := fetch_inv hcA hl he h hr
        exact okCap hop rfl hA hs hu hr hv h
      · cases hc
    | min =>
      simp only [cOp] at hc
      split at hc
      · rename_i a b hx
        injection hc with hc; subst hc
        obtain ⟨A, B, hA, hcA, hcB⟩ := cOpds2 hx
        obtain ⟨x, y', hx, hy, h⟩ := fetch2 hcA hcB hl he hr h
        obtain ⟨v, V, h1, h2, h3⟩ := dMin (P := P) (w := w) hr hx hy (show pMinMax false x y' (fun r => k r th n) = r from h)
        exact ⟨v, V, h1, h2, exec_b2 hop rfl hA fun cs => by simp [builtin, Builtin.min_, h3]⟩
      · cases hc
    | max =>
      simp only [cOp] at hc
      split at hc
      · rename_i a b hx
        injection hc with hc; subst hc
        obtain ⟨A, B, hA, hcA, hcB⟩ := cOpds2 hx
        obtain ⟨x, y', hx, hy, h⟩ := fetch2 hcA hcB hl he hr h
        obtain ⟨v, V, h1, h2, h3⟩ := dMax (P := P) (w := w) hr hx hy (show pMinMax true x y' (fun r => k r th n) = r from h)
        exact ⟨v, V, h1, h2, exec_b2 hop rfl hA fun cs => by simp [builtin, Builtin.max_, h3]⟩
      · cases hc
    | append =>
      obtain ⟨t, tx, el, A, B, a, b, sz, by_, z, _, _, _, _, _, _, _, _, _, _, _, h⟩ := cOp_append hc
      rcases h with ⟨q, _, rfl⟩ | ⟨_, rfl⟩ <;> cases h0
    | delete =>
      obtain ⟨_, _, _, _, _, _, _, _, _, _, _, _, _, _, rfl⟩ := cOp_delete hc
      cases h0
    | _ => simp [cOp] at hc
theorem dPure (hc : cOp P o.op = some iop) (h0 : cls iop = 0) (hl : TR ι l ac.tmps) (he : TR ι e ac.tmps) (hr : NE r) (h : denOp y ih iop l e th n k = r) : OkV ι P w ac.eval o (fun v => k v th n) r := by
  cases hop : o.op with
  | move X =>
    rw [hop] at hc
    obtain ⟨x, hx, hc⟩ := some_bind hc
    obtain rfl := pure_some hc
    obtain ⟨v, hv, h⟩ := fetch_inv hx hl he h hr
    exact okMv (.inl hop) hv h
  | assign X =>
    rw [hop] at hc
    obtain ⟨x, hx, hc⟩ := some_bind hc
    obtain rfl := pure_some hc
    obtain ⟨v, hv, h⟩ := fetch_inv hx hl he h hr
    exact okMv (.inr hop) hv h
  | pick C A B =>
    rw [hop] at hc
    obtain ⟨c, hcc, hc⟩ := some_bind hc
    obtain ⟨a, ha, hc⟩ := some_bind hc
    obtain ⟨b, hb, hc⟩ := some_bind hc
    obtain rfl := pure_some hc
    obtain ⟨vc, hvc, h⟩ := fetch_inv hcc hl he h hr
    obtain ⟨va, hva, h⟩ := fetch_inv ha hl he h hr
    obtain ⟨vb, hvb, h⟩ := fetch_inv hb hl he h hr
    exact okPick hop hr hvc hva hvb h
  | alloc t =>
    rw [hop] at hc
    obtain ⟨z, hz, hc⟩ := some_bind hc
    obtain rfl := pure_some hc
    cases h0
  | box t X =>
    rw [hop] at hc
    obtain ⟨z, hz, hc⟩ := some_bind hc
    obtain rfl := pure_some hc
    cases h0
  | build t PS =>
    rw [hop] at hc
    obtain ⟨z, hz, hc⟩ := some_bind hc
    split at hc
    · rename_i fs hu
      split at hc
      · rename_i hf
        obtain ⟨ps, hp, hc⟩ := some_bind hc
        obtain rfl := pure_some hc
        exact okBuildS hop hu hf hz hp hl he hr h
      · cases hc
    · rename_i m el hu
      obtain ⟨sz, hs, hc⟩ := some_bind hc
      obtain ⟨ps, hp, hc⟩ := some_bind hc
      obtain rfl := pure_some hc
      exact okBuildA hop hu hs hz hp hl he hr h
    · cases hc
  | nilCheck X =>
    rw [hop] at hc
    obtain ⟨x, hx, hc⟩ := some_bind hc
    obtain rfl := pure_some hc
    obtain ⟨v, hv, h⟩ := fetch_inv hx hl he h hr
    exact okNilChk hop hr hv h
  | binOp op t A B yt =>
    rw [hop] at hc
    simp only [cOp] at hc
    split at hc
    · rename_i hst
      split at hc
      · cases hc
      · rename_i hg
        split at hc
        · obtain ⟨cl, hcl, hc⟩ := some_bind hc
          obtain ⟨a, ha, hc⟩ := some_bind hc
          obtain ⟨b, hb, hc⟩ := some_bind hc
          obtain rfl := pure_some hc
          obtain ⟨x, y', hx, hy, h⟩ := fetch2 ha hb hl he hr h
          exact okEqA (neg := false) hop hst (by simpa using hg) hcl hr hx hy h
        · obtain ⟨cl, hcl, hc⟩ := some_bind hc
          obtain ⟨a, ha, hc⟩ := some_bind hc
          obtain ⟨b, hb, hc⟩ := some_bind hc
          obtain rfl := pure_some hc
          obtain ⟨x, y', hx, hy, h⟩ := fetch2 ha hb hl he hr h
          exact okEqA (neg := true) hop hst (by simpa using hg) hcl hr hx hy h
        · cases hc
    · obtain ⟨c, hcc, hc⟩ := some_bind hc
      obtain ⟨a, ha, hc⟩ := some_bind hc
      obtain ⟨b, hb, hc⟩ := some_bind hc
      obtain rfl := pure_some hc
      obtain ⟨x, y', hx, hy, h⟩ := fetch2 ha hb hl he hr h
      exact u_bin hr hop hcc hx hy h
  | unOp op t X =>
    rw [hop] at hc
    simp only [cOp] at hc
    split at hc
    · obtain ⟨x, hx, hc⟩ := some_bind hc
      obtain rfl := pure_some hc
      obtain ⟨v, hv, h⟩ := fetch_inv hx hl he h hr
      rcases tk1_inv h with h | ⟨v', hv', hk⟩
      · exact okNeg hop hr hv h
      · obtain ⟨q', a, V, h1, h2, h3⟩ := (ToldOK.ok _ _ _ _ hv').neg rfl
        refine ⟨_, _, hk, tv_ok h2, exec_v (by unfold execOp; rw [hop]) ?_⟩
        rw [tv_same hv h1]; exact h3 P w
    · obtain ⟨x, hx, hc⟩ := some_bind hc
      obtain rfl := pure_some hc
      obtain ⟨v, hv, h⟩ := fetch_inv hx hl he h hr
      exact okNot hop hr hv h
    · obtain ⟨x, hx, hc⟩ := some_bind hc
      obtain rfl := pure_some hc
      obtain ⟨v, hv, h⟩ := fetch_inv hx hl he h hr
      rcases tk1_inv h with h | ⟨v', hv', hk⟩
      · exact okXor1 hop hr hv h
      · obtain ⟨q', a, V, h1, h2, h3⟩ := (ToldOK.ok _ _ _ _ hv').xor1 rfl
        refine ⟨_, _, hk, tv_ok h2, exec_v (by unfold execOp; rw [hop]) ?_⟩
        rw [tv_same hv h1]; exact h3 P w
    · cases hc
  | convert S D X =>
    rw [hop] at hc
    simp only [cOp] at hc
    split at hc
    · rename_i a b hS hD
      obtain ⟨x, hx, hc⟩ := some_bind hc
      obtain rfl := pure_some hc
      obtain ⟨v, hv, h⟩ := fetch_inv hx hl he h hr
      rcases tk1_inv h with h | ⟨v', hv', hk⟩
      · exact okConvI hop hS hD hr hv h
      · obtain ⟨q', a, h1, h2⟩ := (ToldOK.ok _ _ _ _ hv').conv _ rfl
        refine ⟨_, _, hk, tv_ok h2, exec_v (by unfold execOp; rw [hop]) ?_⟩
        have e1 := tv_same hv h1
        rw [e1, kind_kno]
        simp [convert, run_underlying hS, run_underlying hD, Conv.intToInt]
    · rename_i hS hD
      obtain ⟨x, hx, hc⟩ := some_bind hc
      obtain rfl := pure_some hc
      obtain ⟨v, hv, h⟩ := fetch_inv hx hl he h hr
      exact okConvS hop hS hD hr hv h
    · split at hc
      · obtain ⟨x, hx, hc⟩ := some_bind hc
        obtain rfl := pure_some hc
        cases h0
      · cases hc
    · split at hc
      · obtain ⟨x, hx, hc⟩ := some_bind hc
        obtain rfl := pure_some hc
        cases h0
      · cases hc
    · cases hc
  | makeInterface t X =>
    rw [hop] at hc
    simp only [cOp] at hc
    split at hc
    · cases hc
    · cases hc
    · rename_i d hn hu
      obtain ⟨x, hx, hc⟩ := some_bind hc
      obtain rfl := pure_some hc
      obtain ⟨v, hv, h⟩ := fetch_inv hx hl he h hr
      exact okMkI hop hu (fun a e => hn a (by rw [← e])) hv h
  | typeAssert X xt T cm =>
    rw [hop] at hc
    simp only [cOp] at hc
    split at hc
    · cases hc
    · cases hc
    · rename_i d hn hu
      obtain ⟨z, hz, hc⟩ := some_bind hc
      obtain ⟨x, hx, hc⟩ := some_bind hc
      obtain rfl := pure_some hc
      obtain ⟨v, hv, h⟩ := fetch_inv hx hl he h hr
      exact okTas hop hu (fun a e => hn a (by rw [← e])) hz hr hv h
  | makeFunc f first caps =>
    rw [hop] at hc
    cases f with
    | func f =>
      simp only [cOp] at hc
      split at hc
      · rename_i hz
        obtain ⟨x, hx, hc⟩ := some_bind hc
        obtain rfl := pure_some hc
        obtain ⟨v, hv, h⟩ := fetchs_inv hx hl he h hr
        obtain rfl : first = #[] := Array.size_eq_zero_iff.1 hz
        exact okMkF hop hv h
      · split at hc
        · rename_i hz
          obtain ⟨x, hx, hc⟩ := some_bind hc
          obtain rfl := pure_some hc
          obtain ⟨v, hv, h⟩ := fetchs_inv hx hl he h hr
          obtain rfl : caps = #[] := Array.size_eq_zero_iff.1 hz
          exact okMkB hop hv h
        · cases hc
    | _ => simp [cOp] at hc
  | slice t X lo hi mx =>
    rw [hop] at hc
    simp only [cOp] at hc
    split at hc
    · rename_i hu
      split at hc
      · obtain ⟨x, hx, hc⟩ := some_bind hc
        obtain ⟨a, ha, hc⟩ := some_bind hc
        obtain ⟨b, hb, hc⟩ := some_bind hc
        obtain rfl := pure_some hc
        obtain ⟨v, hv, h⟩ := fetch_inv hx hl he h hr
        obtain ⟨va, h, hva⟩ := fetchO_inv ha hl he h hr
        obtain ⟨vb, h, hvb⟩ := fetchO_inv hb hl he h hr
        exact okSlS hop hu hr hv hva hvb h
      · cases hc
    · obtain ⟨sz, hs, hc⟩ := some_bind hc
      split at hc
      · obtain ⟨x, hx, hc⟩ := some_bind hc
        obtain ⟨a, ha, hc⟩ := some_bind hc
        obtain ⟨b, hb, hc⟩ := some_bind hc
        obtain ⟨c, hcc, hc⟩ := some_bind hc
        obtain rfl := pure_some hc
        cases h0
      · cases hc
    · cases hc
  | fieldAddr s X i =>
    rw [hop] at hc
    simp only [cOp] at hc
    split at hc
    · rename_i fs hu
      obtain ⟨f, hf, hc⟩ := some_bind hc
      obtain ⟨sz, hs, hc⟩ := some_bind hc
      split at hc
      · cases hc
      · rename_i hz
        obtain ⟨x, hx, hc⟩ := some_bind hc
        obtain rfl := pure_some hc
        obtain ⟨v, hv, h⟩ := fetch_inv hx hl he h hr
        exact okFad hop hu hf hs hz hr hv h
    · cases hc
  | field s X i =>
    rw [hop] at hc
    simp only [cOp] at hc
    split at hc
    · rename_i fs hu
      obtain ⟨f, hf, hc⟩ := some_bind hc
      obtain ⟨sz, hs, hc⟩ := some_bind hc
      obtain ⟨ag, hg, hc⟩ := some_bind hc
      obtain ⟨x, hx, hc⟩ := some_bind hc
      obtain rfl := pure_some hc
      obtain ⟨v, hv, h⟩ := fetch_inv hx hl he h hr
      exact okFld hop hu hf hs hg hr hv h
    · cases hc
  | indexAddr t X I =>
    rw [hop] at hc
    simp only [cOp] at hc
    split at hc
    · rename_i el hu
      obtain ⟨sz, hs, hc⟩ := some_bind hc
      obtain ⟨a, ha, hc⟩ := some_bind hc
      obtain ⟨b, hb, hc⟩ := some_bind hc
      obtain rfl := pure_some hc
      obtain ⟨x, y', hx, hy, h⟩ := fetch2 ha hb hl he hr h
      exact okIad hop hu hs hr hx hy h
    · cases hc
  | index t X I =>
    rw [hop] at hc
    simp only [cOp] at hc
    split at hc
    · rename_i hu
      obtain ⟨a, ha, hc⟩ := some_bind hc
      obtain ⟨b, hb, hc⟩ := some_bind hc
      obtain rfl := pure_some hc
      obtain ⟨x, y', hx, hy, h⟩ := fetch2 ha hb hl he hr h
      exact okIdxS hop hu hr hx hy h
    · cases hc
  | extract X i =>
    rw [hop] at hc
    obtain ⟨x, hx, hc⟩ := some_bind hc
    obtain rfl := pure_some hc
    obtain ⟨v, hv, h⟩ := fetch_inv hx hl he h hr
    exact okExt hop hr hv h
  | load t X =>
    rw [hop] at hc
    obtain ⟨ag, hg, hc⟩ := some_bind hc
    split at hc
    · obtain ⟨a, ha, hc⟩ := some_bind hc
      obtain ⟨b, hb, hc⟩ := some_bind hc
      obtain rfl := pure_some hc
      cases h0
    · obtain ⟨b, hb, hc⟩ := some_bind hc
      obtain rfl := pure_some hc
      cases h0
  | store t A B =>
    rw [hop] at hc
    obtain ⟨a, ha, hc⟩ := some_bind hc
    obtain ⟨b, hb, hc⟩ := some_bind hc
    obtain ⟨c, hcc, hc⟩ := some_bind hc
    obtain rfl := pure_some hc
    cases h0
  | lookup t A B ok =>
    rw [hop] at hc
    simp only [cOp] at hc
    split at hc
    · obtain ⟨a, ha, hc⟩ := some_bind hc
      obtain ⟨b, hb, hc⟩ := some_bind hc
      obtain ⟨c, hcc, hc⟩ := some_bind hc
      obtain ⟨d, hd, hc⟩ := some_bind hc
      obtain rfl := pure_some hc
      cases h0
    · cases hc
  | mapUpdate t A B C =>
    rw [hop] at hc
    simp only [cOp] at hc
    split at hc
    · obtain ⟨a, ha, hc⟩ := some_bind hc
      obtain ⟨b, hb, hc⟩ := some_bind hc
      obtain ⟨c, hcc, hc⟩ := some_bind hc
      obtain ⟨d, hd, hc⟩ := some_bind hc
      obtain rfl := pure_some hc
      cases h0
    · cases hc
  | makeMap t r' =>
    rw [hop] at hc
    cases r' with
    | none => simp only [cOp, Option.some.injEq] at hc; subst hc; cases h0
    | some r' => simp [cOp] at hc
  | makeSlice t A B =>
    rw [hop] at hc
    simp only [cOp] at hc
    split at hc
    · obtain ⟨a, ha, hc⟩ := some_bind hc
      obtain ⟨b, hb, hc⟩ := some_bind hc
      obtain ⟨c, hcc, hc⟩ := some_bind hc
      split at hc
      · obtain ⟨a, ha, hc⟩ := some_bind hc
        obtain ⟨b, hb, hc⟩ := some_bind hc
        obtain rfl := pure_some hc
        cases h0
      · cases hc
    · cases hc
  | buildSlice t m PS =>
    rw [hop] at hc
    simp only [cOp] at hc
    split at hc
    · obtain ⟨a, ha, hc⟩ := some_bind hc
      obtain ⟨b, hb, hc⟩ := some_bind hc
      split at hc
      · obtain ⟨a, ha, hc⟩ := some_bind hc
        obtain rfl := pure_some hc
        cases h0
      · cases hc
    · cases hc
  | call c =>
    rw [hop] at hc
    exact dPureCall hop hc h0 hl he hr h
  | _ => rw [hop] at hc; simp [cOp] at hc
end Ev
namespace Ev
open Go
variable [Told] [TokV] [ToldOK]
variable {ι : Rn} {P : Program} {w : World} {o : Oper} {r : Out} {t : TypeId} {ac : Act} {l e : T AV} {th : H} {n : Nat} {k : KH} {KK : G} {y : Yh} {ih : Ih} {iop : IOp} {g : G}
def clsOp : Op → List Nat
  | .move _ | .assign _ | .pick _ _ _ | .build _ _ | .nilCheck _ | .binOp _ _ _ _ _ | .unOp _ _ _ | .makeInterface _ _ | .makeFunc _ _ _ | .fieldAddr _ _ _ | .field _ _ _ | .indexAddr _ _ _ | .index _ _ _ | .extract _ _ | .typeAssert _ _ _ _ => [0]
  | .convert _ _ _ => [0, 1, 2]
  | .slice _ _ _ _ _ => [0, 1]
  | .load _ _ | .lookup _ _ _ _ => [1]
  | .alloc _ | .box _ _ | .buildSlice _ _ _ | .makeMap _ _ | .makeSlice _ _ _ => [2]
  | .store _ _ _ | .mapUpdate _ _ _ _ => [3]
  | .call c => match c.callee with
    | .builtin .append => [3]
    | .builtin .delete => [3]
    | .builtin _ => [0]
    | .value _ => [4, 3]
    | _ => [4]
  | _ => []
theorem cls_of {op : Op} (hc : cOp P op = some iop) : cls iop ∈ clsOp op := by
  cases op with
  | call c =>
    obtain ⟨callee, args, tys⟩ := c
    cases callee with
    | value X =>
      cases X with
      | func f =>
        obtain ⟨a, ha, hc⟩ := some_bind hc
        obtain ⟨b, hb, hc⟩ := some_bind hc
        split at hc
        · obtain rfl := pure_some hc
          exact .head _
        · split at hc
          · split at hc
            · obtain rfl := pure_some hc
              exact .tail _ (.head _)
            · cases hc
          · cases hc
      | _ =>
        obtain ⟨a, ha, hc⟩ := some_bind hc
        obtain ⟨b, hb, hc⟩ := some_bind hc
        obtain rfl := pure_some hc
        exact .head _
    | invoke _ _ =>
      obtain ⟨a, ha, hc⟩ := some_bind hc
      obtain ⟨b, hb, hc⟩ := some_bind hc
      obtain rfl := pure_some hc
      exact .head _
    | builtin b =>
      cases b with
      | append =>
        obtain ⟨t, tx, el, A, B, a, b, sz, by_, z, _, _, _, _, _, _, _, _, _, _, _, h⟩ := cOp_append hc
        rcases h with ⟨q, _, rfl⟩ | ⟨_, rfl⟩ <;> exact .head _
      | delete =>
        obtain ⟨t, kt, et, A, B, a, b, s, _, _, _, _, _, _, rfl⟩ := cOp_delete hc
        exact .head _
      | len | cap | min | max =>
        simp only [cOp] at hc
        split at hc <;> first | (cases hc; done) | (injection hc with hc; subst hc; exact .head _)
      | _ => simp [cOp] at hc
  | makeMap t r' =>
    cases r' with
    | none => simp only [cOp, Option.some.injEq] at hc; subst hc; exact .head _
    | some r' => simp [cOp] at hc
  | typeAssert x xt t cm =>
    simp only [cOp] at hc
    split at hc
    · cases hc
    · cases hc
    · obtain ⟨z, hz, hc⟩ := some_bind hc
      obtain ⟨a, ha, hc⟩ := some_bind hc
      obtain rfl := pure_some hc
      simp [cls, clsOp]
  | makeFunc f a b =>
    cases f with
    | func f =>
      simp only [cOp] at hc
      repeat' split at hc
      all_goals first
        | (cases hc; done)
        | (simp only [Option.bind_eq_bind, Option.bind_eq_some_iff, Option.pure_def, Option.some.injEq] at hc
           obtain ⟨_, _, hc⟩ := hc
           subst hc; simp [cls, clsOp])
    | _ => simp [cOp] at hc
  | _ =>
    simp only [cOp] at hc
    repeat' first
      | (cases hc; done)
      | (obtain ⟨_, _, hc⟩ := hc)
      | split at hc
      | (simp only [Option.bind_eq_bind, Option.bind_eq_some_iff, Option.pure_def, Option.some.injEq] at hc)
    all_goals simp [cls, clsOp]
theorem dRead (hc : cOp P o.op = some iop) (h0 : cls iop = 1) (hR : Rel ι (un th KK) w) (hl : TR ι l ac.tmps) (he : TR ι e ac.tmps) (hr : NE r) (h : denOp y ih iop l e th n k = r) : OkV ι P w ac.eval o (fun v => k v th n) r := by
  cases hop : o.op with
  | load t X =>
    rw [hop] at hc
    obtain ⟨ag, hg, hc⟩ := some_bind hc
    cases ag with
    | true =>
      obtain ⟨sz, hs, hc⟩ := some_bind hc
      obtain ⟨x, hx, hc⟩ := some_bind hc
      obtain rfl := pure_some hc
      obtain ⟨v, hv, h⟩ := fetch_inv hx hl he h hr
      exact okLdC hop hg hs hR hr hv h
    | false =>
      obtain ⟨x, hx, hc⟩ := some_bind hc
      obtain rfl := pure_some hc
      obtain ⟨v, hv, h⟩ := fetch_inv hx hl he h hr
      exact okLd hop hg hR hr hv h
  | lookup t A B ok =>
    rw [hop] at hc
    simp only [cOp] at hc
    split at hc
    · rename_i kt et hu
      obtain ⟨s, hk, hc⟩ := some_bind hc
      obtain ⟨z, hz, hc⟩ := some_bind hc
      obtain ⟨a, ha, hc⟩ := some_bind hc
      obtain ⟨b, hb, hc⟩ := some_bind hc
      obtain rfl := pure_some hc
      obtain ⟨x, y', hx, hy, h⟩ := fetch2 ha hb hl he hr h
      refine okLook hop hu hk hz hR hr hx hy ?_
      cases ok <;> exact h
    · cases hc
  | slice t X lo hi mx =>
    rw [hop] at hc
    simp only [cOp] at hc
    split at hc
    · rename_i hu
      split at hc
      · obtain ⟨x, hx, hc⟩ := some_bind hc
        obtain ⟨a, ha, hc⟩ := some_bind hc
        obtain ⟨b, hb, hc⟩ := some_bind hc
        obtain rfl := pure_some hc
        cases h0
      · cases hc
    · rename_i el hu
      obtain ⟨sz, hs, hc⟩ := some_bind hc
      split at hc
      · rename_i hcond
        obtain ⟨x, hx, hc⟩ := some_bind hc
        obtain ⟨a, ha, hc⟩ := some_bind hc
        obtain ⟨b, hb, hc⟩ := some_bind hc
        obtain ⟨c, hcc, hc⟩ := some_bind hc
        obtain rfl := pure_some hc
        obtain ⟨v, hv, h⟩ := fetch_inv hx hl he h hr
        obtain ⟨va, h, hva⟩ := fetchO_inv ha hl he h hr
        obtain ⟨vb, h, hvb⟩ := fetchO_inv hb hl he h hr
        obtain ⟨vc, h, hvc⟩ := fetchO_inv hcc hl he h hr
        exact okSlV hop hu hs hcond.1 hcond.2 hR hr hv hva hvb hvc h
      · cases hc
    · cases hc
  | convert S D X =>
    rw [hop] at hc
    simp only [cOp] at hc
    split at hc
    · obtain ⟨x, hx, hc⟩ := some_bind hc
      obtain rfl := pure_some hc
      cases h0
    · obtain ⟨x, hx, hc⟩ := some_bind hc
      obtain rfl := pure_some hc
      cases h0
    · split at hc
      · obtain ⟨x, hx, hc⟩ := some_bind hc
        obtain rfl := pure_some hc
        cases h0
      · cases hc
    · rename_i el hS hD
      split at hc
      · rename_i hel
        obtain ⟨x, hx, hc⟩ := some_bind hc
        obtain rfl := pure_some hc
        obtain ⟨v, hv, h⟩ := fetch_inv hx hl he h hr
        exact okB2S hop hS hD hel hR hr hv h
      · cases hc
    · cases hc
  | _ => have := cls_of hc; rw [hop, h0] at this; simp [clsOp] at this; try (split at this <;> simp at this)
theorem dAlloc (hc : cOp P o.op = some iop) (h0 : cls iop = 2) (hR : Rel ι g w) (hn : g n = none) (hl : TR ι l ac.tmps) (he : TR ι e ac.tmps) (hr : NE r) (h : denOp y ih iop l e th n k = r) : OkA ι g P w ac.eval o th n k r := by
  cases hop : o.op with
  | alloc t =>
    rw [hop] at hc
    obtain ⟨z, hz, hc⟩ := some_bind hc
    obtain rfl := pure_some hc
    exact okAlloc hop hz hR hn hr h
  | box t X =>
    rw [hop] at hc
    obtain ⟨x, hx, hc⟩ := some_bind hc
    obtain rfl := pure_some hc
    obtain ⟨v, hv, h⟩ := fetch_inv hx hl he h hr
    exact okBox hop hR hn hr hv h
  | buildSlice t m PS =>
    rw [hop] at hc
    simp only [cOp] at hc
    split at hc
    · rename_i el hu
      obtain ⟨sz, hs, hc⟩ := some_bind hc
      obtain ⟨z, hz, hc⟩ := some_bind hc
      split at hc
      · rename_i hcond
        obtain ⟨ps, hp, hc⟩ := some_bind hc
        obtain rfl := pure_some hc
        exact okRowSl hop hu hs hz hcond.1 hcond.2.1 hcond.2.2 hp hl he hR hn hr h
      · cases hc
    · cases hc
  | makeMap t r' =>
    rw [hop] at hc
    cases r' with
    | none => simp only [cOp, Option.some.injEq] at hc; subst hc; exact okMkMap hop hR hn h
    | some r' => simp [cOp] at hc
  | makeSlice t A B =>
    rw [hop] at hc
    simp only [cOp] at hc
    split at hc
    · rename_i el hu
      obtain ⟨sz, hs, hc⟩ := some_bind hc
      obtain ⟨z, hz, hc⟩ := some_bind hc
      obtain ⟨by_, hb, hc⟩ := some_bind hc
      split at hc
      · rename_i hcond
        obtain ⟨a, ha, hc⟩ := some_bind hc
        obtain ⟨b, hbb, hc⟩ := some_bind hc
        obtain rfl := pure_some hc
        obtain ⟨x, y', hx, hy, h⟩ := fetch2 ha hbb hl he hr h
        exact okMkSl hop hu hs hb hz hcond.1 hcond.2.1 hcond.2.2 hR hn hr hx hy h
      · cases hc
    · cases hc
  | convert S D X =>
    rw [hop] at hc
    simp only [cOp] at hc
    split at hc
    · obtain ⟨x, hx, hc⟩ := some_bind hc
      obtain rfl := pure_some hc
      cases h0
    · obtain ⟨x, hx, hc⟩ := some_bind hc
      obtain rfl := pure_some hc
      cases h0
    · rename_i el hS hD
      split at hc
      · rename_i hel
        obtain ⟨x, hx, hc⟩ := some_bind hc
        obtain rfl := pure_some hc
        obtain ⟨v, hv, h⟩ := fetch_inv hx hl he h hr
        exact okS2B hop hS hD hel hR hn hr hv h
      · cases hc
    · split at hc
      · obtain ⟨x, hx, hc⟩ := some_bind hc
        obtain rfl := pure_some hc
        cases h0
      · cases hc
    · cases hc
  | _ => have := cls_of hc; rw [hop, h0] at this; simp [clsOp] at this; try (split at this <;> simp at this)
theorem dWrite (hc : cOp P o.op = some iop) (h0 : cls iop = 3) (hR : Rel ι (un th KK) w) (hH : HT th n) (hl : TR ι l ac.tmps) (he : TR ι e ac.tmps) (hr : NE r) (h : denOp y ih iop l e th n k = r) : OkW ι KK P w ac.eval o n k r := by
  cases hop : o.op with
  | store t A B =>
    rw [hop] at hc
    obtain ⟨sz, hs, hc⟩ := some_bind hc
    obtain ⟨a, ha, hc⟩ := some_bind hc
    obtain ⟨b, hb, hc⟩ := some_bind hc
    obtain rfl := pure_some hc
    obtain ⟨x, y', hx, hy, h⟩ := fetch2 ha hb hl he hr h
    exact okSt hop hs hR hH hr hx hy h
  | mapUpdate t A B C =>
    rw [hop] at hc
    simp only [cOp] at hc
    split at hc
    · rename_i kt et hu
      obtain ⟨s, hk, hc⟩ := some_bind hc
      obtain ⟨a, ha, hc⟩ := some_bind hc
      obtain ⟨b, hb, hc⟩ := some_bind hc
      obtain ⟨c, hcc, hc⟩ := some_bind hc
      obtain rfl := pure_some hc
      obtain ⟨x, hx, h⟩ := fetch_inv ha hl he h hr
      obtain ⟨x2, hx2, h⟩ := fetch_inv hb hl he h hr
      obtain ⟨x3, hx3, h⟩ := fetch_inv hcc hl he h hr
      exact okMapUpd hop hu hk hR hH hr hx hx2 hx3 h
    · cases hc
  | call c =>
    rw [hop] at hc
    obtain ⟨callee, args, tys⟩ := c
    cases callee with
    | builtin b =>
      cases b with
      | append =>
        obtain ⟨t, tx, el, A, B, a, b, sz, by_, z, hty, hA, hcA, hcB, hu, hs, hb, hz, hz0, h1, h2, h3⟩ := cOp_append hc
        rcases h3 with ⟨q, hq, rfl⟩ | ⟨hq, rfl⟩
        · obtain ⟨x, y', hx, hy, h⟩ := fetch2 hcA hcB hl he hr h
          exact okAppZ hop rfl hA hty hu hq hs hb hz hz0 h1 h2 hR hH hr hx hy h
        · obtain ⟨x, y', hx, hy, h⟩ := fetch2 hcA hcB hl he hr h
          exact okApp hop rfl hA hty hu hq hs hb hz hz0 h1 h2 hR hH hr hx hy h
      | delete =>
        obtain ⟨t, kt, et, A, B, a, b, s, hty, hA, hcA, hcB, hu, hs, rfl⟩ := cOp_delete hc
        obtain ⟨x, y', hx, hy, h⟩ := fetch2 hcA hcB hl he hr h
        exact okMapDel hop rfl hA hty hu hs hR hH hr hx hy h
      | _ => have := cls_of hc; rw [h0] at this; simp [clsOp] at this
    | value X =>
      cases X with
      | func f =>
        obtain ⟨a, ha, hc⟩ := some_bind hc
        obtain ⟨fn, hf, hc⟩ := some_bind hc
        split at hc
        · obtain rfl := pure_some hc; cases h0
        · split at hc
          · rename_i x y
            split at hc
            · rename_i hcond
              obtain rfl := pure_some hc
              simp only [Bool.and_eq_true, beq_iff_eq] at hcond
              obtain ⟨A, B, hA, hcA, hcB⟩ := cOpds2 ha
              obtain ⟨x, y', hx, hy, h⟩ := fetch2 hcA hcB hl he hr h
              exact okIxb hop rfl hA hf hcond.1.1 hcond.1.2 hcond.2 hR hH hr hx hy h
            · cases hc
          · cases hc
      | _ =>
        obtain ⟨a, ha, hc⟩ := some_bind hc
        obtain ⟨b, hb, hc⟩ := some_bind hc
        obtain rfl := pure_some hc; cases h0
    | _ => have := cls_of hc; rw [h0] at this; simp [clsOp] at this
  | _ => have := cls_of hc; rw [hop, h0] at this; simp [clsOp] at this
end Ev
namespace Ev
open Go
variable [Told] [TokV] [ToldOK]
variable {r : Out}
theorem h_pAdd {x y : AV} {K : K} (hr : NE r) (h : pAdd x y K = r) : ∃ v, K v = r := by
  unfold pAdd at h
  obtain ⟨_, _, _, _, _, _, h⟩ := two_inv h hr
  rw [pI_eq] at h
  exact ⟨_, h⟩
theorem h_pSub {x y : AV} {K : K} (hr : NE r) (h : pSub x y K = r) : ∃ v, K v = r := by
  unfold pSub at h
  obtain ⟨_, _, _, _, _, _, h⟩ := two_inv h hr
  rw [pI_eq] at h
  exact ⟨_, h⟩
theorem h_pMul {x y : AV} {K : K} (hr : NE r) (h : pMul x y K = r) : ∃ v, K v = r := by
  unfold pMul at h
  obtain ⟨_, _, _, _, _, _, h⟩ := two_inv h hr
  rw [pI_eq] at h
  exact ⟨_, h⟩
theorem h_pQuo {x y : AV} {K : K} (hr : NE r) (h : pQuo x y K = r) : ∃ v, K v = r := by
  unfold pQuo at h
  obtain ⟨_, _, _, _, _, _, h⟩ := two_inv h hr
  rcases bO_cases h with ⟨_, h⟩ | ⟨_, h⟩
  · exact absurd h.symm (hr _)
  · rw [pI_eq] at h
    exact ⟨_, h⟩
theorem h_pRem {x y : AV} {K : K} (hr : NE r) (h : pRem x y K = r) : ∃ v, K v = r := by
  unfold pRem at h
  obtain ⟨_, _, _, _, _, _, h⟩ := two_inv h hr
  rcases bO_cases h with ⟨_, h⟩ | ⟨_, h⟩
  · exact absurd h.symm (hr _)
  · rw [pI_eq] at h
    exact ⟨_, h⟩
theorem h_pShl {x y : AV} {K : K} (hr : NE r) (h : pShl x y K = r) : ∃ v, K v = r := by
  unfold pShl at h
  obtain ⟨_, _, _, _, h⟩ := vint_inv h hr
  obtain ⟨_, _, _, _, h⟩ := vnat_inv h hr
  rcases bO_cases h with ⟨_, h⟩ | ⟨_, h⟩
  · rw [pI_eq] at h
    exact ⟨_, h⟩
  · obtain ⟨_, h⟩ := bO_inv h hr
    obtain ⟨_, h⟩ := bO_inv h hr
    rw [pI_eq] at h
    exact ⟨_, h⟩
theorem h_pShr {x y : AV} {K : K} (hr : NE r) (h : pShr x y K = r) : ∃ v, K v = r := by
  unfold pShr at h
  obtain ⟨_, _, _, _, h⟩ := vint_inv h hr
  obtain ⟨_, _, _, _, h⟩ := vnat_inv h hr
  rcases bO_cases h with ⟨_, h⟩ | ⟨_, h⟩
  · obtain ⟨_, _, h⟩ := natI_inv h hr
    rw [pI_eq] at h
    exact ⟨_, h⟩
  · obtain ⟨_, h⟩ := bO_inv h hr
    obtain ⟨_, h⟩ := bO_inv h hr
    obtain ⟨_, _, h⟩ := natI_inv h hr
    rw [pI_eq] at h
    exact ⟨_, h⟩
theorem h_pEql {x y : AV} {K : K} (hr : NE r) (h : pEql x y K = r) : ∃ v, K v = r := by
  unfold pEql at h
  obtain ⟨_, _, _, _, _, _, h⟩ := two_inv h hr
  rw [pB_eq] at h
  exact ⟨_, h⟩
theorem h_pNeq {x y : AV} {K : K} (hr : NE r) (h : pNeq x y K = r) : ∃ v, K v = r := by
  unfold pNeq at h
  obtain ⟨_, _, _, _, _, _, h⟩ := two_inv h hr
  rw [nB_eq] at h
  exact ⟨_, h⟩
theorem h_pLss {x y : AV} {K : K} (hr : NE r) (h : pLss x y K = r) : ∃ v, K v = r := by
  unfold pLss at h
  obtain ⟨_, _, _, _, _, _, h⟩ := two_inv h hr
  rw [nB_eq] at h
  exact ⟨_, h⟩
theorem h_pLeq {x y : AV} {K : K} (hr : NE r) (h : pLeq x y K = r) : ∃ v, K v = r := by
  unfold pLeq at h
  obtain ⟨_, _, _, _, _, _, h⟩ := two_inv h hr
  rw [pB_eq] at h
  exact ⟨_, h⟩
theorem h_pGtr {x y : AV} {K : K} (hr : NE r) (h : pGtr x y K = r) : ∃ v, K v = r := by
  unfold pGtr at h
  obtain ⟨_, _, _, _, _, _, h⟩ := two_inv h hr
  rw [nB_eq] at h
  exact ⟨_, h⟩
theorem h_pGeq {x y : AV} {K : K} (hr : NE r) (h : pGeq x y K = r) : ∃ v, K v = r := by
  unfold pGeq at h
  obtain ⟨_, _, _, _, _, _, h⟩ := two_inv h hr
  rw [pB_eq] at h
  exact ⟨_, h⟩
theorem h_pNeg {x : AV} {K : K} (hr : NE r) (h : pNeg x K = r) : ∃ v, K v = r := by
  unfold pNeg at h
  obtain ⟨_, _, _, _, h⟩ := vint_inv h hr
  rw [pI_eq] at h
  exact ⟨_, h⟩
theorem h_pNot {x : AV} {K : K} (hr : NE r) (h : pNot x K = r) : ∃ v, K v = r := by
  unfold pNot at h
  rcases vbool_inv h hr with ⟨_, h⟩ | ⟨_, _, _, h⟩ <;> exact ⟨_, h⟩
theorem h_pEqB {x y : AV} {K : K} (hr : NE r) (h : pEqB x y K = r) : ∃ v, K v = r := by
  unfold pEqB at h
  rcases vbool_inv h hr with ⟨_, h⟩ | ⟨_, _, _, h⟩ <;> rcases vbool_inv h hr with ⟨_, h⟩ | ⟨_, _, _, h⟩ <;> exact ⟨_, h⟩
theorem h_pNeB {x y : AV} {K : K} (hr : NE r) (h : pNeB x y K = r) : ∃ v, K v = r := by
  unfold pNeB at h
  rcases vbool_inv h hr with ⟨_, h⟩ | ⟨_, _, _, h⟩ <;> rcases vbool_inv h hr with ⟨_, h⟩ | ⟨_, _, _, h⟩ <;> exact ⟨_, h⟩
theorem h_pEqS {x y : AV} {K : K} (hr : NE r) (h : pEqS x y K = r) : ∃ v, K v = r := by
  unfold pEqS at h
  obtain ⟨_, _, h⟩ := vstr_inv h hr
  obtain ⟨_, _, h⟩ := vstr_inv h hr
  rw [pB_eq] at h
  exact ⟨_, h⟩
theorem h_pNeS {x y : AV} {K : K} (hr : NE r) (h : pNeS x y K = r) : ∃ v, K v = r := by
  unfold pNeS at h
  obtain ⟨_, _, h⟩ := vstr_inv h hr
  obtain ⟨_, _, h⟩ := vstr_inv h hr
  rw [nB_eq] at h
  exact ⟨_, h⟩
theorem h_pCat {x y : AV} {K : K} (hr : NE r) (h : pCat x y K = r) : ∃ v, K v = r := by
  unfold pCat at h
  obtain ⟨_, _, h⟩ := vstr_inv h hr
  obtain ⟨_, _, h⟩ := vstr_inv h hr
  obtain ⟨_, h⟩ := bO_inv h hr
  exact ⟨_, h⟩
theorem h_pNilChk {x : AV} {K : K} (hr : NE r) (h : pNilChk x K = r) : ∃ v, K v = r := by
  unfold pNilChk at h
  obtain ⟨_, h⟩ := bO_inv h hr
  obtain ⟨_, h⟩ := bO_inv h hr
  exact ⟨_, h⟩
theorem h_pIdxS {x y : AV} {K : K} (hr : NE r) (h : pIdxS x y K = r) : ∃ v, K v = r := by
  unfold pIdxS at h
  obtain ⟨_, _, _, _, h⟩ := vnat_inv h hr
  obtain ⟨_, _, h⟩ := vstr_inv h hr
  obtain ⟨_, _, h⟩ := snth_inv h hr
  exact ⟨_, h⟩
theorem h_pIdxByte {x y : AV} {K : K} (hr : NE r) (h : pIdxByte x y K = r) : ∃ v, K v = r := by
  unfold pIdxByte at h
  obtain ⟨_, _, h⟩ := vstr_inv h hr
  obtain ⟨_, i, _, h⟩ := vnum_inv h hr
  obtain ⟨_, h⟩ := bO_inv h hr
  cases i with
  | ofNat m => exact ⟨_, (pI_eq _ _ _).symm.trans h⟩
  | negSucc m => exact absurd h.symm (hr _)
theorem h_pLenS {x : AV} {K : K} (hr : NE r) (h : pLenS x K = r) : ∃ v, K v = r := by
  unfold pLenS at h
  obtain ⟨_, _, h⟩ := vstr_inv h hr
  rw [pI_eq] at h
  exact ⟨_, h⟩
theorem h_pXor1 {x : AV} {K : K} (hr : NE r) (h : pXor1 x K = r) : ∃ v, K v = r := by
  unfold pXor1 at h
  obtain ⟨_, _, _, _, h⟩ := vint_inv h hr
  rw [pI_eq] at h
  exact ⟨_, h⟩
theorem h_tasNo {cm : Bool} {z : AV} {K : K} (hr : NE r) (h : tasNo cm z K = r) : ∃ v, K v = r := by
  cases cm with
  | false => exact absurd h.symm (hr _)
  | true => exact ⟨_, h⟩
theorem h_tasYes {cm : Bool} {z : AV} {K : K} (h : tasYes cm z K = r) : ∃ v, K v = r := by
  cases cm with
  | false => exact ⟨_, h⟩
  | true => exact ⟨_, h⟩
theorem h_pTas {cm : Bool} {want : Nat} {z v : AV} {K : K} (hr : NE r) (h : pTas cm want z v K = r) : ∃ v, K v = r := by
  cases v with
  | ref g b e o' l c =>
    obtain ⟨_, h2⟩ := bO_inv (show bO (Nat.beq g 10) (tasNo cm z K) (.err 80) = r from h) hr
    exact h_tasNo hr h2
  | com g t' l =>
    obtain ⟨_, h2⟩ := bO_inv (show bO (Nat.beq g 3) (bO (Nat.beq t' want) (lnth l 0 fun x => tasYes cm x K) (tasNo cm z K)) (.err 80) = r from h) hr
    rcases bO_cases h2 with ⟨_, h3⟩ | ⟨_, h3⟩
    · obtain ⟨_, _, h4⟩ := lnth_inv h3 hr
      exact h_tasYes h4
    · exact h_tasNo hr h3
  | _ => exact absurd h.symm (hr _)
theorem h_pStr {x : AV} {K : K} (hr : NE r) (h : pStr x K = r) : ∃ v, K v = r := by
  unfold pStr at h
  obtain ⟨_, _, h⟩ := vstr_inv h hr
  exact ⟨_, h⟩
theorem h_pLenL {x : AV} {K : K} (hr : NE r) (h : pLenL x K = r) : ∃ v, K v = r := by
  unfold pLenL at h
  obtain ⟨_, _, _, _, _, _, _, h⟩ := vref_inv h hr
  rcases isSl_cases h with ⟨_, h⟩ | ⟨_, _, h⟩
  · exact ⟨_, h⟩
  · rcases bO_cases h with ⟨_, h⟩ | ⟨_, h⟩
    · exact ⟨_, h⟩
    · rcases bO_cases h with ⟨_, h⟩ | ⟨_, h⟩
      · exact ⟨_, h⟩
      · rcases bO_cases h with ⟨_, h⟩ | ⟨_, h⟩
        · exact ⟨_, h⟩
        · obtain ⟨_, h⟩ := bO_inv h hr
          exact ⟨_, h⟩
theorem h_pCap {x : AV} {K : K} (hr : NE r) (h : pCap x K = r) : ∃ v, K v = r := by
  unfold pCap at h
  obtain ⟨_, _, _, _, _, _, _, h⟩ := vref_inv h hr
  rcases bO_cases h with ⟨_, h⟩ | ⟨_, h⟩
  · exact ⟨_, h⟩
  · rcases bO_cases h with ⟨_, h⟩ | ⟨_, h⟩
    · exact ⟨_, h⟩
    · rcases bO_cases h with ⟨_, h⟩ | ⟨_, h⟩
      · exact ⟨_, h⟩
      · obtain ⟨_, h⟩ := bO_inv h hr
        exact ⟨_, h⟩
theorem h_pEqN {m : Nat} {x y : AV} {K : K} (hr : NE r) (h : pEqN m x y K = r) : ∃ v, K v = r := by
  unfold pEqN isNil at h
  obtain ⟨_, h⟩ := bO_inv h hr
  rcases bO_cases h with ⟨_, h⟩ | ⟨_, h⟩
  · obtain ⟨_, h⟩ := bO_inv h hr
    rcases bO_cases h with ⟨_, h⟩ | ⟨_, h⟩ <;> exact ⟨_, h⟩
  · obtain ⟨_, h⟩ := bO_inv h hr
    obtain ⟨_, h⟩ := bO_inv h hr
    exact ⟨_, h⟩
theorem h_pNeN {m : Nat} {x y : AV} {K : K} (hr : NE r) (h : pNeN m x y K = r) : ∃ v, K v = r := by
  unfold pNeN isNil at h
  obtain ⟨_, h⟩ := bO_inv h hr
  rcases bO_cases h with ⟨_, h⟩ | ⟨_, h⟩
  · obtain ⟨_, h⟩ := bO_inv h hr
    rcases bO_cases h with ⟨_, h⟩ | ⟨_, h⟩ <;> exact ⟨_, h⟩
  · obtain ⟨_, h⟩ := bO_inv h hr
    obtain ⟨_, h⟩ := bO_inv h hr
    exact ⟨_, h⟩
theorem h_pBit {g : Nat → Nat → Nat} {x y : AV} {K : K} (hr : NE r) (h : pBit g x y K = r) : ∃ v, K v = r := by
  unfold pBit at h
  obtain ⟨_, _, _, _, _, _, h⟩ := two_inv h hr
  obtain ⟨_, _, h⟩ := natI_inv h hr
  obtain ⟨_, _, h⟩ := natI_inv h hr
  rw [pI_eq] at h
  exact ⟨_, h⟩
theorem h_pMinMax {b : Bool} {x y : AV} {K : K} (hr : NE r) (h : pMinMax b x y K = r) : ∃ v, K v = r := by
  unfold pMinMax at h
  obtain ⟨_, _, _, _, _, _, h⟩ := two_inv h hr
  cases b <;> rcases bO_cases h with ⟨_, h⟩ | ⟨_, h⟩ <;> exact ⟨_, h⟩
theorem h_eqLeaf {c : Nat} {x y : AV} {f : Bool → Out} (hr : NE r) (h : eqLeaf c x y f = r) : ∃ b, f b = r := by
  unfold eqLeaf at h
  split at h
  · rcases tk2_inv h with h | ⟨_, _, h⟩
    · obtain ⟨_, _, _, _, _, _, h⟩ := two_inv h hr; exact ⟨_, h⟩
    · rcases vbool_inv h hr with ⟨_, h⟩ | ⟨_, _, _, h⟩ <;> exact ⟨_, h⟩
  · rcases tk2_inv h with h | ⟨_, _, h⟩
    · obtain ⟨_, _, h⟩ := vstr_inv h hr
      obtain ⟨_, _, h⟩ := vstr_inv h hr
      exact ⟨_, h⟩
    · rcases vbool_inv h hr with ⟨_, h⟩ | ⟨_, _, _, h⟩ <;> exact ⟨_, h⟩
  · rcases vbool_inv h hr with ⟨_, h⟩ | ⟨_, _, _, h⟩ <;> rcases vbool_inv h hr with ⟨_, h⟩ | ⟨_, _, _, h⟩ <;> exact ⟨_, h⟩
theorem h_eqCells : ∀ {cl : List Nat} {a b : AV} {f : Bool → Out}, NE r → eqCells cl a b f = r → ∃ b, f b = r
  | [], _, _, _, _, h => ⟨_, h⟩
  | c :: cl, a, b, f, hr, h => by
    obtain ⟨_, _, _, h⟩ := lcons_inv (show lcons a _ = r from h) hr
    obtain ⟨_, _, _, h⟩ := lcons_inv h hr
    obtain ⟨_, h⟩ := h_eqLeaf hr h
    rcases bO_cases h with ⟨_, h⟩ | ⟨_, h⟩
    · exact h_eqCells hr h
    · exact ⟨_, h⟩
theorem h_pEqA {cl : List Nat} {x y : AV} {K : K} (hr : NE r) (h : pEqA cl x y K = r) : ∃ v, K v = r := by
  unfold pEqA at h
  obtain ⟨_, _, _, h⟩ := vagg_inv h hr
  obtain ⟨_, _, _, h⟩ := vagg_inv h hr
  obtain ⟨_, h⟩ := h_eqCells hr h
  rw [pB_eq] at h
  exact ⟨_, h⟩
theorem h_pNeA {cl : List Nat} {x y : AV} {K : K} (hr : NE r) (h : pNeA cl x y K = r) : ∃ v, K v = r := by
  unfold pNeA at h
  obtain ⟨_, _, _, h⟩ := vagg_inv h hr
  obtain ⟨_, _, _, h⟩ := vagg_inv h hr
  obtain ⟨_, h⟩ := h_eqCells hr h
  rw [nB_eq] at h
  exact ⟨_, h⟩
theorem h_pPick {c a b : AV} {K : K} (hr : NE r) (h : pPick c a b K = r) : ∃ v, K v = r := by
  unfold pPick at h
  rcases vbool_inv h hr with ⟨_, h⟩ | ⟨_, _, _, h⟩ <;> exact ⟨_, h⟩
theorem h_pConv {q : Nat} {x : AV} {K : K} (hr : NE r) (h : pConv q x K = r) : ∃ v, K v = r := by
  unfold pConv at h
  obtain ⟨_, _, _, _, h⟩ := vint_inv h hr
  rw [pI_eq] at h
  exact ⟨_, h⟩
theorem h_pFad {q : Nat} {x : AV} {K : K} (hr : NE r) (h : pFad q x K = r) : ∃ v, K v = r := by
  unfold pFad at h
  obtain ⟨_, _, _, _, _, _, _, h⟩ := vref_inv h hr
  rcases bO_cases h with ⟨_, h⟩ | ⟨_, h⟩
  · rw [forceN_eq] at h
    exact ⟨_, h⟩
  · obtain ⟨_, h⟩ := bO_inv h hr
    obtain ⟨_, _, _, h⟩ := adA_inv h
    exact ⟨_, h⟩
theorem h_pFld {off sz : Nat} {ag : Bool} {x : AV} {K : K} (hr : NE r) (h : pFld off sz ag x K = r) : ∃ v, K v = r := by
  unfold pFld at h
  obtain ⟨_, l, _, h⟩ := vagg_inv h hr
  cases ag with
  | false => obtain ⟨_, _, h⟩ := lnth_inv (show lnth l off K = r from h) hr; exact ⟨_, h⟩
  | true => obtain ⟨_, h⟩ := bO_inv h hr; exact ⟨_, h⟩
theorem h_pExt {i : Nat} {x : AV} {K : K} (hr : NE r) (h : pExt i x K = r) : ∃ v, K v = r := by
  unfold pExt at h
  obtain ⟨_, _, _, h⟩ := vtup_inv h hr
  obtain ⟨_, _, h⟩ := lnth_inv h hr
  exact ⟨_, h⟩
theorem h_pIad {sz : Nat} {x y : AV} {K : K} (hr : NE r) (h : pIad sz x y K = r) : ∃ v, K v = r := by
  unfold pIad at h
  obtain ⟨_, _, _, _, h⟩ := vnat_inv h hr
  obtain ⟨_, _, _, _, _, _, _, h⟩ := vref_inv h hr
  rcases isSl_cases h with ⟨_, h⟩ | ⟨_, _, h⟩
  · obtain ⟨_, h⟩ := bO_inv h hr
    rw [forceN_eq] at h
    exact ⟨_, h⟩
  · obtain ⟨_, h⟩ := bO_inv h hr
    obtain ⟨_, h⟩ := bO_inv h hr
    obtain ⟨_, _, _, h⟩ := adA_inv h
    exact ⟨_, h⟩
theorem h_readA {b : Nat} : ∀ {n o : Nat} {K : K}, NE r → readA b n o K = r → ∃ v, K v = r := by
  intro n
  induction n with
  | zero => intro o K hr h; exact ⟨_, h⟩
  | succ n ih =>
    intro o K hr h
    have h : (Option.rec (motive := fun _ => Out) (.err 90) (fun v => readA b n (Nat.succ o) fun l => K (.cons v l)) (Told.ar b o) : Out) = r := h
    cases ha : Told.ar b o with
    | none => rw [ha] at h; exact absurd h.symm (hr _)
    | some a =>
      rw [ha] at h
      obtain ⟨_, h⟩ := ih hr (show readA b n (Nat.succ o) (fun l => K (.cons a l)) = r from h)
      exact ⟨_, h⟩
theorem h_readP {b e n o : Nat} {K : K} (hr : NE r) (h : readP b e n o K = r) : ∃ v, K v = r := by
  unfold readP at h
  rcases bO_cases h with ⟨_, h⟩ | ⟨_, h⟩
  · exact ⟨_, h⟩
  · obtain ⟨_, h⟩ := bO_inv h hr
    exact h_readA hr h
theorem h_readC {c : Bt Cell} {ep : Nat} : ∀ {n o : Nat} {K : K}, NE r → readC c ep n o K = r → ∃ v, K v = r
  | 0, _, _, _, h => ⟨_, h⟩
  | n + 1, o, K, hr, h => by
    obtain ⟨_, _, _, _, h⟩ := cell_inv (show cell (c.get o) ep (fun v => readC c ep n (Nat.succ o) fun r => K (.cons v r)) = r from h) hr
    obtain ⟨_, h⟩ := h_readC hr h
    exact ⟨_, h⟩
theorem h_pLdC {sz : Nat} {x : AV} {t : H} {K : K} (hr : NE r) (h : pLdC sz x t K = r) : ∃ v, K v = r := by
  unfold pLdC at h
  obtain ⟨_, _, _, _, _, _, _, h⟩ := vref_inv h hr
  rcases bO_cases h with ⟨_, h⟩ | ⟨_, h⟩
  · obtain ⟨_, _, _, _, _, h⟩ := withRow_inv h hr
    obtain ⟨_, h⟩ := h_readC hr h
    exact ⟨_, h⟩
  · obtain ⟨_, h⟩ := bO_inv h hr
    obtain ⟨_, h⟩ := bO_inv h hr
    obtain ⟨_, h⟩ := h_readA hr h
    exact ⟨_, h⟩
theorem h_pLd {x : AV} {t : H} {K : K} (hr : NE r) (h : pLd x t K = r) : ∃ v, K v = r := by
  unfold pLd at h
  obtain ⟨_, _, _, _, _, _, _, h⟩ := vref_inv h hr
  rcases bO_cases h with ⟨_, h⟩ | ⟨_, h⟩
  · obtain ⟨_, _, _, _, _, h⟩ := withRow_inv h hr
    obtain ⟨_, _, _, _, h⟩ := cell_inv h hr
    exact ⟨_, h⟩
  · obtain ⟨_, h⟩ := bO_inv h hr
    obtain ⟨_, h⟩ := bO_inv h hr
    revert h
    generalize Told.ar _ _ = q
    cases q with
    | none => intro h; exact absurd h.symm (hr _)
    | some a => intro h; exact ⟨_, h⟩
theorem h_cellsK {v : AV} {f : AV → Out} (hr : NE r) (h : cellsK v f = r) : ∃ l, f l = r := by
  cases v with
  | num q n => exact ⟨_, h⟩
  | str s => exact ⟨_, h⟩
  | ref g b e o l c => exact ⟨_, h⟩
  | com g x l =>
    rcases bO_cases (show bO (Nat.beq g 0) (f l) (bO (Nat.beq g 1) (.err 64) (f (.cons (.com g x l) .nil))) = r from h) with ⟨_, h⟩ | ⟨_, h⟩
    · exact ⟨_, h⟩
    · rcases bO_cases h with ⟨_, h⟩ | ⟨_, h⟩
      · exact absurd h.symm (hr _)
      · exact ⟨_, h⟩
  | nil => exact absurd h.symm (hr _)
  | cons a b => exact absurd h.symm (hr _)
theorem h_parts1 {z : AV} {off sz : Nat} {v : AV} {K : K} (hr : NE r) (h : parts1 z off sz v K = r) : ∃ v, K v = r := by
  unfold parts1 at h
  obtain ⟨_, h⟩ := h_cellsK hr h
  obtain ⟨_, h⟩ := bO_inv h hr
  obtain ⟨_, h⟩ := bO_inv h hr
  exact ⟨_, h⟩
theorem h_fetch {l e : T AV} {x : Opd} {K : K} (hr : NE r) (h : fetch l e x K = r) : ∃ v, K v = r := by
  cases x with
  | k v => exact ⟨_, h⟩
  | t i =>
    change Option.rec (motive := fun _ => Out) (V i e K) K (l.get i) = r at h
    cases hg : l.get i with
    | some v => rw [hg] at h; exact ⟨_, h⟩
    | none => rw [hg] at h; obtain ⟨v, _, h⟩ := V_inv h hr; exact ⟨v, h⟩
theorem h_fetchs {l e : T AV} : ∀ {xs : List Opd} {K : K}, NE r → fetchs l e xs K = r → ∃ v, K v = r
  | [], _, _, h => ⟨_, h⟩
  | x :: xs, K, hr, h => by
    obtain ⟨_, h⟩ := h_fetch hr (show fetch l e x (fun v => fetchs l e xs fun r => K (.cons v r)) = r from h)
    obtain ⟨_, h⟩ := h_fetchs hr h
    exact ⟨_, h⟩
theorem h_fetchO {l e : T AV} {x : Option Opd} {f : Option AV → Out} (hr : NE r) (h : fetchO l e x f = r) : ∃ v, f v = r := by
  cases x with
  | none => exact ⟨_, h⟩
  | some x => obtain ⟨_, h⟩ := h_fetch hr (show fetch l e x _ = r from h); exact ⟨_, h⟩
theorem h_denParts {l e : T AV} : ∀ {ps : List (Nat × Nat × Opd)} {z : AV} {K : K}, NE r → denParts l e ps z K = r → ∃ v, K v = r
  | [], _, _, _, h => ⟨_, h⟩
  | p :: ps, z, K, hr, h => by
    obtain ⟨_, h⟩ := h_fetch hr (show fetch l e p.2.2 (fun v => parts1 z p.1 p.2.1 v fun z => denParts l e ps z K) = r from h)
    obtain ⟨_, h⟩ := h_parts1 hr h
    exact h_denParts hr h
theorem h_bnd {x : Option AV} {d : Nat} {f : Nat → Out} (hr : NE r) (h : bnd x d f = r) : ∃ n, f n = r := by
  cases x with
  | none => exact ⟨_, h⟩
  | some v => obtain ⟨_, _, _, _, h⟩ := vnat_inv (show vnat v f = r from h) hr; exact ⟨_, h⟩
theorem h_pSlS {v : AV} {lo hi : Option AV} {K : K} (hr : NE r) (h : pSlS v lo hi K = r) : ∃ v, K v = r := by
  unfold pSlS at h
  obtain ⟨_, _, h⟩ := vstr_inv h hr
  obtain ⟨_, h⟩ := h_bnd hr h
  obtain ⟨_, h⟩ := h_bnd hr h
  obtain ⟨_, h⟩ := bO_inv h hr
  obtain ⟨_, h⟩ := bO_inv h hr
  exact ⟨_, h⟩
theorem h_cut {sz g b ep o cap l hh m : Nat} {full : Bool} {K : K} (hr : NE r) (h : cut sz g b ep o cap l hh m full K = r) : ∃ v, K v = r := by
  unfold cut at h
  obtain ⟨_, h⟩ := bO_inv h hr
  obtain ⟨_, h⟩ := bO_inv h hr
  obtain ⟨_, h⟩ := bO_inv h hr
  rcases bO_cases h with ⟨_, h⟩ | ⟨_, h⟩
  · cases full with
    | true => exact ⟨_, h⟩
    | false =>
      rcases bO_cases (show bO (Nat.beq g 3) (K (.ref 3 b ep o 0 0)) (bO (Nat.beq l 0) (K (.ref 4 b ep o 0 0)) (K (.ref 5 b ep o l 0))) = r from h) with ⟨_, h⟩ | ⟨_, h⟩
      · exact ⟨_, h⟩
      · rcases bO_cases h with ⟨_, h⟩ | ⟨_, h⟩ <;> exact ⟨_, h⟩
  · rw [forceN_eq, forceN_eq, forceN_eq] at h
    exact ⟨_, h⟩
theorem h_szOk {sz g b l : Nat} {t : H} {q : Out} (hr : NE r) (h : szOk sz g b l t q = r) : q = r := by
  unfold szOk at h
  rcases bO_cases h with ⟨_, h⟩ | ⟨_, h⟩
  · exact h
  · rcases bO_cases h with ⟨_, h⟩ | ⟨_, h⟩
    · exact h
    · obtain ⟨_, _, _, _, _, h⟩ := withRow_inv h hr
      obtain ⟨_, h⟩ := bO_inv h hr
      exact h
theorem h_pSlV {sz : Nat} {v : AV} {lo hi mx : Option AV} {t : H} {K : K} (hr : NE r) (h : pSlV sz v lo hi mx t K = r) : ∃ v, K v = r := by
  unfold pSlV at h
  obtain ⟨g, b, ep, o, len, cap, _, h⟩ := vref_inv h hr
  rcases isSl_cases h with ⟨_, h⟩ | ⟨_, _, h⟩
  · cases mx with
    | none =>
      obtain ⟨_, h⟩ := h_bnd hr (show bnd hi len _ = r from h)
      obtain ⟨_, h⟩ := h_bnd hr h
      exact h_cut hr (h_szOk hr h)
    | some m =>
      obtain ⟨_, _, _, _, h⟩ := vnat_inv (show vnat m _ = r from h) hr
      obtain ⟨_, h⟩ := h_bnd hr h
      obtain ⟨_, h⟩ := h_bnd hr h
      exact h_cut hr (h_szOk hr h)
  · rcases bO_cases h with ⟨_, h⟩ | ⟨_, h⟩
    · obtain ⟨_, h⟩ := h_bnd hr h
      obtain ⟨_, h⟩ := h_bnd hr h
      obtain ⟨_, h⟩ := h_bnd hr h
      obtain ⟨_, h⟩ := bO_inv h hr
      exact ⟨_, h⟩
    · rcases bO_cases h with ⟨_, h⟩ | ⟨_, h⟩
      · obtain ⟨_, h⟩ := h_bnd hr h
        obtain ⟨_, h⟩ := h_bnd hr h
        obtain ⟨_, h⟩ := h_bnd hr h
        obtain ⟨_, h⟩ := bO_inv h hr
        exact ⟨_, h⟩
      · rcases bO_cases h with ⟨_, h⟩ | ⟨_, h⟩
        · obtain ⟨_, h⟩ := h_bnd hr h
          obtain ⟨_, h⟩ := h_bnd hr h
          cases mx with
          | none => exact absurd h.symm (hr _)
          | some m =>
            obtain ⟨_, _, _, _, h⟩ := vnat_inv (show vnat m _ = r from h) hr
            obtain ⟨_, h⟩ := bO_inv h hr
            exact ⟨_, h⟩
        · obtain ⟨_, h⟩ := bO_inv h hr
          obtain ⟨_, h⟩ := h_bnd hr h
          obtain ⟨_, h⟩ := h_bnd hr h
          obtain ⟨_, h⟩ := h_bnd hr h
          obtain ⟨_, h⟩ := bO_no h hr
          obtain ⟨_, h⟩ := bO_no h hr
          obtain ⟨_, h⟩ := bO_no h hr
          rcases bO_cases h with ⟨_, h⟩ | ⟨_, h⟩
          · exact ⟨_, h⟩
          · obtain ⟨_, _, _, h⟩ := adA_inv h
            rw [forceN_eq, forceN_eq] at h
            exact ⟨_, h⟩
theorem h_kcls {s : Nat} {q : AV} {f : Out} (hr : NE r) (h : kcls s q f = r) : f = r := (kcls_inv h hr).2
theorem h_eqCell {x y : AV} {f : Bool → Out} (hr : NE r) (h : eqCell x y f = r) : ∃ b, f b = r := by
  cases x with
  | num q a =>
    obtain ⟨_, _, _, h⟩ := vnum_inv (show vnum y _ = r from h) hr
    obtain ⟨_, h⟩ := bO_inv h hr
    exact ⟨_, h⟩
  | str s => obtain ⟨_, _, h⟩ := vstr_inv (show vstr y _ = r from h) hr; exact ⟨_, h⟩
  | _ => exact absurd h.symm (hr _)
theorem h_mfind {q : AV} {no : Out} {K : K} : ∀ {es : ML}, NE r → mfind q es no K = r → no = r ∨ ∃ v, K v = r
  | .nil, _, h => .inl h
  | .cons k' v es, hr, h => by
    obtain ⟨_, h⟩ := h_eqCell hr (show eqCell q k' (fun b => bO b (K v) (mfind q es no K)) = r from h)
    rcases bO_cases h with ⟨_, h⟩ | ⟨_, h⟩
    · exact .inr ⟨_, h⟩
    · exact h_mfind hr h
theorem h_vmap {v : AV} {t : H} {f : ML → Out} (hr : NE r) (h : vmap v t f = r) : ∃ es, f es = r := by
  unfold vmap at h
  obtain ⟨_, _, _, _, _, _, _, h⟩ := vref_inv h hr
  rcases bO_cases h with ⟨_, h⟩ | ⟨_, h⟩
  · obtain ⟨_, _, _, h⟩ := withMap_inv h hr; exact ⟨_, h⟩
  · obtain ⟨_, h⟩ := bO_inv h hr; exact ⟨_, h⟩
theorem h_pLook {s : Nat} {z m q : AV} {t : H} {K : K} (hr : NE r) (h : pLook s z m q t K = r) : ∃ v, K v = r := by
  unfold pLook at h
  obtain ⟨_, h⟩ := h_vmap hr (h_kcls hr h)
  rcases h_mfind hr h with h | h
  · exact ⟨_, h⟩
  · exact h
theorem h_pLookOk {s : Nat} {z m q : AV} {t : H} {K : K} (hr : NE r) (h : pLookOk s z m q t K = r) : ∃ v, K v = r := by
  unfold pLookOk at h
  obtain ⟨_, h⟩ := h_vmap hr (h_kcls hr h)
  rcases h_mfind hr h with h | ⟨_, h⟩
  · exact ⟨_, h⟩
  · exact ⟨_, h⟩
theorem h_lstr : ∀ {l : AV} {f : List Nat → Out}, NE r → lstr l f = r → ∃ s, f s = r := by
  intro l
  induction l with
  | cons a b _ ih =>
    intro f hr h
    obtain ⟨_, _, _, h⟩ := vnum_inv (show vnum a (fun q i => bO (Nat.beq q 4) (natI i fun c => bO (Nat.blt c 256) (lstr b fun r => f (c :: r)) (.err 61)) (.err 61)) = r from h) hr
    obtain ⟨_, h⟩ := bO_inv h hr
    obtain ⟨_, _, h⟩ := natI_inv h hr
    obtain ⟨_, h⟩ := bO_inv h hr
    obtain ⟨_, h⟩ := ih hr h
    exact ⟨_, h⟩
  | _ => intro f hr h; exact ⟨_, h⟩
theorem h_pB2S {v : AV} {t : H} {K : K} (hr : NE r) (h : pB2S v t K = r) : ∃ v, K v = r := by
  unfold pB2S at h
  obtain ⟨_, _, _, _, _, _, _, h⟩ := vref_inv h hr
  rcases isSl_cases h with ⟨_, h⟩ | ⟨_, _, h⟩
  · obtain ⟨_, _, _, _, _, h⟩ := withRow_inv h hr
    obtain ⟨_, h⟩ := h_readC hr h
    obtain ⟨_, h⟩ := h_lstr hr h
    exact ⟨_, h⟩
  · rcases bO_cases h with ⟨_, h⟩ | ⟨_, h⟩
    · exact ⟨_, h⟩
    · rcases bO_cases h with ⟨_, h⟩ | ⟨_, h⟩
      · exact ⟨_, h⟩
      · rcases bO_cases h with ⟨_, h⟩ | ⟨_, h⟩
        · exact ⟨_, h⟩
        · obtain ⟨_, h⟩ := bO_inv h hr
          obtain ⟨_, h⟩ := h_readP hr h
          obtain ⟨_, h⟩ := h_lstr hr h
          exact ⟨_, h⟩
end Ev
namespace Ev
open Go
variable [Told] [TokV] [ToldOK]
variable {r : Out} {th : H} {n : Nat} {k : KH}
def On (n : Nat) (k : KH) (r : Out) : Prop := ∃ v t' n', n ≤ n' ∧ k v t' n' = r
def On1 (th : H) (n : Nat) (k : KH) (r : Out) : Prop := ∃ v ob, k v (th.set ob n) (n + 1) = r
theorem On1.on (h : On1 th n k r) : On n k r := let ⟨v, _, h⟩ := h; ⟨v, _, n + 1, by omega, h⟩
theorem o_pBox {v : AV} (hr : NE r) (h : pBox v th n k = r) : On1 th n k r := by
  unfold pBox at h
  obtain ⟨_, h⟩ := h_cellsK hr h
  rw [newRow_eq] at h
  exact ⟨_, _, h⟩
theorem o_pRowSl {sz ln : Nat} {v : AV} (hr : NE r) (h : pRowSl sz ln v th n k = r) : On1 th n k r := by
  unfold pRowSl at h
  obtain ⟨_, h⟩ := bO_inv h hr
  rw [newRow_eq] at h
  exact ⟨_, _, h⟩
theorem o_pMkMap (h : pMkMap th n k = r) : On1 th n k r := by
  unfold pMkMap at h
  rw [hset_eq, forceN_eq] at h
  exact ⟨_, _, h⟩
theorem o_pMkSl {sz b : Nat} {z l c : AV} (hr : NE r) (h : pMkSl sz b z l c th n k = r) : On1 th n k r := by
  unfold pMkSl at h
  obtain ⟨_, _, _, _, h⟩ := vnat_inv h hr
  obtain ⟨_, _, _, _, h⟩ := vnat_inv h hr
  obtain ⟨_, h⟩ := bO_inv h hr
  obtain ⟨_, h⟩ := bO_inv h hr
  rw [newRow_eq] at h
  exact ⟨_, _, h⟩
theorem o_pS2B {v : AV} (hr : NE r) (h : pS2B v th n k = r) : On1 th n k r := by
  unfold pS2B at h
  obtain ⟨_, _, h⟩ := vstr_inv h hr
  rw [newRow_eq] at h
  exact ⟨_, _, h⟩
theorem h_stAt {b ep o : Nat} {l : AV} {f : H → Out} (hr : NE r) (h : stAt b ep o l th f = r) : ∃ t', f t' = r := by
  unfold stAt at h
  obtain ⟨_, _, _, _, _, h⟩ := withRow_inv h hr
  obtain ⟨_, h⟩ := bO_inv h hr
  obtain ⟨_, h, _⟩ := storeC_inv hr h
  rw [hset_eq] at h
  exact ⟨_, h⟩
theorem h_pSt {sz : Nat} {p v : AV} {f : H → Out} (hr : NE r) (h : pSt sz p v th f = r) : ∃ t', f t' = r := by
  unfold pSt at h
  obtain ⟨_, h⟩ := h_cellsK hr h
  obtain ⟨_, h⟩ := bO_inv h hr
  obtain ⟨_, _, _, _, _, _, h⟩ := vptr_inv h hr
  exact h_stAt hr h
theorem h_mput {q v : AV} : ∀ {es : ML} {f : ML → Out}, NE r → mput q v es f = r → ∃ es', f es' = r
  | .nil, _, _, h => ⟨_, h⟩
  | .cons k' v' es, f, hr, h => by
    obtain ⟨_, h⟩ := h_eqCell hr (show eqCell q k' (fun b => bO b (f (.cons q v es)) (mput q v es fun r' => f (.cons k' v' r'))) = r from h)
    rcases bO_cases h with ⟨_, h⟩ | ⟨_, h⟩
    · exact ⟨_, h⟩
    · obtain ⟨_, h⟩ := h_mput hr h; exact ⟨_, h⟩
theorem h_pMapUpd {s : Nat} {m q v : AV} {f : H → Out} (hr : NE r) (h : pMapUpd s m q v th f = r) : ∃ t', f t' = r := by
  unfold pMapUpd at h
  obtain ⟨_, _, _, _, _, _, _, h⟩ := vref_inv (h_kcls hr h) hr
  obtain ⟨_, h⟩ := bO_inv h hr
  obtain ⟨_, _, _, h⟩ := withMap_inv h hr
  obtain ⟨_, h⟩ := h_mput hr h
  rw [forceN_eq, hset_eq] at h
  exact ⟨_, h⟩
theorem h_mdel {q : AV} : ∀ {es : ML} {f : ML → Out}, NE r → mdel q es f = r → ∃ es', f es' = r
  | .nil, _, _, h => ⟨_, h⟩
  | .cons k' v' es, f, hr, h => by
    obtain ⟨_, h⟩ := h_eqCell hr (show eqCell q k' (fun b => bO b (f es) (mdel q es fun r' => f (.cons k' v' r'))) = r from h)
    rcases bO_cases h with ⟨_, h⟩ | ⟨_, h⟩
    · exact ⟨_, h⟩
    · obtain ⟨_, h⟩ := h_mdel hr h; exact ⟨_, h⟩
theorem h_pMapDel {s : Nat} {m q : AV} {f : H → Out} (hr : NE r) (h : pMapDel s m q th f = r) : ∃ t', f t' = r := by
  unfold pMapDel at h
  obtain ⟨_, _, _, _, _, _, _, h⟩ := vref_inv (h_kcls hr h) hr
  rcases bO_cases h with ⟨_, h⟩ | ⟨_, h⟩
  · obtain ⟨_, _, _, h⟩ := withMap_inv h hr
    obtain ⟨_, h⟩ := h_mdel hr h
    rw [forceN_eq, hset_eq] at h
    exact ⟨_, h⟩
  · obtain ⟨_, h⟩ := bO_inv h hr
    exact ⟨_, h⟩
theorem o_fresh {sz : Nat} {l : AV} {c : Nat} (h : fresh sz l c th n k = r) : On n k r := by
  unfold fresh at h
  rw [newRow_eq] at h
  exact ⟨_, _, _, by omega, h⟩
theorem o_appTo {sz bytes : Nat} {s new : AV} {cnt : Nat} (hr : NE r) (h : appTo sz bytes s new cnt th n k = r) : On n k r := by
  unfold appTo at h
  obtain ⟨g, b, ep, o, len, cap, _, h⟩ := vref_inv h hr
  rcases isSl_cases h with ⟨_, h⟩ | ⟨_, _, h⟩
  · rw [forceN_eq] at h
    rcases bO_cases h with ⟨_, h⟩ | ⟨_, h⟩
    · obtain ⟨_, h⟩ := h_stAt hr h; exact ⟨_, _, _, Nat.le_refl _, h⟩
    · obtain ⟨_, h⟩ := bO_inv h hr
      rcases bO_cases h with ⟨_, h⟩ | ⟨_, h⟩
      · obtain ⟨_, _, _, _, _, h⟩ := withRow_inv h hr
        obtain ⟨_, h⟩ := h_readC hr h
        exact o_fresh h
      · obtain ⟨_, h⟩ := bO_inv h hr
        obtain ⟨_, h⟩ := bO_inv h hr
        obtain ⟨_, _, _, _, _, h⟩ := withRow_inv h hr
        obtain ⟨_, h⟩ := bO_inv h hr
        obtain ⟨_, h⟩ := bO_inv h hr
        obtain ⟨_, h⟩ := bO_inv h hr
        rw [forceN_eq, forceN_eq, Bt.seq_eq, hset_eq] at h
        exact ⟨_, _, _, Nat.le_refl _, h⟩
  · rcases bO_cases h with ⟨_, h⟩ | ⟨_, h⟩
    · obtain ⟨_, h⟩ := bO_no h hr
      rcases bO_cases h with ⟨_, h⟩ | ⟨_, h⟩
      · exact ⟨_, _, _, Nat.le_refl _, h⟩
      rw [forceN_eq] at h
      obtain ⟨_, h⟩ := bO_inv h hr
      obtain ⟨_, h⟩ := bO_inv h hr
      obtain ⟨_, h⟩ := h_readP hr h
      exact o_fresh h
    rcases bO_cases h with ⟨_, h⟩ | ⟨_, h⟩
    · rcases bO_cases h with ⟨_, h⟩ | ⟨_, h⟩
      · exact ⟨_, _, _, Nat.le_refl _, h⟩
      · rcases bO_cases h with ⟨_, h⟩ | ⟨_, h⟩
        · exact ⟨_, _, _, Nat.le_refl _, h⟩
        · obtain ⟨_, h⟩ := bO_inv h hr; exact ⟨_, _, _, Nat.le_refl _, h⟩
    · obtain ⟨_, h⟩ := bO_inv h hr
      rcases bO_cases h with ⟨_, h⟩ | ⟨_, h⟩
      · exact o_fresh h
      · obtain ⟨_, h⟩ := bO_inv h hr; exact o_fresh h
theorem o_pApp {sz bytes : Nat} {x y : AV} (hr : NE r) (h : pApp sz bytes x y th n k = r) : On n k r := by
  cases y with
  | str s => obtain ⟨_, h⟩ := bO_inv (show bO (Nat.beq sz 1) _ (.err 59) = r from h) hr; exact o_appTo hr h
  | ref g b ep o len c =>
    rcases isSl_cases (show isSl g (withRow th b fun _ c _ _ => readC c ep (Nat.mul len sz) o fun new => appTo sz bytes x new len th n k) _ = r from h) with ⟨_, h⟩ | ⟨_, _, h⟩
    · obtain ⟨_, _, _, _, _, h⟩ := withRow_inv h hr
      obtain ⟨_, h⟩ := h_readC hr h
      exact o_appTo hr h
    · rcases bO_cases h with ⟨_, h⟩ | ⟨_, h⟩
      · exact o_appTo hr h
      · rcases bO_cases h with ⟨_, h⟩ | ⟨_, h⟩
        · exact o_appTo hr h
        · rcases bO_cases h with ⟨_, h⟩ | ⟨_, h⟩
          · exact o_appTo hr h
          · obtain ⟨_, h⟩ := bO_inv h hr
            obtain ⟨_, h⟩ := h_readP hr h
            exact o_appTo hr h
  | _ => exact absurd h.symm (hr _)
theorem o_pAppZ {sz bytes : Nat} {z x c : AV} (hr : NE r) (h : pAppZ sz bytes z x c th n k = r) : On n k r := by
  unfold pAppZ at h
  obtain ⟨_, _, _, _, h⟩ := vnat_inv h hr
  obtain ⟨_, h⟩ := bO_inv h hr
  exact o_appTo hr h
end Ev
namespace Ev
open Go
variable [Told] [TokV] [ToldOK]
variable {r : Out} {l e : T AV} {th : H} {n : Nat} {k : KH} {y : Yh} {ih : Ih}
def YM (y : Yh) : Prop := ∀ id a t n v t' n', y id a t n = .ok v t' n' → n ≤ n'
def IM (ih : Ih) : Prop := ∀ y f a t n v t' n', YM y → ih y f a t n = .ok v t' n' → n ≤ n'
theorem noY_m : YM noY := fun _ _ _ _ _ _ _ h => by cases h
theorem C_inv {f : Nat} {a : AV} (hr : NE r) (h : C ih f a th n k = r) : ∃ v t' n', ih noY f a th n = .ok v t' n' ∧ k v t' n' = r := by
  unfold C at h
  cases hc : ih noY f a th n with
  | ok v t' n' => rw [hc] at h; exact ⟨v, t', n', rfl, h⟩
  | err c => rw [hc] at h; exact absurd h.symm (hr _)
  | _ => rw [hc] at h; exact absurd h.symm (hr _)
theorem Cy_inv {id : Nat} {a : AV} (hr : NE r) (h : Cy y id a th n k = r) : ∃ v t' n', y id a th n = .ok v t' n' ∧ k v t' n' = r := by
  unfold Cy at h
  cases hc : y id a th n with
  | ok v t' n' => rw [hc] at h; exact ⟨v, t', n', rfl, h⟩
  | err c => rw [hc] at h; exact absurd h.symm (hr _)
  | _ => rw [hc] at h; exact absurd h.symm (hr _)
theorem B_inv {x : Out} (hr : NE r) (h : B x k = r) : ∃ v t' n', x = .ok v t' n' ∧ k v t' n' = r := by
  cases x with
  | ok v t' n' => exact ⟨v, t', n', rfl, h⟩
  | err c => exact absurd h.symm (hr _)
  | _ => exact absurd h.symm (hr _)
theorem Cv_inv {x a : AV} (hr : NE r) (h : Cv y ih x a th n k = r) :
    (∃ b ep o l' c, x = .ref 11 b ep o l' c ∧ Cy y b a th n k = r) ∨ (∃ f l', x = .com 2 f l' ∧ C ih f (lapp a l') th n k = r) ∨ ∃ f l', x = .com 4 f l' ∧ C ih f (lapp l' a) th n k = r := by
  cases x with
  | ref g b ep o l' c =>
    obtain ⟨h1, h⟩ := bO_inv (show bO (Nat.beq g 11) (Cy y b a th n k) (.err 20) = r from h) hr
    obtain rfl := beq_nat h1
    exact .inl ⟨_, _, _, _, _, rfl, h⟩
  | com g f l' =>
    rcases bO_cases (show bO (Nat.beq g 2) (C ih f (lapp a l') th n k) (bO (Nat.beq g 4) (C ih f (lapp l' a) th n k) (.err 20)) = r from h) with ⟨h1, h⟩ | ⟨_, h⟩
    · obtain rfl := beq_nat h1
      exact .inr (.inl ⟨_, _, rfl, h⟩)
    · obtain ⟨h1, h⟩ := bO_inv h hr
      obtain rfl := beq_nat h1
      exact .inr (.inr ⟨_, _, rfl, h⟩)
  | _ => exact absurd h.symm (hr _)
theorem h_den1 {c : Nat} {x : AV} {K : K} (hr : NE r) (h : den1 c x K = r) : ∃ v, K v = r := by
  unfold den1 at h
  split at h
  · exact h_pNilChk hr h
  · rcases tk1_inv h with h | ⟨_, _, h⟩
    · exact h_pNeg hr h
    · exact ⟨_, h⟩
  · exact h_pNot hr h
  · exact h_pLenS hr h
  · exact h_pCap hr h
  · exact h_pLenL hr h
  · exact h_pStr hr h
  · rcases tk1_inv h with h | ⟨_, _, h⟩
    · exact h_pXor1 hr h
    · exact ⟨_, h⟩
  · exact absurd h.symm (hr _)
theorem h_den2 {c : Nat} {x y : AV} {K : K} (hr : NE r) (h : den2 c x y K = r) : ∃ v, K v = r := by
  unfold den2 at h
  split at h
  · rcases q0_inv hr h with h | ⟨_, _, h⟩
    · exact h_pAdd hr h
    · exact ⟨_, h⟩
  · rcases q1_inv hr h with h | ⟨_, _, h⟩
    · exact h_pSub hr h
    · exact ⟨_, h⟩
  · rcases q2_inv hr h with h | ⟨_, _, h⟩
    · exact h_pMul hr h
    · exact ⟨_, h⟩
  · rcases q3_inv hr h with h | ⟨_, _, h⟩
    · exact h_pQuo hr h
    · exact ⟨_, h⟩
  · rcases q4_inv hr h with h | ⟨_, _, h⟩
    · exact h_pRem hr h
    · exact ⟨_, h⟩
  · rcases q5_inv hr h with h | ⟨_, _, h⟩
    · exact h_pBit hr h
    · exact ⟨_, h⟩
  · rcases q6_inv hr h with h | ⟨_, _, h⟩
    · exact h_pBit hr h
    · exact ⟨_, h⟩
  · rcases q7_inv hr h with h | ⟨_, _, h⟩
    · exact h_pBit hr h
    · exact ⟨_, h⟩
  · rcases q8_inv hr h with h | ⟨_, _, h⟩
    · exact h_pShl hr h
    · exact ⟨_, h⟩
  · rcases q9_inv hr h with h | ⟨_, _, h⟩
    · exact h_pShr hr h
    · exact ⟨_, h⟩
  · rcases q10_inv hr h with h | ⟨_, _, h⟩
    · exact h_pEql hr h
    · exact ⟨_, h⟩
  · rcases q11_inv hr h with h | ⟨_, _, h⟩
    · exact h_pNeq hr h
    · exact ⟨_, h⟩
  · rcases q12_inv hr h with h | ⟨_, _, h⟩
    · exact h_pLss hr h
    · exact ⟨_, h⟩
  · rcases q13_inv hr h with h | ⟨_, _, h⟩
    · exact h_pLeq hr h
    · exact ⟨_, h⟩
  · rcases q14_inv hr h with h | ⟨_, _, h⟩
    · exact h_pGtr hr h
    · exact ⟨_, h⟩
  · rcases q15_inv hr h with h | ⟨_, _, h⟩
    · exact h_pGeq hr h
    · exact ⟨_, h⟩
  · exact h_pEqB hr h
  · exact h_pNeB hr h
  · rcases q18_inv hr h with h | ⟨_, _, h⟩
    · exact h_pEqS hr h
    · exact ⟨_, h⟩
  · rcases q19_inv hr h with h | ⟨_, _, h⟩
    · exact h_pNeS hr h
    · exact ⟨_, h⟩
  · exact h_pCat hr h
  · exact h_pMinMax hr h
  · exact h_pMinMax hr h
  · exact h_pIdxByte hr h
  · exact h_pIdxS hr h
  · exact h_pEqN hr h
  · exact h_pNeN hr h
  · exact h_pEqN hr h
  · exact h_pNeN hr h
  · exact h_pEqN hr h
  · exact h_pNeN hr h
  · exact h_pEqN hr h
  · exact h_pNeN hr h
  · exact h_pEqN hr h
  · exact h_pNeN hr h
  · exact absurd h.symm (hr _)
theorem On.pure {p : Out} (h : ∃ v, k v th n = r) : On n k r := let ⟨v, h⟩ := h; ⟨v, th, n, Nat.le_refl _, h⟩
theorem o_C {f : Nat} {a : AV} (hI : IM ih) (hr : NE r) (h : C ih f a th n k = r) : On n k r := by
  obtain ⟨v, t', n', h1, h2⟩ := C_inv hr h
  exact ⟨v, t', n', hI _ _ _ _ _ _ _ _ noY_m h1, h2⟩
theorem o_alloc {o : IOp} (hc : cls o = 2) (hr : NE r) (h : denOp y ih o l e th n k = r) : On1 th n k r := by
  cases o with
  | alloc z => exact o_pBox hr h
  | box x => obtain ⟨_, h⟩ := h_fetch hr h; exact o_pBox hr h
  | rowSl sz ln z ps => obtain ⟨_, h⟩ := h_denParts hr h; exact o_pRowSl hr h
  | mkMap => exact o_pMkMap h
  | mkSl sz b z a c => obtain ⟨_, h⟩ := h_fetch hr h; obtain ⟨_, h⟩ := h_fetch hr h; exact o_pMkSl hr h
  | s2b x => obtain ⟨_, h⟩ := h_fetch hr h; exact o_pS2B hr h
  | _ => cases hc
theorem o_pure {o : IOp} (hc : cls o < 2) (hr : NE r) (h : denOp y ih o l e th n k = r) : ∃ v, k v th n = r := by
  cases o with
  | mv x => obtain ⟨_, h⟩ := h_fetch hr h; exact ⟨_, h⟩
  | p1 c x => obtain ⟨_, h⟩ := h_fetch hr h; obtain ⟨_, h⟩ := h_den1 hr h; exact ⟨_, h⟩
  | p2 c x z => obtain ⟨_, h⟩ := h_fetch hr h; obtain ⟨_, h⟩ := h_fetch hr h; obtain ⟨_, h⟩ := h_den2 hr h; exact ⟨_, h⟩
  | conv q x => obtain ⟨_, h⟩ := h_fetch hr h; rcases tk1_inv h with h | ⟨_, _, h⟩; (obtain ⟨_, h⟩ := h_pConv hr h; exact ⟨_, h⟩); exact ⟨_, h⟩
  | pick c a b => obtain ⟨_, h⟩ := h_fetch hr h; obtain ⟨_, h⟩ := h_fetch hr h; obtain ⟨_, h⟩ := h_fetch hr h; obtain ⟨_, h⟩ := h_pPick hr h; exact ⟨_, h⟩
  | fad off x => obtain ⟨_, h⟩ := h_fetch hr h; obtain ⟨_, h⟩ := h_pFad hr h; exact ⟨_, h⟩
  | fld off sz ag x => obtain ⟨_, h⟩ := h_fetch hr h; obtain ⟨_, h⟩ := h_pFld hr h; exact ⟨_, h⟩
  | ext i x => obtain ⟨_, h⟩ := h_fetch hr h; obtain ⟨_, h⟩ := h_pExt hr h; exact ⟨_, h⟩
  | iad sz x i => obtain ⟨_, h⟩ := h_fetch hr h; obtain ⟨_, h⟩ := h_fetch hr h; obtain ⟨_, h⟩ := h_pIad hr h; exact ⟨_, h⟩
  | ldC sz x => obtain ⟨_, h⟩ := h_fetch hr h; obtain ⟨_, h⟩ := h_pLdC hr h; exact ⟨_, h⟩
  | ld x => obtain ⟨_, h⟩ := h_fetch hr h; obtain ⟨_, h⟩ := h_pLd hr h; exact ⟨_, h⟩
  | build z ps => obtain ⟨_, h⟩ := h_denParts hr h; exact ⟨_, h⟩
  | slS x lo hi => obtain ⟨_, h⟩ := h_fetch hr h; obtain ⟨_, h⟩ := h_fetchO hr h; obtain ⟨_, h⟩ := h_fetchO hr h; obtain ⟨_, h⟩ := h_pSlS hr h; exact ⟨_, h⟩
  | slV sz x lo hi mx => obtain ⟨_, h⟩ := h_fetch hr h; obtain ⟨_, h⟩ := h_fetchO hr h; obtain ⟨_, h⟩ := h_fetchO hr h; obtain ⟨_, h⟩ := h_fetchO hr h; obtain ⟨_, h⟩ := h_pSlV hr h; exact ⟨_, h⟩
  | look ok s z m q =>
    obtain ⟨_, h⟩ := h_fetch hr h; obtain ⟨_, h⟩ := h_fetch hr h
    cases ok with
    | false => obtain ⟨_, h⟩ := h_pLook hr h; exact ⟨_, h⟩
    | true => obtain ⟨_, h⟩ := h_pLookOk hr h; exact ⟨_, h⟩
  | eqA neg cl a b =>
    obtain ⟨_, h⟩ := h_fetch hr h; obtain ⟨_, h⟩ := h_fetch hr h
    cases neg with
    | false => obtain ⟨_, h⟩ := h_pEqA hr h; exact ⟨_, h⟩
    | true => obtain ⟨_, h⟩ := h_pNeA hr h; exact ⟨_, h⟩
  | mkI ty x => obtain ⟨_, h⟩ := h_fetch hr h; exact ⟨_, h⟩
  | tas cm w z x => obtain ⟨_, h⟩ := h_fetch hr h; obtain ⟨_, h⟩ := h_pTas hr h; exact ⟨_, h⟩
  | mkF f caps => obtain ⟨_, h⟩ := h_fetchs hr h; exact ⟨_, h⟩
  | mkB f first => obtain ⟨_, h⟩ := h_fetchs hr h; exact ⟨_, h⟩
  | b2s x => obtain ⟨_, h⟩ := h_fetch hr h; obtain ⟨_, h⟩ := h_pB2S hr h; exact ⟨_, h⟩
  | _ => simp [cls] at hc
theorem o_denOp {o : IOp} (hI : IM ih) (hY : YM y) (hr : NE r) (h : denOp y ih o l e th n k = r) : On n k r := by
  have fin : (∃ v, k v th n = r) → On n k r := fun ⟨v, h⟩ => ⟨v, th, n, Nat.le_refl _, h⟩
  cases o with
  | mv x => obtain ⟨_, h⟩ := h_fetch hr h; exact fin ⟨_, h⟩
  | p1 c x => obtain ⟨_, h⟩ := h_fetch hr h; obtain ⟨_, h⟩ := h_den1 hr h; exact fin ⟨_, h⟩
  | p2 c x z => obtain ⟨_, h⟩ := h_fetch hr h; obtain ⟨_, h⟩ := h_fetch hr h; obtain ⟨_, h⟩ := h_den2 hr h; exact fin ⟨_, h⟩
  | conv q x => obtain ⟨_, h⟩ := h_fetch hr h; rcases tk1_inv h with h | ⟨_, _, h⟩; (obtain ⟨_, h⟩ := h_pConv hr h; exact fin ⟨_, h⟩); exact fin ⟨_, h⟩
  | pick c a b => obtain ⟨_, h⟩ := h_fetch hr h; obtain ⟨_, h⟩ := h_fetch hr h; obtain ⟨_, h⟩ := h_fetch hr h; obtain ⟨_, h⟩ := h_pPick hr h; exact fin ⟨_, h⟩
  | fad off x => obtain ⟨_, h⟩ := h_fetch hr h; obtain ⟨_, h⟩ := h_pFad hr h; exact fin ⟨_, h⟩
  | fld off sz ag x => obtain ⟨_, h⟩ := h_fetch hr h; obtain ⟨_, h⟩ := h_pFld hr h; exact fin ⟨_, h⟩
  | ext i x => obtain ⟨_, h⟩ := h_fetch hr h; obtain ⟨_, h⟩ := h_pExt hr h; exact fin ⟨_, h⟩
  | iad sz x i => obtain ⟨_, h⟩ := h_fetch hr h; obtain ⟨_, h⟩ := h_fetch hr h; obtain ⟨_, h⟩ := h_pIad hr h; exact fin ⟨_, h⟩
  | ldC sz x => obtain ⟨_, h⟩ := h_fetch hr h; obtain ⟨_, h⟩ := h_pLdC hr h; exact fin ⟨_, h⟩
  | ld x => obtain ⟨_, h⟩ := h_fetch hr h; obtain ⟨_, h⟩ := h_pLd hr h; exact fin ⟨_, h⟩
  | build z ps => obtain ⟨_, h⟩ := h_denParts hr h; exact fin ⟨_, h⟩
  | slS x lo hi => obtain ⟨_, h⟩ := h_fetch hr h; obtain ⟨_, h⟩ := h_fetchO hr h; obtain ⟨_, h⟩ := h_fetchO hr h; obtain ⟨_, h⟩ := h_pSlS hr h; exact fin ⟨_, h⟩
  | slV sz x lo hi mx => obtain ⟨_, h⟩ := h_fetch hr h; obtain ⟨_, h⟩ := h_fetchO hr h; obtain ⟨_, h⟩ := h_fetchO hr h; obtain ⟨_, h⟩ := h_fetchO hr h; obtain ⟨_, h⟩ := h_pSlV hr h; exact fin ⟨_, h⟩
  | look ok s z m q =>
    obtain ⟨_, h⟩ := h_fetch hr h; obtain ⟨_, h⟩ := h_fetch hr h
    cases ok with
    | false => obtain ⟨_, h⟩ := h_pLook hr h; exact fin ⟨_, h⟩
    | true => obtain ⟨_, h⟩ := h_pLookOk hr h; exact fin ⟨_, h⟩
  | eqA neg cl a b =>
    obtain ⟨_, h⟩ := h_fetch hr h; obtain ⟨_, h⟩ := h_fetch hr h
    cases neg with
    | false => obtain ⟨_, h⟩ := h_pEqA hr h; exact fin ⟨_, h⟩
    | true => obtain ⟨_, h⟩ := h_pNeA hr h; exact fin ⟨_, h⟩
  | mkI ty x => obtain ⟨_, h⟩ := h_fetch hr h; exact fin ⟨_, h⟩
  | tas cm w z x => obtain ⟨_, h⟩ := h_fetch hr h; obtain ⟨_, h⟩ := h_pTas hr h; exact fin ⟨_, h⟩
  | mkF f caps => obtain ⟨_, h⟩ := h_fetchs hr h; exact fin ⟨_, h⟩
  | mkB f first => obtain ⟨_, h⟩ := h_fetchs hr h; exact fin ⟨_, h⟩
  | b2s x => obtain ⟨_, h⟩ := h_fetch hr h; obtain ⟨_, h⟩ := h_pB2S hr h; exact fin ⟨_, h⟩
  | alloc z => exact (o_pBox hr h).on
  | box x => obtain ⟨_, h⟩ := h_fetch hr h; exact (o_pBox hr h).on
  | rowSl sz ln z ps => obtain ⟨_, h⟩ := h_denParts hr h; exact (o_pRowSl hr h).on
  | mkMap => exact (o_pMkMap h).on
  | mkSl sz b z a c => obtain ⟨_, h⟩ := h_fetch hr h; obtain ⟨_, h⟩ := h_fetch hr h; exact (o_pMkSl hr h).on
  | s2b x => obtain ⟨_, h⟩ := h_fetch hr h; exact (o_pS2B hr h).on
  | st sz p v => obtain ⟨_, h⟩ := h_fetch hr h; obtain ⟨_, h⟩ := h_fetch hr h; obtain ⟨_, h⟩ := h_pSt hr h; exact ⟨_, _, _, Nat.le_refl _, h⟩
  | ixb a b => obtain ⟨_, h⟩ := h_fetch hr h; obtain ⟨_, h⟩ := h_fetch hr h; obtain ⟨_, h⟩ := h_pIdxByte hr h; exact ⟨_, _, _, Nat.le_refl _, h⟩
  | mapDel s m q => obtain ⟨_, h⟩ := h_fetch hr h; obtain ⟨_, h⟩ := h_fetch hr h; obtain ⟨_, h⟩ := h_pMapDel hr h; exact ⟨_, _, _, Nat.le_refl _, h⟩
  | mapUpd s m q v => obtain ⟨_, h⟩ := h_fetch hr h; obtain ⟨_, h⟩ := h_fetch hr h; obtain ⟨_, h⟩ := h_fetch hr h; obtain ⟨_, h⟩ := h_pMapUpd hr h; exact ⟨_, _, _, Nat.le_refl _, h⟩
  | app sz b x z => obtain ⟨_, h⟩ := h_fetch hr h; obtain ⟨_, h⟩ := h_fetch hr h; exact o_pApp hr h
  | appZ sz b z x c => obtain ⟨_, h⟩ := h_fetch hr h; obtain ⟨_, h⟩ := h_fetch hr h; exact o_pAppZ hr h
  | call f args => obtain ⟨_, h⟩ := h_fetchs hr h; exact o_C hI hr h
  | inv tb x args =>
    obtain ⟨_, h⟩ := h_fetch hr h; obtain ⟨_, h⟩ := h_fetchs hr h
    obtain ⟨_, _, _, _, _, _, _, _, _, _, _, _, _, _, h⟩ := pInv_inv h hr
    exact o_C hI hr h
  | callv x args =>
    obtain ⟨_, h⟩ := h_fetch hr h; obtain ⟨_, h⟩ := h_fetchs hr h
    rcases Cv_inv hr h with ⟨b, ep, o, l', c, _, h⟩ | ⟨f, l', _, h⟩ | ⟨f, l', _, h⟩
    · obtain ⟨v, t', n', h1, h2⟩ := Cy_inv hr h
      exact ⟨v, t', n', hY _ _ _ _ _ _ _ h1, h2⟩
    · exact o_C hI hr h
    · exact o_C hI hr h
  | bad w => exact absurd h.symm (hr _)
end Ev
namespace Ev
open Go
variable [Told] [TokV] [ToldOK]
variable {r : Out} {l e : T AV} {th : H} {n : Nat} {y : Yh} {ih : Ih}
def Left (n : Nat) (r : Out) : Prop := (∃ id e t n', n ≤ n' ∧ r = .exit id e t n') ∨ (∃ id e t n', n ≤ n' ∧ r = .goto id e t n') ∨ ∃ e t n', n ≤ n' ∧ r = .ret e t n'
def Thru (n : Nat) (k : KD) (r : Out) : Prop := (∃ e' t' n', n ≤ n' ∧ k e' t' n' = r) ∨ Left n r
theorem Left.mono {m n : Nat} (h : m ≤ n) : Left n r → Left m r
  | .inl ⟨id, e, t, n', h1, h2⟩ => .inl ⟨id, e, t, n', by omega, h2⟩
  | .inr (.inl ⟨id, e, t, n', h1, h2⟩) => .inr (.inl ⟨id, e, t, n', by omega, h2⟩)
  | .inr (.inr ⟨e, t, n', h1, h2⟩) => .inr (.inr ⟨e, t, n', by omega, h2⟩)
theorem Thru.mono {m n : Nat} {k : KD} (h : m ≤ n) : Thru n k r → Thru m k r
  | .inl ⟨e', t', n', h1, h2⟩ => .inl ⟨e', t', n', by omega, h2⟩
  | .inr h1 => .inr (h1.mono h)
def DM (c : DC) : Prop := ∀ (y : Yh) (ih : Ih) (e : T AV) (t : H) (n : Nat) (k : KD) (r : Out), YM y → IM ih → NE r → c y ih e t n k = r → Thru n k r
theorem h_gB {g : AV} {w : Bool} {a b : Out} (h : gB g w a b = r) : a = r ∨ b = r := by
  cases g with
  | num q i =>
    rcases bO_cases (show bO (Nat.beq q 8) (Int.rec (motive := fun _ => Out) (fun m => Nat.rec (motive := fun _ => Out) (Bool.rec (motive := fun _ => Out) a b w) (fun _ _ => Bool.rec (motive := fun _ => Out) b a w) m) (fun _ => b) i) b = r from h) with ⟨_, h⟩ | ⟨_, h⟩
    · cases i with
      | ofNat m => cases m <;> cases w <;> first | exact .inl h | exact .inr h
      | negSucc m => exact .inr h
    · exact .inr h
  | _ => exact .inr h
theorem h_put {d : Dst} {v : AV} {f : T AV → T AV → Out} (h : put d v l e f = r) : ∃ l' e', f l' e' = r := by
  cases d with
  | no => exact ⟨_, _, h⟩
  | loc d => exact ⟨_, _, h⟩
  | env d => exact ⟨l, e.set v d, (show W d v e (fun e' => f l e') = r from h)⟩
theorem o_denOper {o : IOper} {k : AV → T AV → T AV → H → Nat → Out} (hY : YM y) (hI : IM ih) (hr : NE r) (h : denOper y ih o l e th n k = r) : ∃ v l' e' t' n', n ≤ n' ∧ k v l' e' t' n' = r := by
  unfold denOper at h
  split at h
  · obtain ⟨v, t', n', h1, h2⟩ := o_denOp hI hY hr h
    obtain ⟨l', e', h3⟩ := h_put h2
    exact ⟨_, _, _, _, _, h1, h3⟩
  · obtain ⟨g, h⟩ := h_fetch hr h
    rcases h_gB h with h | h
    · obtain ⟨v, t', n', h1, h2⟩ := o_denOp hI hY hr h
      obtain ⟨l', e', h3⟩ := h_put h2
      exact ⟨_, _, _, _, _, h1, h3⟩
    · obtain ⟨l', e', h3⟩ := h_put h
      exact ⟨_, _, _, _, _, Nat.le_refl _, h3⟩
theorem o_denOps : ∀ {ops : List IOper} {l e : T AV} {th : H} {n : Nat} {k : KD}, YM y → IM ih → NE r → denOps y ih ops l e th n k = r → ∃ e' t' n', n ≤ n' ∧ k e' t' n' = r
  | [], _, _, _, _, _, _, _, _, h => ⟨_, _, _, Nat.le_refl _, h⟩
  | o :: ops, l, e, th, n, k, hY, hI, hr, h => by
    obtain ⟨_, _, _, _, n1, h1, h2⟩ := o_denOper hY hI hr h
    obtain ⟨e', t', n', h3, h4⟩ := o_denOps hY hI hr h2
    exact ⟨e', t', n', by omega, h4⟩
theorem ok_ne {v : AV} {t : H} {n : Nat} : NE (.ok v t n) := fun c h => by cases h
theorem o_denOperD {o : IOper} {k : AV → T AV → T AV → H → Nat → Out} (hY : YM y) (hI : IM ih) (hr : NE r) (h : denOperD y ih o l e th n k = r) : ∃ v l' e' t' n', n ≤ n' ∧ k v l' e' t' n' = r := by
  unfold denOperD at h
  split at h
  · obtain ⟨v, t1, n1, h1, h2⟩ := B_inv hr h
    obtain ⟨v', t', n', h3, h4⟩ := o_denOp hI hY ok_ne h1
    obtain ⟨l', e', h5⟩ := h_put h2
    have h4 : Out.ok v' t' n' = .ok v t1 n1 := h4
    injection h4 with _ _ h4
    exact ⟨_, _, _, _, _, by omega, h5⟩
  · obtain ⟨g, h⟩ := h_fetch hr h
    obtain ⟨v, t1, n1, h1, h2⟩ := B_inv hr h
    obtain ⟨l', e', h5⟩ := h_put h2
    rcases h_gB h1 with h1 | h1
    · obtain ⟨v', t', n', h3, h4⟩ := o_denOp hI hY ok_ne h1
      have h4 : Out.ok v' t' n' = .ok v t1 n1 := h4
      injection h4 with _ _ h4
      exact ⟨_, _, _, _, _, by omega, h5⟩
    · have h4 : Out.ok unit th n = .ok v t1 n1 := h1
      injection h4 with _ _ h4
      exact ⟨_, _, _, _, _, by omega, h5⟩
theorem o_denOpsD : ∀ {ops : List IOper} {l e : T AV} {th : H} {n : Nat} {hs : List H} {k : T AV → T AV → H → Nat → List H → Out}, YM y → IM ih → NE r → denOpsD y ih ops l e th n hs k = r → ∃ l' e' t' n' hs', n ≤ n' ∧ k l' e' t' n' hs' = r
  | [], _, _, _, _, _, _, _, _, _, h => ⟨_, _, _, _, _, Nat.le_refl _, h⟩
  | o :: ops, l, e, th, n, hs, k, hY, hI, hr, h => by
    obtain ⟨_, _, _, _, n1, h1, h2⟩ := o_denOperD hY hI hr h
    obtain ⟨l', e', t', n', hs', h3, h4⟩ := o_denOpsD hY hI hr h2
    exact ⟨l', e', t', n', hs', by omega, h4⟩
theorem h_denSame {o : IOper} {v : AV} {hs : List H} : ∀ {c lo : Nat} {q : Out}, NE r → denSame o v l e hs lo c q = r → q = r
  | 0, _, _, _, h => h
  | c + 1, lo, q, hr, h => by
    unfold denSame at h
    split at h
    · exact absurd h.symm (hr _)
    · unfold eqAt at h
      obtain ⟨_, _, _, _, h⟩ := B_inv hr h
      obtain ⟨_, h⟩ := bO_inv h hr
      exact h_denSame hr h
theorem h_denChk {hs : List H} : ∀ {ch : List (Nat × Nat × IOper × Nat)} {q : Out}, NE r → denChk l e hs ch q = r → q = r
  | [], _, _, h => h
  | (lo, c, o, d) :: ch, q, hr, h => by
    unfold denChk at h
    split at h
    · obtain ⟨_, h⟩ := h_fetch hr h
      exact h_denChk hr (h_denSame hr h)
    · obtain ⟨_, h⟩ := h_fetch hr h
      rcases h_gB h with h | h
      · obtain ⟨_, h⟩ := h_fetch hr h
        exact h_denChk hr (h_denSame hr h)
      · exact h_denChk hr h
theorem dm_ops (ops : List IOper) : DM (cOps ops) := fun _ _ _ _ _ _ _ hY hI hr h => .inl (o_denOps hY hI hr h)
theorem dm_drawn (ops : List IOper) (ch : List (Nat × Nat × IOper × Nat)) : DM (cDrawn ops ch) := fun _ _ _ _ _ _ _ hY hI hr h => by
  obtain ⟨l', e', t', n', hs', h1, h2⟩ := o_denOpsD hY hI hr h
  exact .inl ⟨_, _, _, h1, h_denChk hr h2⟩
theorem dm_seq {a b : DC} (ha : DM a) (hb : DM b) : DM (cSeq a b) := fun _ _ _ _ _ _ _ hY hI hr h => by
  rcases ha _ _ _ _ _ _ _ hY hI hr h with ⟨e', t', n', h1, h2⟩ | h1
  · exact (hb _ _ _ _ _ _ _ hY hI hr h2).mono h1
  · exact .inr h1
theorem dm_if {c : Opd} {a b : DC} (ha : DM a) (hb : DM b) : DM (cIf c a b) := fun _ _ _ _ _ _ _ hY hI hr h => by
  obtain ⟨_, h⟩ := h_fetch hr h
  rcases vbool_inv h hr with ⟨_, h⟩ | ⟨_, _, _, h⟩
  · exact hb _ _ _ _ _ _ _ hY hI hr h
  · exact ha _ _ _ _ _ _ _ hY hI hr h
end Ev
namespace Ev
open Go
variable [Told] [TokV] [ToldOK]
variable {r : Out} {l e : T AV} {th : H} {n : Nat} {y : Yh} {ih : Ih}
def top : Out → Nat
  | .ok _ _ n | .nor _ _ n | .exit _ _ _ n | .goto _ _ _ n | .ret _ _ n => n
  | .err _ => 0
theorem Left.top (h : Left n r) : n ≤ top r := by
  rcases h with ⟨id, e, t, n', h1, rfl⟩ | ⟨id, e, t, n', h1, rfl⟩ | ⟨e, t, n', h1, rfl⟩ <;> exact h1
theorem Thru.top (h : Thru n nor r) : n ≤ top r := by
  rcases h with ⟨e', t', n', h1, rfl⟩ | h
  · exact h1
  · exact h.top
theorem dm_nor {c : DC} (hc : DM c) (hY : YM y) (hI : IM ih) (hr : NE (c y ih e th n nor)) : n ≤ top (c y ih e th n nor) := (hc _ _ _ _ _ _ _ hY hI hr rfl).top
theorem ne_of {x : Out} (h : ∀ c, x ≠ .err c) : NE x := h
theorem dm_block {id : Nat} {b : DC} (hb : DM b) : DM (cBlock id b) := fun y ih e t n k r hY hI hr h => by
  unfold cBlock at h
  cases hx : b y ih e t n nor with
  | err c => rw [hx] at h; exact absurd h.symm (hr _)
  | ok v t1 n1 => rw [hx] at h; exact absurd h.symm (hr _)
  | nor e1 t1 n1 =>
    rw [hx] at h
    have := dm_nor hb hY hI (e := e) (th := t) (n := n) (by rw [hx]; intro c h; cases h)
    rw [hx] at this
    exact .inl ⟨_, _, _, this, h⟩
  | exit i e1 t1 n1 =>
    have := dm_nor hb hY hI (e := e) (th := t) (n := n) (by rw [hx]; intro c h; cases h)
    rw [hx] at this
    rw [hx] at h
    rcases bO_cases (show bO (Nat.beq i id) (k e1 t1 n1) (.exit i e1 t1 n1) = r from h) with ⟨_, h⟩ | ⟨_, h⟩
    · exact .inl ⟨_, _, _, this, h⟩
    · exact .inr (.inl ⟨_, _, _, _, this, h.symm⟩)
  | goto i e1 t1 n1 =>
    have := dm_nor hb hY hI (e := e) (th := t) (n := n) (by rw [hx]; intro c h; cases h)
    rw [hx] at this
    rw [hx] at h
    exact .inr (.inr (.inl ⟨_, _, _, _, this, h.symm⟩))
  | ret e1 t1 n1 =>
    have := dm_nor hb hY hI (e := e) (th := t) (n := n) (by rw [hx]; intro c h; cases h)
    rw [hx] at this
    rw [hx] at h
    exact .inr (.inr (.inr ⟨_, _, _, this, h.symm⟩))
theorem dm_loop_n {b : DC} (hb : DM b) (hY : YM y) (hI : IM ih) (hr : NE r) : ∀ (f : Nat) (e : T AV) (t : H) (n : Nat),
    (Nat.rec (motive := fun _ => T AV → H → Nat → Out) (fun _ _ _ => .err 8) (fun _ rec e t n => b y ih e t n rec) f : T AV → H → Nat → Out) e t n = r → Left n r
  | 0, _, _, _, h => absurd h.symm (hr _)
  | f + 1, e, t, n, h => by
    rcases hb _ _ _ _ _ _ _ hY hI hr h with ⟨e', t', n', h1, h2⟩ | h1
    · exact (dm_loop_n hb hY hI hr f e' t' n' h2).mono h1
    · exact h1
theorem dm_loop {b : DC} (hb : DM b) : DM (cLoop b) := fun _ _ _ _ _ _ _ hY hI hr h => .inr (dm_loop_n hb hY hI hr fuelL _ _ _ h)
theorem dm_scope_n {l1 l2 : Nat} {r1 r2 : DC} {k : KD} (h1 : DM r1) (h2 : DM r2) (hY : YM y) (hI : IM ih) (hr : NE r) : ∀ (f : Nat) (o : Out),
    (Nat.rec (motive := fun _ => Out → Out) (fun _ => .err 9)
      (fun _ rec o => Out.rec (motive := fun _ => Out) (fun _ _ _ => .err 7) k (fun i e t n => .exit i e t n)
        (fun l e t n => bO (Nat.beq l l1) (rec (r1 y ih e t n nor)) (bO (Nat.beq l l2) (rec (r2 y ih e t n nor)) (.goto l e t n))) (fun e t n => .ret e t n) (fun c => .err c) o) f : Out → Out) o = r → Thru (top o) k r
  | 0, _, h => absurd h.symm (hr _)
  | f + 1, o, h => by
    cases o with
    | ok v t n => exact absurd h.symm (hr _)
    | err c => exact absurd h.symm (hr _)
    | nor e t n => exact .inl ⟨_, _, _, Nat.le_refl _, h⟩
    | exit i e t n => exact .inr (.inl ⟨_, _, _, _, Nat.le_refl _, h.symm⟩)
    | ret e t n => exact .inr (.inr (.inr ⟨_, _, _, Nat.le_refl _, h.symm⟩))
    | goto q e t n =>
      have hne : ∀ {x : Out}, Thru (top x) k r → (x = .err (top x) → False) → True := fun _ _ => trivial
      rcases bO_cases (show bO (Nat.beq q l1) _ _ = r from h) with ⟨_, h⟩ | ⟨_, h⟩
      · have h3 := dm_scope_n h1 h2 hY hI hr f _ h
        cases hx : r1 y ih e t n nor with
        | err c => rw [hx] at h; cases f <;> exact absurd h.symm (hr _)
        | _ =>
          have := dm_nor h1 hY hI (e := e) (th := t) (n := n) (by rw [hx]; intro c h; cases h)
          exact h3.mono this
      · rcases bO_cases h with ⟨_, h⟩ | ⟨_, h⟩
        · have h3 := dm_scope_n h1 h2 hY hI hr f _ h
          cases hx : r2 y ih e t n nor with
          | err c => rw [hx] at h; cases f <;> exact absurd h.symm (hr _)
          | _ =>
            have := dm_nor h2 hY hI (e := e) (th := t) (n := n) (by rw [hx]; intro c h; cases h)
            exact h3.mono this
        · exact .inr (.inr (.inl ⟨_, _, _, _, Nat.le_refl _, h.symm⟩))
theorem dm_scope {b : DC} {l1 l2 : Nat} {r1 r2 : DC} (hb : DM b) (h1 : DM r1) (h2 : DM r2) : DM (cScope b l1 r1 l2 r2) := fun y ih e t n k r hY hI hr h => by
  have h0 : scGo y ih l1 r1 l2 r2 k fuelL (b y ih e t n nor) = r := h
  generalize fuelL = fu at h0
  have h3 := dm_scope_n (k := k) h1 h2 hY hI hr fu (b y ih e t n nor) h0
  cases hx : b y ih e t n nor with
  | err c =>
    exfalso
    rw [hx] at h0
    have : ∀ f, scGo y ih l1 r1 l2 r2 k f (.err c) = r → False := fun f hf => by cases f <;> exact absurd hf.symm (hr _)
    exact this _ h0
  | _ =>
    have := dm_nor hb hY hI (e := e) (th := t) (n := n) (by rw [hx]; intro c h; cases h)
    exact h3.mono this
theorem round_m {id i v : Nat} {asg b : DC} (ha : DM asg) (hb : DM b) (hY : YM y) (hI : IM ih) : YM (round y ih id i v asg b e) := fun id' a t n w t' n' h => by
  unfold round at h
  obtain ⟨_, h⟩ := bO_inv h ok_ne
  obtain ⟨_, _, _, h⟩ := lcons_inv h ok_ne
  obtain ⟨_, _, _, h⟩ := lcons_inv h ok_ne
  obtain ⟨_, h⟩ := bO_inv h ok_ne
  rw [T.seq_eq] at h
  generalize hx : asg y ih _ t n _ = x at h
  cases x with
  | nor e1 t1 n1 =>
    have h : Out.ok tt t1 n1 = .ok w t' n' := h
    injection h with _ _ h
    have := (dm_seq ha hb) _ _ _ _ _ nor _ hY hI (by intro c h; cases h) hx
    have := this.top
    simp only [top] at this
    omega
  | _ => cases h
theorem dm_back {f : Opd} {i v : Nat} {asg b : DC} (ha : DM asg) (hb : DM b) : DM (cBack f i v asg b) := fun y ih e t n k r hY hI hr h => by
  unfold cBack at h
  obtain ⟨x, h⟩ := h_fetch hr h
  obtain ⟨g, caps, _, h⟩ := vfn_inv h hr
  rw [forceN_eq] at h
  generalize hx : ih _ g _ t _ = x at h
  cases x with
  | ok w t1 n1 =>
    have := hI _ _ _ _ _ _ _ _ (round_m ha hb hY hI) hx
    exact .inl ⟨_, _, _, by omega, h⟩
  | _ => exact absurd h.symm (hr _)
theorem dm : ∀ c : IC, DM (den c)
  | .skip => fun _ _ _ _ _ _ _ _ _ _ h => .inl ⟨_, _, _, Nat.le_refl _, h⟩
  | .ops l => show DM (cOps l) from dm_ops l
  | .draw l c => dm_drawn l c
  | .seq a b => show DM (cSeq (den a) (den b)) from dm_seq (dm a) (dm b)
  | .cond c a b => show DM (cIf c (den a) (den b)) from dm_if (dm a) (dm b)
  | .block id b => show DM (cBlock id (den b)) from dm_block (dm b)
  | .loop b => dm_loop (dm b)
  | .scope b l1 r1 l2 r2 => dm_scope (dm b) (dm r1) (dm r2)
  | .back f i v asg b => dm_back (dm asg) (dm b)
  | .exit id => fun _ _ _ _ _ _ _ _ _ _ h => .inr (.inl ⟨_, _, _, _, Nat.le_refl _, h.symm⟩)
  | .goto l => fun _ _ _ _ _ _ _ _ _ _ h => .inr (.inr (.inl ⟨_, _, _, _, Nat.le_refl _, h.symm⟩))
  | .ret => fun _ _ _ _ _ _ _ _ _ _ h => .inr (.inr (.inr ⟨_, _, _, Nat.le_refl _, h.symm⟩))
  | .bad w => fun _ _ _ _ _ _ _ _ _ hr h => absurd h.symm (hr _)
theorem h_denRes {t : H} : ∀ {rs : List IRes} {K : K}, NE r → denRes e t rs K = r → ∃ v, K v = r
  | [], _, _, h => ⟨_, h⟩
  | .t i :: rs, K, hr, h => by
    obtain ⟨_, _, h⟩ := V_inv (show V i e _ = r from h) hr
    obtain ⟨_, h⟩ := h_denRes hr h
    exact ⟨_, h⟩
  | .cellC i sz :: rs, K, hr, h => by
    obtain ⟨_, _, h⟩ := V_inv (show V i e _ = r from h) hr
    obtain ⟨_, h⟩ := h_pLdC hr h
    obtain ⟨_, h⟩ := h_denRes hr h
    exact ⟨_, h⟩
  | .cell i :: rs, K, hr, h => by
    obtain ⟨_, _, h⟩ := V_inv (show V i e _ = r from h) hr
    obtain ⟨_, h⟩ := h_pLd hr h
    obtain ⟨_, h⟩ := h_denRes hr h
    exact ⟨_, h⟩
theorem fn_m (f : IFn) {a : AV} {t t' : H} {n n' : Nat} {v : AV} (hY : YM y) (hI : IM ih) (h : denF f y ih a t n = .ok v t' n') : n ≤ n' := by
  unfold denF func at h
  obtain ⟨_, h⟩ := bO_inv h ok_ne
  have key : ∀ {e1 : T AV} {t1 : H} {n1 : Nat}, n ≤ n1 → denRes e1 t1 f.res (fun r => .ok (one r) t1 n1) = .ok v t' n' → n ≤ n' := by
    intro e1 t1 n1 h1 h2
    obtain ⟨_, h3⟩ := h_denRes ok_ne h2
    injection h3 with _ _ h3
    omega
  generalize hx : den f.body y ih _ t n nor = x at h
  have hm : NE x → n ≤ top x := fun hn => by
    rw [← hx]; exact dm_nor (dm f.body) hY hI (by rw [hx]; exact hn)
  cases x with
  | nor e1 t1 n1 => exact key (hm (by intro c h; cases h)) h
  | ret e1 t1 n1 => exact key (hm (by intro c h; cases h)) h
  | _ => cases h
def DMono (d : FnD) : Prop := ∀ (y : Yh) (ih : Ih) (a : AV) (t : H) (n : Nat) (v : AV) (t' : H) (n' : Nat), YM y → IM ih → d y ih a t n = .ok v t' n' → n ≤ n'
def Tab (tab : Bt FnD) : Prop := ∀ f d, tab.get f = some d → DMono d
theorem run_m {tab : Bt FnD} (ht : Tab tab) : ∀ fuel, IM (run tab fuel)
  | 0 => fun _ _ _ _ _ _ _ _ _ h => by cases h
  | fuel + 1 => fun y f a t n v t' n' hY h => by
    have h : tag f (Option.rec (motive := fun _ => Out) (.err 98) (fun d => d y (run tab fuel) a t n) (tab.get f)) = .ok v t' n' := h
    cases hg : tab.get f with
    | none => rw [hg] at h; cases h
    | some d =>
      rw [hg] at h
      have hd := ht f d hg
      have h : tag f (d y (run tab fuel) a t n) = .ok v t' n' := h
      generalize hx : d y (run tab fuel) a t n = x at h
      cases x with
      | ok v1 t1 n1 =>
        have h : Out.ok v1 t1 n1 = .ok v t' n' := h
        injection h with _ _ h
        have := hd _ _ _ _ _ _ _ _ hY (run_m ht fuel) hx
        omega
      | _ => cases h
end Ev
namespace Ev
open Go
variable [Told] [TokV] [ToldOK]
abbrev Tok := Nat → Option (IntKind × Int)
variable {ι : Rn} {P : Program} {tk : Tok} {w : World} {o : Oper} {r : Out} {ac : Act} {l e : T AV} {th : H} {n m N : Nat} {k : KH} {KK : G} {y : Yh} {ih : Ih} {iop : IOp} {ro : Option Nat}
def YT (ι : Rn) (n : Nat) : Prop := ∀ b, n ≤ b → ι.yl b = none
theorem YT.mono {n' : Nat} (h : YT ι n) (hn : n ≤ n') : YT ι n' := fun b hb => h b (by omega)
structure PC (K : G) (ι : Rn) (w : World) (t' : H) (n' : Nat) (ι' : Rn) (w' : World) : Prop where
  rel : Rel ι' (un t' K) w'
  ext : ExtC w.heap.size ι ι'
  frm : Frm ι w w'
  ht : HT t' n'
  yt : YT ι' n'
theorem PC.trans {K : G} {ι ι' ι'' : Rn} {w w' w'' : World} {t' t'' : H} {n' n'' : Nat} (h : PC K ι w t' n' ι' w') (k : PC K ι' w' t'' n'' ι'' w'') : PC K ι w t'' n'' ι'' w'' :=
  ⟨k.rel, h.ext.trans k.ext h.frm.size, h.frm.trans h.ext k.frm, k.ht, k.yt⟩
theorem PC.refl {K : G} {t : H} (h : Rel ι (un t K) w) (ht : HT t n) (hy : YT ι n) : PC K ι w t n ι w := ⟨h, .refl _ _, .refl _ _, ht, hy⟩
theorem PC.of {K : G} {ι' : Rn} {w' : World} {t' : H} {n' : Nat} (h : Post K ι w t' ι' w') (ht : HT t' n') (hy : YT ι n) (hn : n ≤ n') : PC K ι w t' n' ι' w' :=
  ⟨h.rel, h.ext.toExtC, h.frm, ht, by intro b hb; rw [h.ext.yl]; exact hy b (by omega)⟩
def Enters (P : Program) (f : FuncId) : Prop := ∀ (args : Array Value) (w : World), (callFunc f args).run P w = .ok (.enter f args) w
theorem enters_of {f : FuncId} {fn : Func} (hf : P.funcs[f]? = some fn) (hb : fn.body.isSome = true) (hn : (fn.name != "runtime.NumGoroutine") = true) : Enters P f := fun args w => by
  have hb' : ¬ fn.body = none := by cases h : fn.body <;> simp_all
  have hn' : ¬ fn.name = "runtime.NumGoroutine" := by simpa using hn
  simp [callFunc, hf, hn', hb']
def TkOK (tk : Tok) (ι : Rn) : Prop := ∀ b x, tk b = some x → ι.tok b = some x
def YOK (P : Program) (tk : Tok) (y : Yh) (ι : Rn) (w : World) : Prop := TkOK tk ι ∧ ∀ id a t n v t' n', y id a t n = .ok v t' n' → ∃ l, ι.yl id = some l ∧ ∀ (K : G) (ι1 : Rn) (w1 : World) (args : Array Value),
  ExtC w.heap.size ι ι1 → Frm ι w w1 → KT K n' → Rel ι1 (un t K) w1 → HT t n → YT ι1 n → toT ι1 a = some args.toList →
  ∃ f tmps assign body, (Instr.yield l args).run P w1 = .ok (.round l f tmps assign body) w1 ∧
    RoundIn Fence.wide 0 P l f tmps assign body w1 fun x w' => ∃ V ι', x = .returned V ∧ toV ι' v = some V ∧ PC K ι1 w1 t' n' ι' w'
theorem YOK.mono {ι' : Rn} {w' : World} (h : YOK P tk y ι w) (he : ExtC w.heap.size ι ι') (hf : Frm ι w w') : YOK P tk y ι' w' := ⟨fun b x hb => he.le.tok b x (h.1 b x hb), fun id a t n v t' n' hy => by
  obtain ⟨l, h1, h2⟩ := h.2 id a t n v t' n' hy
  exact ⟨l, he.le.yl _ _ h1, fun K ι1 w1 args he1 hf1 => h2 K ι1 w1 args (he.trans he1 hf.size) (hf.trans he hf1)⟩⟩
theorem YOK.no (h : TkOK tk ι) : YOK P tk noY ι w := ⟨h, fun _ _ _ _ _ _ _ h => by cases h⟩
def IhOK (P : Program) (tk : Tok) (ih : Ih) : Prop := ∀ y f a t n v t' n', YM y → ih y f a t n = .ok v t' n' → Enters P f ∧ ∀ (K : G) (ι : Rn) (w : World) (args : Array Value), YOK P tk y ι w → KT K n' → Rel ι (un t K) w → HT t n → YT ι n → toT ι a = some args.toList →
  CallsIn Fence.wide 0 P f args w fun x w' => ∃ V ι', x = .returned V ∧ toV ι' v = some V ∧ PC K ι w t' n' ι' w'
def Fr : Option Nat → Fence
  | none => Fence.wide
  | some l => Fence.wide.inRound l
theorem fr_fn (ro : Option Nat) (f : FuncId) : (Fr ro).fn f := by cases ro <;> trivial
theorem fr_depth (ro : Option Nat) : (Fr ro).depth.isSome = false := by cases ro <;> rfl
theorem fr_round (ro : Option Nat) : (Fr ro).round = ro := by cases ro <;> rfl
theorem callsIn_wide_any {n n' : Nat} {f : FuncId} {args : Array Value} {R : Ending → World → Prop} (h : CallsIn Fence.wide n P f args w R) : CallsIn Fence.wide n' P f args w R := callsIn_wide.2 (callsIn_wide.1 h)
theorem callsIn_fr {n n' : Nat} {f : FuncId} {args : Array Value} {R : Ending → World → Prop} (h : CallsIn Fence.wide n P f args w R) : CallsIn (Fr ro) n' P f args w R := by
  cases ro with
  | none => exact callsIn_wide_any h
  | some l => exact (callsIn_wide_any h : CallsIn Fence.wide n' P f args w R)
theorem roundIn_fr {n n' : Nat} {l : Nat} {f : FuncId} {tmps : Array Value} {assign body : Code} {R : Ending → World → Prop} (h : RoundIn Fence.wide n P l f tmps assign body w R) : RoundIn (Fr ro) n' P l f tmps assign body w R := by
  have : RoundIn Fence.wide n' P l f tmps assign body w R := ⟨h.1, fun c cs _ => h.2 c cs (room_wide _)⟩
  cases ro with
  | none => exact this
  | some l' => exact this
theorem about_fr {a : Act} : ∀ f, o.about P w a.eval = some f → (Fr ro).fn f := fun f _ => fr_fn ro f
theorem not_defer (hc : cOp P o.op = some iop) : ∀ c, o.op ≠ .defer c := fun c h => by rw [h] at hc; simp [cOp] at hc
theorem not_select (hc : cOp P o.op = some iop) : ∀ c b, o.op ≠ .select c b := fun c b h => by rw [h] at hc; simp [cOp] at hc
theorem sem_fr (hd : ∀ c, o.op ≠ .defer c) : o.semAt (Fr ro).round ac.eval = execOp ac.eval o := Oper.semAt_eq _ _ _ hd
section
variable {next : Act → World → Prop} {Q : Exit → Act → World → Prop}
theorem wp_value {V : Value} {w' : World} (hd : ∀ c, o.op ≠ .defer c) (h : (execOp ac.eval o).run P w = .ok (.value V) w') (hn : next (ac.put o.dst V) w') : o.wpIn (Fr ro) m P ac w next Q :=
  ⟨about_fr, by rw [sem_fr hd, h]; exact hn⟩
theorem wp_skip {w' : World} (hd : ∀ c, o.op ≠ .defer c) (h : (execOp ac.eval o).run P w = .ok .skip w') (hn : next (ac.put o.dst undef) w') : o.wpIn (Fr ro) m P ac w next Q :=
  ⟨about_fr, by rw [sem_fr hd, h]; exact hn⟩
theorem unit_ok : toV ι unit = some undef := by simp [unit, toV, toT, comV]; rfl
theorem wp_enter {f : FuncId} {args : Array Value} (hd : ∀ c, o.op ≠ .defer c) (h : (execOp ac.eval o).run P w = .ok (.enter f args) w)
    (hc : CallsIn Fence.wide 0 P f args w fun x w' => ∃ V, x = .returned V ∧ next (ac.put o.dst V) w') : o.wpIn (Fr ro) m P ac w next Q := by
  refine ⟨about_fr, ?_⟩
  rw [sem_fr hd, h, Oper.uponIn_enter]
  refine ⟨fun h => (by rw [fr_depth] at h; cases h), callsIn_fr (CallsIn.mono hc ?_)⟩
  rintro x w' ⟨V, rfl, h⟩
  exact h
theorem wp_round {l : Nat} {f : FuncId} {tmps : Array Value} {assign body : Code} (hd : ∀ c, o.op ≠ .defer c) (h : (execOp ac.eval o).run P w = .ok (.round l f tmps assign body) w)
    (hc : RoundIn Fence.wide 0 P l f tmps assign body w fun x w' => ∃ V, x = .returned V ∧ next (ac.put o.dst V) w') : o.wpIn (Fr ro) m P ac w next Q := by
  refine ⟨about_fr, ?_⟩
  rw [sem_fr hd, h, Oper.uponIn_round]
  refine ⟨fun h => (by rw [fr_depth] at h; cases h), roundIn_fr (RoundIn.mono hc ?_)⟩
  rintro x w' ⟨V, rfl, h⟩
  exact h
theorem call_ok {c : Call} {X : Operand} {f : FuncId} {first caps args : Array Value} {a : AV} {t' : H} {v : AV} {n' : Nat} (ho : o.op = .call c) (hc : c.callee = .value X) (hX : ac.eval X = .func (.func f) first caps)
    (htk : TkOK tk ι) (hih : IhOK P tk ih) (hR : Rel ι (un th KK) w) (hH : HT th n) (hY : YT ι n) (ha : toT ι a = some args.toList) (hargs : args = first ++ c.args.map ac.eval ++ caps) (hC : ih noY f a th n = .ok v t' n') (hK : KT KK n')
    (hn : ∀ V ι' w', toV ι' v = some V → PC KK ι w t' n' ι' w' → next (ac.put o.dst V) w') : o.wpIn (Fr ro) m P ac w next Q := by
  obtain ⟨hE, hC⟩ := hih _ _ _ _ _ _ _ _ noY_m hC
  refine wp_enter (f := f) (args := args) (fun c h => by rw [ho] at h; cases h) ?_ (CallsIn.mono (hC KK ι w args (.no htk) hK hR hH hY ha) ?_)
  · unfold execOp; rw [ho]
    simp only [resolve, hc, hX, Deferred.ofValue, Sem.run_bind, Sem.run_pure, Result.andThen_ok, invoke]
    rw [← hargs]; exact hE args w
  · rintro x w' ⟨V, ι', rfl, h1, h2⟩
    exact ⟨V, rfl, hn V ι' w' h1 h2⟩
theorem cells_app {a b c : List Value} {X Y Z : Array Value} (ha : X.toList = a) (hb : Y.toList = b) (hc : Z.toList = c) : (X ++ Y ++ Z).toList = a ++ b ++ c := by simp [ha, hb, hc]
theorem run_method {name : String} {ty f d rb off : Nat} (hm : (ty, f, d) ∈ invTb P name) :
    (method (P.types.size + Made.depth) ty (.pointer (some ⟨rb, off, none⟩)) name).run P w = .ok (f, .pointer (some ⟨rb, off + d, none⟩)) w := by
  unfold invTb at hm
  simp only [List.mem_filterMap] at hm
  obtain ⟨t, _, he⟩ := hm
  unfold invEnt at he
  split at he
  · cases he
  · rename_i i hi
    split at he
    · cases he
    · rename_i m hfind
      split at he
      · rename_i f' hfunc
        have hm1 : P.types.size + Made.depth = (P.types.size + 99) + 1 := rfl
        split at he
        · rename_i hpath
          split at he
          · rename_i el hu
            injection he with he; injection he with h1 he; injection he with h2 h3
            subst h1; subst h2; subst h3
            rw [hm1, method]
            simp only [Sem.run_bind, run_typeInfo w hi, Result.andThen_ok, hfind, hpath, follow, Sem.run_pure, hfunc, receiverAt, run_underlying hu, Place.get]
            simp
          · cases he
        · rename_i st hpath
          split at he
          · rename_i hderef
            split at he
            · rename_i fs hu
              split at he
              · cases he
              · rename_i fl hfl
                split at he
                · rename_i j fs2 hj hu2
                  split at he
                  · cases he
                  · rename_i hsz
                    injection he with he; injection he with h1 he; injection he with h2 h3
                    subst h1; subst h2; subst h3
                    have hcz : P.cellsOf fl.type ≠ 0 := by simpa [Program.cellsOf, hj] using hsz
                    rw [hm1, method]
                    simp only [Sem.run_bind, run_typeInfo w hi, Result.andThen_ok, hfind, hpath, follow, run_underlying hu, hfl, hderef, if_true, Place.get, Sem.run_pure, asAddr, fieldPlace, run_sizeOf w hj, if_neg hcz, hfunc]
                    simp [Addr.add_lit, receiverAt, run_underlying hu2, hcz]
                · cases he
            · cases he
          · cases he
        · cases he
      · cases he
theorem op_ok (hc : cOp P o.op = some iop) (hYM : YM y) (hI : IM ih) (hyo : YOK P tk y ι w) (hih : IhOK P tk ih) (hR : Rel ι (un th KK) w) (hH : HT th n) (hY : YT ι n) (hl : TR ι l ac.tmps) (he : TR ι e ac.tmps) (hr : NE r)
    (h : denOp y ih iop l e th n k = r) (hk : ∀ v t' n', k v t' n' = r → KT KK n')
    (hn : ∀ v t' n' ι' w' V, k v t' n' = r → toV ι' v = some V → PC KK ι w t' n' ι' w' → n ≤ n' → next (ac.put o.dst V) w') : o.wpIn (Fr ro) m P ac w next Q := by
  have hd := not_defer hc
  have hcl := cls_of hc
  have h5 : cls iop < 5 := by
    generalize cls iop = q at hcl
    unfold clsOp at hcl
    repeat' split at hcl
    all_goals simp at hcl
    all_goals omega
  have pure_ : OkV ι P w ac.eval o (fun v => k v th n) r → o.wpIn (Fr ro) m P ac w next Q := by
    rintro ⟨v, V, h1, h2, h3⟩
    exact wp_value hd h3 (hn v th n ι w V h1 h2 (.refl hR hH hY) (Nat.le_refl _))
  rcases (by omega : cls iop = 0 ∨ cls iop = 1 ∨ cls iop = 2 ∨ cls iop = 3 ∨ cls iop = 4) with h0 | h0 | h0 | h0 | h0
  · exact pure_ (dPure hc h0 hl he hr h)
  · exact pure_ (dRead hc h0 hR hl he hr h)
  · have hno : un th KK n = none := by
      obtain ⟨v, t', h1⟩ := o_alloc h0 hr h
      exact un_none hH (hk _ _ _ h1) (Nat.lt_succ_self n)
    obtain ⟨v, ob, h1, V, w', ι', h2, h3, h4, h5, h6⟩ := dAlloc hc h0 hR hno hl he hr h
    refine wp_value hd h2 (hn v _ _ ι' w' V h1 h3 ⟨by rw [un_set]; exact h4, h5.toExtC, h6, hH.next, ?_⟩ (by omega))
    intro b hb; rw [h5.yl]; exact hY b (by omega)
  · obtain ⟨v, t', n', h1, h2, h3, h4⟩ := dWrite hc h0 hR hH hl he hr h
    obtain ⟨x, w', ι', h5, h6, h7⟩ := h4 (hk _ _ _ h1)
    have hp := PC.of h7 h3 hY h2
    rcases h6 with ⟨rfl, rfl⟩ | ⟨V, rfl, h8⟩
    · exact wp_skip hd h5 (hn _ _ _ ι' w' undef h1 unit_ok hp h2)
    · exact wp_value hd h5 (hn _ _ _ ι' w' V h1 h8 hp h2)
  · cases hop : o.op with
    | call c =>
      rw [hop] at hc
      obtain ⟨callee, args, tys⟩ := c
      cases callee with
      | value X =>
        have run : ∀ {f : FuncId} {first caps argv : Array Value} {a : AV}, ac.eval X = .func (.func f) first caps → toT ι a = some argv.toList → argv = first ++ args.map ac.eval ++ caps → C ih f a th n k = r → o.wpIn (Fr ro) m P ac w next Q := by
          intro f first caps argv a hX ha hargs hC
          obtain ⟨v, t', n', h1, h2⟩ := C_inv hr hC
          exact call_ok hop rfl hX hyo.1 hih hR hH hY ha hargs h1 (hk _ _ _ h2) fun V ι' w' h3 h4 => hn _ _ _ _ _ _ h2 h3 h4 (hI _ _ _ _ _ _ _ _ noY_m h1)
        have gen : ∀ {x : Opd} {l' : List Opd}, cOpd X = some x → cOpds args.toList = some l' → iop = .callv x l' → o.wpIn (Fr ro) m P ac w next Q := by
          intro x l' hx hl' hio
          subst hio
          obtain ⟨v, hv, h⟩ := fetch_inv hx hl he (show fetch l e x _ = r from h) hr
          obtain ⟨a, ha, h⟩ := fetchs_inv hl' hl he h hr
          rcases Cv_inv hr h with ⟨b, ep, off, l0, c0, rfl, h⟩ | ⟨f, l0, rfl, h⟩ | ⟨f, l0, rfl, h⟩
          · obtain ⟨v, t', n', h1, h2⟩ := Cy_inv hr h
            obtain ⟨q, hq, h3⟩ := hyo.2 _ _ _ _ _ _ _ h1
            simp only [toV, refV, hq, Option.map_some, Option.some.injEq] at hv
            obtain ⟨f, tmps, asg, body, h4, h5⟩ := h3 KK ι w (args.map ac.eval) (.refl _ _) (.refl _ _) (hk _ _ _ h2) hR hH hY (by simpa using ha)
            refine wp_round (l := q) hd ?_ (RoundIn.mono h5 ?_)
            · unfold execOp; rw [hop]
              simp only [resolve, ← hv, Deferred.ofValue, Sem.run_bind, Sem.run_pure, Result.andThen_ok, invoke]
              simpa using h4
            · rintro x w' ⟨V, ι', rfl, h6, h7⟩
              exact ⟨V, rfl, hn _ _ _ _ _ _ h2 h6 h7 (hYM _ _ _ _ _ _ _ h1)⟩
          · simp only [toV, Option.bind_eq_some_iff] at hv
            obtain ⟨vs, hvs, hX⟩ := hv
            simp only [comV, Option.some.injEq] at hX
            exact run (first := #[]) (caps := vs.toArray) (argv := args.map ac.eval ++ vs.toArray) hX.symm (by rw [Array.toList_append]; exact toT_append (by simpa using ha) (by simpa using hvs)) (by simp) h
          · simp only [toV, Option.bind_eq_some_iff] at hv
            obtain ⟨vs, hvs, hX⟩ := hv
            simp only [comV, Option.some.injEq] at hX
            exact run (first := vs.toArray) (caps := #[]) (argv := vs.toArray ++ args.map ac.eval) hX.symm (by rw [Array.toList_append]; exact toT_append (by simpa using hvs) (by simpa using ha)) (by simp) h
        cases X with
        | func f =>
          obtain ⟨l', hl', hc⟩ := some_bind hc
          obtain ⟨fn, hf, hc⟩ := some_bind hc
          split at hc
          · obtain rfl := pure_some hc
            obtain ⟨a, ha, h⟩ := fetchs_inv hl' hl he (show fetchs l e l' _ = r from h) hr
            exact run (f := f) (first := #[]) (caps := #[]) (argv := args.map ac.eval) rfl (by simpa using ha) (by simp) h
          · split at hc
            · split at hc
              · obtain rfl := pure_some hc; cases h0
              · cases hc
            · cases hc
        | tmp t =>
          obtain ⟨x, hx, hc⟩ := some_bind hc
          obtain ⟨l', hl', hc⟩ := some_bind hc
          obtain rfl := pure_some hc
          exact gen hx hl' rfl
        | const t =>
          obtain ⟨x, hx, hc⟩ := some_bind hc
          obtain ⟨l', hl', hc⟩ := some_bind hc
          obtain rfl := pure_some hc
          exact gen hx hl' rfl
        | global t =>
          obtain ⟨x, hx, hc⟩ := some_bind hc
          obtain ⟨l', hl', hc⟩ := some_bind hc
          obtain rfl := pure_some hc
          exact gen hx hl' rfl
      | invoke X name =>
        obtain ⟨x, hx, hc⟩ := some_bind hc
        obtain ⟨l', hl', hc⟩ := some_bind hc
        obtain rfl := pure_some hc
        obtain ⟨v, hv, h⟩ := fetch_inv hx hl he (show fetch l e x _ = r from h) hr
        obtain ⟨a, ha, h⟩ := fetchs_inv hl' hl he h hr
        obtain ⟨ty, l1, p, b, ep, off, l0, c0, f, d, rfl, hp, rfl, hm, hC⟩ := pInv_inv h hr
        obtain ⟨v, t', n', h1, h2⟩ := C_inv hr hC
        simp only [toV, Option.bind_eq_some_iff] at hv
        obtain ⟨vs, hvs, hX⟩ := hv
        simp only [comV] at hX
        split at hX
        · rename_i V
          injection hX with hX
          have hV : toV ι (.ref 1 b ep off l0 c0) = some V := by
            obtain ⟨_, _, h6⟩ := toT_some hvs
            simpa using h6 0 _ hp
          simp only [toV, refV, Option.map_eq_some_iff] at hV
          obtain ⟨z, hz, rfl⟩ := hV
          have hrecv : toV ι (.ref 1 b ep (off + d) 0 0) = some (.pointer (some ⟨z.1, off + d, none⟩)) := by simp [toV, refV, hz]
          have hmeth := run_method (P := P) (w := w) (rb := z.1) (off := off) hm
          obtain ⟨hE, hCi⟩ := hih _ _ _ _ _ _ _ _ noY_m h1
          refine wp_enter (f := f) (args := #[.pointer (some ⟨z.1, off + d, none⟩)] ++ args.map ac.eval) hd ?_ (CallsIn.mono (hCi KK ι w _ (.no hyo.1) (hk _ _ _ h2) hR hH hY ?_) ?_)
          · unfold execOp; rw [hop]
            simp only [resolve, Sem.run_bind, Sem.run_pure, Result.andThen_ok, invoke]
            simp only [← hX, Array.getElem?_append, callMethod, Sem.run_bind, run_program, Result.andThen_ok]
            have hex : (Array.map ac.eval args).extract 0 args.size = Array.map ac.eval args := by
              have e : args.size = (Array.map ac.eval args).size := by simp
              rw [e, Array.extract_size]
            simp [hmeth]
            rw [hex]
            exact hE _ _
          · simp only [Array.toList_append, List.cons_append, List.nil_append, toT, hrecv, ha, Array.toList_map]
            rfl
          · rintro x' w' ⟨V, ι', rfl, h3, h4⟩
            exact ⟨V, rfl, hn _ _ _ _ _ _ h2 h3 h4 (hI _ _ _ _ _ _ _ _ noY_m h1)⟩
        · cases hX
      | builtin b => rw [h0, hop] at hcl; cases b <;> simp [clsOp] at hcl
    | _ => rw [h0, hop] at hcl; simp [clsOp] at hcl
end
end Ev
namespace Ev
open Go
variable [Told] [TokV] [ToldOK]
variable {ι : Rn} {P : Program} {tk : Tok} {w : World} {o : Oper} {r : Out} {ac : Act} {l e : T AV} {th : H} {n m N : Nat} {k : KH} {KK : G} {y : Yh} {ih : Ih} {iop : IOp} {ro : Option Nat} {L : List Nat} {ops : Array Oper}
structure RI (L : List Nat) (N : Nat) (ι : Rn) (l e : T AV) (tm : Array Value) : Prop where
  tl : TR ι l tm
  te : TR ι e tm
  el : ∀ d ∈ L, e.get d = none
  ll : ∀ d, d ∉ L → l.get d = none
  sz : tm.size = N
theorem TR.set {tm : Array Value} {d : Nat} {v : AV} {V : Value} (h : TR ι e tm) (hv : toV ι v = some V) (hd : d < tm.size) : TR ι (e.set v d) (tm.setIfInBounds d V) := by
  intro i u hu
  rw [T.get_set_if] at hu
  by_cases hi : d = i
  · subst hi
    rw [if_pos rfl] at hu; injection hu with hu; subst hu
    exact ⟨V, hv, by simp [hd]⟩
  · rw [if_neg hi] at hu
    obtain ⟨x, hx, hg⟩ := h i u hu
    exact ⟨x, hx, by rw [Array.getElem?_setIfInBounds_ne hi]; exact hg⟩
theorem TR.out {tm : Array Value} {d : Nat} {V : Value} (h : TR ι e tm) (hd : e.get d = none) : TR ι e (tm.setIfInBounds d V) := by
  intro i u hu
  obtain ⟨x, hx, hg⟩ := h i u hu
  have hi : d ≠ i := fun hi => by subst hi; rw [hd] at hu; cases hu
  exact ⟨x, hx, by rw [Array.getElem?_setIfInBounds_ne hi]; exact hg⟩
theorem RI.mono {ι' : Rn} {tm : Array Value} (h : RI L N ι l e tm) (hi : ι.le ι') : RI L N ι' l e tm := ⟨h.tl.mono hi, h.te.mono hi, h.el, h.ll, h.sz⟩
theorem RI.put {dst : Option Tmp} {v : AV} {V : Value} {f : T AV → T AV → Out} (h : RI L N ι l e ac.tmps) (hv : toV ι v = some V) (hd : ∀ d, dst = some d → d < N) (hp : put (cDst L dst) v l e f = r) :
    ∃ l' e', f l' e' = r ∧ RI L N ι l' e' (ac.put dst V).tmps := by
  cases dst with
  | none => exact ⟨l, e, hp, h⟩
  | some d =>
    have hd : d < ac.tmps.size := by rw [h.sz]; exact hd d rfl
    simp only [cDst] at hp
    by_cases hL : L.contains d = true
    · rw [if_pos hL] at hp
      have hL' : d ∈ L := by simpa using hL
      refine ⟨_, _, hp, h.tl.set hv hd, h.te.out (h.el d hL'), h.el, fun i hi => ?_, by simp [Act.put, h.sz]⟩
      rw [T.get_set_ne _ _ _ _ (fun e => hi (by rw [← e]; exact hL'))]; exact h.ll i hi
    · rw [if_neg hL] at hp
      have hL' : d ∉ L := by simpa using hL
      have hp : T.seq (T.set e v d) (fun e' => f l e') = r := hp
      rw [T.seq_eq] at hp
      refine ⟨_, _, hp, h.tl.out (h.ll d hL'), h.te.set hv hd, fun i hi => ?_, h.ll, by simp [Act.put, h.sz]⟩
      rw [T.get_set_ne _ _ _ _ (fun e => hL' (by rw [e]; exact hi))]; exact h.el i hi
theorem gB_ok {g : AV} {b : Bool} {x z : Out} {V : Value} (h : gB g b x z = r) (hg : toV ι g = some V) : (V = .bool b ∧ x = r) ∨ ((V = .bool b → False) ∧ z = r) := by
  cases g with
  | num q i =>
    rcases bO_cases (show bO (Nat.beq q 8) _ z = r from h) with ⟨h1, h2⟩ | ⟨h1, h2⟩
    · obtain rfl := beq_nat h1
      simp only [toV, numV, if_true] at hg
      cases i with
      | ofNat j =>
        cases j with
        | zero =>
          have hg : Value.bool false = V := by simpa using hg
          subst hg
          cases b
          · exact .inl ⟨rfl, h2⟩
          · exact .inr ⟨fun h => (by cases h), h2⟩
        | succ j =>
          have hg : Value.bool true = V := by
            by_cases hj : j = 0
            · subst hj; simpa using hg
            · exfalso
              have h1 : (Int.ofNat (j + 1) : Int) ≠ 0 := by simp only [Int.ofNat_eq_natCast]; omega
              have h2 : (Int.ofNat (j + 1) : Int) ≠ 1 := by simp only [Int.ofNat_eq_natCast]; omega
              rw [if_neg h1, if_neg h2] at hg; cases hg
          subst hg
          cases b
          · exact .inr ⟨fun h => (by cases h), h2⟩
          · exact .inl ⟨rfl, h2⟩
      | negSucc j =>
        have h1 : (Int.negSucc j : Int) ≠ 0 := by omega
        have h2 : (Int.negSucc j : Int) ≠ 1 := by omega
        rw [if_neg h1, if_neg h2] at hg; cases hg
    · refine .inr ⟨fun hV => ?_, h2⟩
      subst hV
      have h1 := beq_ff h1
      simp only [toV, numV, if_neg h1] at hg
      split at hg <;> cases hg
  | str s =>
    refine .inr ⟨fun hV => ?_, h⟩
    subst hV; simp [toV] at hg
  | ref g1 b1 e1 o1 l1 c1 =>
    refine .inr ⟨fun hV => ?_, h⟩
    subst hV
    simp only [toV] at hg
    unfold refV at hg
    split at hg <;> first
      | (cases hg; done)
      | (simp only [Option.map_eq_some_iff] at hg; obtain ⟨_, _, hg⟩ := hg; first | (cases hg; done) | (split at hg <;> cases hg))
      | (simp only [Option.bind_eq_some_iff] at hg; obtain ⟨_, _, hg⟩ := hg; split at hg <;> cases hg)
  | com g1 x1 l1 =>
    refine .inr ⟨fun hV => ?_, h⟩
    subst hV
    simp only [toV, Option.bind_eq_some_iff] at hg
    obtain ⟨vs, _, hg⟩ := hg
    unfold comV at hg
    split at hg <;> first
      | (cases hg; done)
      | (split at hg <;> cases hg)
  | nil => simp [toV] at hg
  | cons a b => simp [toV] at hg
theorem fetch_t {s : Nat} {f : K} (hl : TR ι l ac.tmps) (he : TR ι e ac.tmps) (hr : NE r) (h : fetch l e (.t s) f = r) : ∃ v V, toV ι v = some V ∧ ac.tmps[s]? = some V ∧ f v = r := by
  have h : Option.rec (motive := fun _ => Out) (V s e f) f (l.get s) = r := h
  cases hg : l.get s with
  | some v =>
    rw [hg] at h
    obtain ⟨x, hx, hi⟩ := hl s v hg
    exact ⟨v, x, hx, hi, h⟩
  | none =>
    rw [hg] at h
    obtain ⟨v, hv, h⟩ := V_inv h hr
    obtain ⟨x, hx, hi⟩ := he s v hv
    exact ⟨v, x, hx, hi, h⟩
theorem wanted_some {j s : Nat} {b : Bool} {V : Value} (hg : o.guard = some (j, b)) (hs : gslot ops j = some s) (hV : ac.tmps[s]? = some V) : Region.wanted o (yielded ops ac.tmps) = true ↔ V = .bool b := by
  unfold Region.wanted
  rw [hg]
  have hs' : (ops[j]?).bind (·.dst) = some s := hs
  simp only [yielded, hs', Option.bind_some, hV]
  cases V <;> simp
theorem wanted_none (hg : o.guard = none) : Region.wanted o (yielded ops ac.tmps) = true := by unfold Region.wanted; rw [hg]
def wpG (ro : Option Nat) (m : Nat) (P : Program) (ops : Array Oper) (o : Oper) (ac : Act) (w : World) (next : Act → World → Prop) (Q : Exit → Act → World → Prop) : Prop :=
  if Region.wanted o (yielded ops ac.tmps) = true then o.wpIn (Fr ro) m P ac w next Q else next (ac.put o.dst undef) w
section
variable {next : Act → World → Prop} {Q : Exit → Act → World → Prop}
theorem opOf_cOp {f : IOp → Out} (h : f ((cOp P o.op).getD (.bad 0)) = r) (hb : f (.bad 0) ≠ r) : ∃ iop, cOp P o.op = some iop ∧ f iop = r := by
  cases hc : cOp P o.op with
  | none => rw [hc] at h; exact absurd h hb
  | some iop => rw [hc] at h; exact ⟨iop, rfl, h⟩
theorem oper_ok {f : AV → T AV → T AV → H → Nat → Out} (hYM : YM y) (hI : IM ih) (hyo : YOK P tk y ι w) (hih : IhOK P tk ih) (hR : Rel ι (un th KK) w) (hH : HT th n) (hY : YT ι n) (hi : RI L N ι l e ac.tmps) (hd : ∀ d, o.dst = some d → d < N) (hr : NE r)
    (h : denOper y ih (cOper P L ops o) l e th n f = r) (hk : ∀ v l' e' t' n', f v l' e' t' n' = r → KT KK n')
    (hn : ∀ v l' e' t' n' ι' w' V, f v l' e' t' n' = r → PC KK ι w t' n' ι' w' → RI L N ι' l' e' (ac.put o.dst V).tmps → n ≤ n' → next (ac.put o.dst V) w') : wpG ro m P ops o ac w next Q := by
  have main : ∀ {iop : IOp}, cOp P o.op = some iop → denOp y ih iop l e th n (fun v t n => put (cDst L o.dst) v l e fun l e => f v l e t n) = r → o.wpIn (Fr ro) m P ac w next Q := by
    intro iop hc h
    refine op_ok hc hYM hI hyo hih hR hH hY hi.tl hi.te hr h (fun v t' n' h1 => ?_) (fun v t' n' ι' w' V h1 h2 h3 h4 => ?_)
    · obtain ⟨l', e', h2⟩ := h_put h1
      exact hk _ _ _ _ _ h2
    · obtain ⟨l', e', h5, h6⟩ := (hi.mono h3.ext.le).put h2 hd h1
      exact hn _ _ _ _ _ _ _ V h5 h3 h6 h4
  have badne : ∀ {k : KH}, denOp y ih (.bad 0) l e th n k ≠ r := fun h => hr _ h.symm
  unfold cOper at h
  cases hg : o.guard with
  | none =>
    rw [hg] at h
    obtain ⟨iop, hc, h⟩ := opOf_cOp (f := fun iop => denOp y ih iop l e th n fun v t n => put (cDst L o.dst) v l e fun l e => f v l e t n) h badne
    rw [wpG, if_pos (wanted_none hg)]
    exact main hc h
  | some q =>
    obtain ⟨j, b⟩ := q
    rw [hg] at h
    cases hs : gslot ops j with
    | none =>
      simp only [hs] at h
      exact absurd h.symm (hr _)
    | some s =>
      simp only [hs] at h
      obtain ⟨g, V, hgV, hV, h⟩ := fetch_t hi.tl hi.te hr (show fetch l e (.t s) _ = r from h)
      rcases gB_ok h hgV with ⟨hb, h⟩ | ⟨hb, h⟩
      · obtain ⟨iop, hc, h⟩ := opOf_cOp (f := fun iop => denOp y ih iop l e th n fun v t n => put (cDst L o.dst) v l e fun l e => f v l e t n) h badne
        rw [wpG, if_pos ((wanted_some hg hs hV).2 hb)]
        exact main hc h
      · rw [wpG, if_neg (fun h => hb ((wanted_some hg hs hV).1 h))]
        obtain ⟨l', e', h5, h6⟩ := hi.put unit_ok hd h
        exact hn _ _ _ _ _ _ _ undef h5 (.refl hR hH hY) h6 (Nat.le_refl _)
theorem opsIn_ok : ∀ (os : List Oper) (j : Nat) (l e : T AV) (th : H) (n : Nat) (ι : Rn) (ac : Act) (w : World) (k : KD), ops.toList.drop j = os → YM y → IM ih → YOK P tk y ι w → IhOK P tk ih → Rel ι (un th KK) w → HT th n → YT ι n → RI L N ι l e ac.tmps →
    (∀ o ∈ os, ∀ d, o.dst = some d → d < N) → NE r → denOps y ih (os.map (cOper P L ops)) l e th n k = r → (∀ e' t' n', k e' t' n' = r → KT KK n') →
    (∀ l' e' t' n' ι' ac' w', k e' t' n' = r → n ≤ n' → PC KK ι w t' n' ι' w' → RI L N ι' l' e' ac'.tmps → ac'.defers = ac.defers → Q .normal ac' w') →
    wpOpsIn (Fr ro) m P ops Q (List.range' j os.length) ac w := by
  intro os
  induction os with
  | nil =>
    intro j l e th n ι ac w k _ _ _ _ _ hR hH hY hi _ _ h _ hQ
    exact hQ l e th n ι ac w h (Nat.le_refl _) (.refl hR hH hY) hi rfl
  | cons o os ihl =>
    intro j l e th n ι ac w k hdr hYM hI hyo hih hR hH hY hi hd hr h hk hQ
    have ho : ops[j]? = some o := by
      have := congrArg (·[0]?) hdr
      simpa using this
    have hdr' : ops.toList.drop (j + 1) = os := by
      rw [← List.drop_drop, hdr]; rfl
    show wpOpsIn (Fr ro) m P ops Q (j :: List.range' (j + 1) os.length) ac w
    have key : wpG ro m P ops o ac w (wpOpsIn (Fr ro) m P ops Q (List.range' (j + 1) os.length)) Q := by
      refine oper_ok hYM hI hyo hih hR hH hY hi (fun d h => hd o (.head _) d h) hr (show denOper y ih (cOper P L ops o) l e th n (fun _ l e t n => denOps y ih (os.map (cOper P L ops)) l e t n k) = r from h) (fun v l' e' t' n' h1 => ?_) (fun v l' e' t' n' ι' w' V h1 h2 h3 h4 => ?_)
      · obtain ⟨e2, t2, n2, h3, h4⟩ := o_denOps hYM hI hr h1
        exact (hk _ _ _ h4).mono h3
      · exact ihl (j + 1) l' e' t' n' ι' _ w' k hdr' hYM hI (hyo.mono h2.ext h2.frm) hih h2.rel h2.ht h2.yt h3 (fun o ho => hd o (.tail _ ho)) hr h1 hk
          (fun l2 e2 t2 n2 ι2 ac2 w2 g1 g2 g3 g4 g5 => hQ l2 e2 t2 n2 ι2 ac2 w2 g1 (by omega) (h2.trans g3) g4 (by rw [g5]; cases o.dst <;> rfl))
    simp only [wpOpsIn, ho]
    unfold wpG at key
    split
    · rename_i hw; rw [if_pos hw] at key; exact key
    · rename_i hw; rw [if_neg hw] at key; exact ⟨fun f _ => fr_fn ro f, key⟩
end
end Ev
