import Derived.Test.YtlkiacbmbfmlpaaT0
import Derived.Test.YtlkiacbmbfmlpaaYZI
import Derived.KernelRfl
import Derived.Below
/- The table of the functions is as the proofs want it; known() answers true; the laws' runs are the calls'. Conditions: none of its own. -/
namespace Go.Proofs.Ytlkiacbmbfmlpaa
open Go Ev
set_option maxRecDepth 100000
theorem known_ok [Ev.Told] : isT (run (tab fun _ _ => none) 999 noY 5 .nil .leaf 0) = true := by kernel_rfl
theorem known_call [Ev.Told] [TokV] [ToldOK] : ∃ t1 n1, ∀ kk, C (run (tab fun _ _ => none) 999) 5 .nil .leaf 0 kk = kk (.num 8 (.ofNat 1)) t1 n1 := by
  obtain ⟨t, n, h⟩ := isT_inv known_ok
  exact ⟨t, n, fun kk => C_ok h⟩
theorem tb_ok [Ev.Told] [TokV] [ToldOK] : TbM (tab fun _ _ => none) := by constructor <;> rfl
theorem runT [Ev.Told] [TokV] [ToldOK] {tab : Bt FnD} {F f : Nat} {s : FnD} {a : AV} (hg : tab.get f = some s) (h : ∃ t' n', s noY (run tab F) a .leaf 0 = .ok (.num 8 (.ofNat 1)) t' n') : isT (run tab (F + 1) noY f a .leaf 0) = true := by
  obtain ⟨t', n', h⟩ := h
  show isT (tag f (Option.rec (motive := fun _ => Out) (.err 98) (fun d => d noY (run tab F) a .leaf 0) (tab.get f))) = true
  rw [hg]
  show isT (tag f (s noY (run tab F) a .leaf 0)) = true
  rw [h]; rfl
theorem law3 {W : World} {l b : Value} {sl sb : AV} {xs : List AV} {ms : List MapV} {bs : List Nat} (h : @ArgM (wTold W) sl sb xs ms bs) (h0 : abV l = some sl) (h1 : abV b = some sb) :
    Calls Try.prog 3 #[l, b] W fun e w' => e = .returned (.bool true) ∧ Frm (rn0 fun _ => none) W w' := by
  letI : Ev.Told := wTold W
  letI : TokV := wTok W
  haveI : ToldOK := wOK W
  obtain ⟨t1, n1, hk⟩ := known_call
  refine law_okA (tk := fun _ => none) (tab_ok (res := fun _ _ => none)) (a := .cons sl (.cons sb .nil)) ?_ (runT (F := 999) tb_ok.g3 (bytesL_ok h hk ⟨999, by omega, rfl⟩ tb_ok)) W (wArg W _)
  simp [toT, (abV_ok h0).2, (abV_ok h1).2]
theorem law4 {W : World} {l b : Value} {sl sb : AV} {xs : List AV} {ms : List MapV} {bs : List Nat} (h : @ArgM (wTold W) sl sb xs ms bs) (h0 : abV l = some sl) (h1 : abV b = some sb) :
    Calls Try.prog 4 #[l, b] W fun e w' => e = .returned (.bool true) ∧ Frm (rn0 fun _ => none) W w' := by
  letI : Ev.Told := wTold W
  letI : TokV := wTok W
  haveI : ToldOK := wOK W
  obtain ⟨t1, n1, hk⟩ := known_call
  refine law_okA (tk := fun _ => none) (tab_ok (res := fun _ _ => none)) (a := .cons sl (.cons sb .nil)) ?_ (runT (F := 999) tb_ok.g4 (back_ok h hk ⟨999, by omega, rfl⟩ tb_ok)) W (wArg W _)
  simp [toT, (abV_ok h0).2, (abV_ok h1).2]
theorem below {W W' : World} (h : Frm (rn0 fun _ => none) W W') : RowKit.Below W.heap.size W W' := ⟨h.os, h.tape, h.output, h.size, fun k hk => h.block k hk (fun _ _ _ h => by cases h) (fun _ _ h => by cases h)⟩
end Go.Proofs.Ytlkiacbmbfmlpaa
