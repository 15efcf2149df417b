/- The law on AfterOf, over plain values: it answers yes. No condition. -/
import Derived.Test.YtafgkoelefpacaaPfA11
set_option linter.all false
namespace Go.Proofs.Ytafgkoelefpacaa.fnExactAfterOf
open Go Go.Pv Pf
theorem pure : ∀ (a0 : Ty.den (.pair (.int .i64) (.pair (.slc (.pair (.int .i64) (.pair (.int .i64) (.unit)))) (.pair (.slc (.pair (.int .i64) (.pair (.int .i64) (.unit)))) (.pair (.int .i64) (.pair (.slc (.int .i64)) (.pair (.slc (.pair (.int .i64) (.pair (.int .i64) (.pair (.slc (.pair (.int .i64) (.pair (.int .i64) (.unit)))) (.pair (.slc (.pair (.int .i64) (.pair (.int .i64) (.unit)))) (.unit)))))) (.unit)))))))) (_ : Fits (.pair (.int .i64) (.pair (.slc (.pair (.int .i64) (.pair (.int .i64) (.unit)))) (.pair (.slc (.pair (.int .i64) (.pair (.int .i64) (.unit)))) (.pair (.int .i64) (.pair (.slc (.int .i64)) (.pair (.slc (.pair (.int .i64) (.pair (.int .i64) (.pair (.slc (.pair (.int .i64) (.pair (.int .i64) (.unit)))) (.pair (.slc (.pair (.int .i64) (.pair (.int .i64) (.unit)))) (.unit)))))) (.unit))))))) a0) (a1 : Ty.den (.slc (.int .i64))) (_ : Fits (.slc (.int .i64)) a1) (a2 : Ty.den (.slc (.int .i64))) (_ : Fits (.slc (.int .i64)) a2), ∃ r : Sg.R Pf.s_laws_FnExactAfterOf |>.den, (∃ k, sem Pf.E (fun _ _ => none) k Pf.n_laws_FnExactAfterOf Pf.s_laws_FnExactAfterOf (a0, (a1, (a2, ()))) = some r) ∧ r.1.1 = true := by
  rintro p ⟨_, ⟨f1, _⟩, ⟨f2, _⟩, _, ⟨f3, _⟩, ⟨f4, f5⟩, _⟩ l ⟨g1, _⟩ s ⟨g2, _⟩
  exact ⟨_, (afterOf_law p l s ⟨f1, f2, f3, f4, fun x hx => ⟨(f5 x hx).2.2.1.1, (f5 x hx).2.2.2.1.1⟩⟩ g1 g2).sem, rfl⟩
end Go.Proofs.Ytafgkoelefpacaa.fnExactAfterOf
