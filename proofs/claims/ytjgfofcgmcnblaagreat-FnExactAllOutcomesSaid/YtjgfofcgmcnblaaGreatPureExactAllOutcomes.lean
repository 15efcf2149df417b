/- The law FnExactAllOutcomes, over plain values: it answers yes. No condition. -/
import Derived.Test.YtjgfofcgmcnblaaGreatPfE6
set_option linter.all false
namespace Go.Proofs.YtjgfofcgmcnblaaGreat.fnExactAllOutcomes
open Go Go.Pv Pf
theorem pure:∀(a0:Ty.den (.pair (.int .i64) (.pair (.slc (.pair (.int .i64) (.pair (.int .i64) (.unit)))) (.pair (.slc (.pair (.int .i64) (.pair (.int .i64) (.unit)))) (.pair (.int .i64) (.pair (.slc (.int .i64)) (.pair (.slc (.pair (.int .i64) (.pair (.int .i64) (.pair (.slc (.pair (.int .i64) (.pair (.int .i64) (.unit)))) (.pair (.slc (.pair (.int .i64) (.pair (.int .i64) (.unit)))) (.unit)))))) (.unit))))))))(_:Fits (.pair (.int .i64) (.pair (.slc (.pair (.int .i64) (.pair (.int .i64) (.unit)))) (.pair (.slc (.pair (.int .i64) (.pair (.int .i64) (.unit)))) (.pair (.int .i64) (.pair (.slc (.int .i64)) (.pair (.slc (.pair (.int .i64) (.pair (.int .i64) (.pair (.slc (.pair (.int .i64) (.pair (.int .i64) (.unit)))) (.pair (.slc (.pair (.int .i64) (.pair (.int .i64) (.unit)))) (.unit)))))) (.unit))))))) a0),∃r:Sg.R Pf.s_laws_FnExactAllOutcomes|>.den,(∃k,sem Pf.E (fun _ _=>none) k Pf.n_laws_FnExactAllOutcomes Pf.s_laws_FnExactAllOutcomes (a0,())=some r)∧r.1.1=true:=by
  rintro p ⟨_,⟨f1,_⟩,⟨f2,_⟩,_,⟨f3,_⟩,⟨f4,f5⟩,_⟩;exact⟨_,(allOutcomes_law p ⟨f1,f2,f3,f4,fun x hx=>⟨(f5 x hx).2.2.1.1,(f5 x hx).2.2.2.1.1⟩⟩).sem,rfl⟩
end Go.Proofs.YtjgfofcgmcnblaaGreat.fnExactAllOutcomes
