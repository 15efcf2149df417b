/- The law FnExactIsSafe, from an agreement of the two. Its condition: that they agree. -/
import Derived.Test.YtafgkoelefpacaaPfC
import Derived.Test.YtafgkoelefpacaaPfD
import Derived.Test.YtafgkoelefpacaaPfTLExactIsSafe
set_option linter.all false
namespace Go.Proofs.Ytafgkoelefpacaa.Pf
open Go Go.Pv
theorem isSafe_law (p : Pg) (hl : Lens p) (H : Small p → ∃ b : Bool, Ans n_spec_IsSafe s_spec_IsSafe (p, ()) ((b, ()), ()) ∧ Ans n_impl_IsSafe s_impl_IsSafe (p, ()) ((b, ()), ())) :
    Ans n_laws_FnExactIsSafe s_laws_FnExactIsSafe (p, ()) ((true, ()), ()) := by
  refine Gv.ans (Gv.of (fun k => laws_FnExactIsSafe.F_eq (cl k) k p) ?_)
  unfold laws_FnExactIsSafe.F laws_FnExactIsSafe.Fm
  refine Tq.bind (szProg_gv p hl).tq fun (y : (Int × Unit) × Unit) hy => ?_
  refine Tq.bif (fun _ => Tq.ret rfl) fun h0 => ?_
  have h0 : ¬ y.1.1 < 0 := of_decide_eq_false h0
  have hs := hy.resolve_left h0
  obtain ⟨b, h1, h2⟩ := H hs
  refine Tq.bind (toProg_ans p hs).tq fun y hy => ?_
  subst hy
  refine Tq.bind h1.tq fun y hy => ?_
  subst hy
  refine Tq.bind (toProg_ans p hs).tq fun y hy => ?_
  subst hy
  refine Tq.bind h2.tq fun y hy => ?_
  subst hy
  refine Tq.bf (by simp) (Tq.bind (toProg_ans p hs).tq fun y hy => ?_)
  subst hy
  refine Tq.bind (eqProg_ans p hs).tq fun y hy => ?_
  subst hy
  exact Tq.bf rfl (Tq.ret rfl)
end Go.Proofs.Ytafgkoelefpacaa.Pf
