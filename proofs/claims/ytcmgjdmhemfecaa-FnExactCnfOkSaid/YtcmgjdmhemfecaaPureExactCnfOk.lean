/- The law on CnfOk, over plain values: it answers yes. No condition. -/
import Derived.Test.YtcmgjdmhemfecaaPfC
import Derived.Test.YtcmgjdmhemfecaaPfTLExactCnfOk
namespace Go.Proofs.Ytcmgjdmhemfecaa.fnExactCnfOk
open Go Go.Pv Pf
theorem pure : ∀ (a0 : Ty.den (.pair (.int .i64) (.pair (.slc (.slc (.int .i64))) (.unit)))) (_ : Fits (.pair (.int .i64) (.pair (.slc (.slc (.int .i64))) (.unit))) a0), ∃ r : Sg.R Pf.s_laws_FnExactCnfOk |>.den, (∃ k, sem Pf.E (fun _ _ => none) k Pf.n_laws_FnExactCnfOk Pf.s_laws_FnExactCnfOk (a0, ()) = some r) ∧ r.1.1 = true := by
  rintro ⟨v, cs, ⟨⟩⟩ ⟨_, ⟨f1, f2⟩, _⟩
  refine ⟨((true, ()), ()), Ans.sem (Ans.of (fun k => laws_FnExactCnfOk.F_eq (cl k) k (v, cs, ())) ?_), rfl⟩
  obtain ⟨z, hz, hz2⟩ := szCnf_ans (v, cs, ()) f1 fun x hx => (f2 x hx).1
  rcases hz2 with rfl | ⟨h0, hs⟩
  · refine hz.mono fun k hz => ?_
    simp only [laws_FnExactCnfOk.F, laws_FnExactCnfOk.Fm, hz, Option.bind_some]
    rfl
  obtain ⟨b1, hb1, hc1⟩ := spec_CnfOk_ans (v, cs, ()) hs
  obtain ⟨b2, hb2, hc2⟩ := impl_CnfOk_ans (v, cs, ()) hs
  have hb : b1 = b2 := Bool.eq_iff_iff.2 (hc1.trans hc2.symm)
  subst hb
  refine (hz.and (hb1.and (hb2.and ((toCnf_ans _ hs).and (eqCnf_ans _ hs))))).mono fun k ⟨hz, hb1, hb2, ht, he⟩ => ?_
  simp only [laws_FnExactCnfOk.F, laws_FnExactCnfOk.Fm, hz, Option.bind_some, hb1, hb2, ht, he]
  rw [decide_eq_false (by omega)]
  simp
end Go.Proofs.Ytcmgjdmhemfecaa.fnExactCnfOk
