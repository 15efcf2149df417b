/- The law on YesIn, over plain values: it answers yes. No condition. -/
import Derived.Test.YtcmgjdmhemfecaaPfJ
import Derived.Test.YtcmgjdmhemfecaaPfTLExactYesIn
namespace Go.Proofs.Ytcmgjdmhemfecaa.fnExactYesIn
open Go Go.Pv Pf
theorem pure : ∀ (a0 : Ty.den (.pair (.int .i64) (.pair (.int .i64) (.pair (.slc (.pair (.int .i64) (.pair (.int .i64) (.pair (.int .i64) (.unit))))) (.unit))))) (_ : Fits (.pair (.int .i64) (.pair (.int .i64) (.pair (.slc (.pair (.int .i64) (.pair (.int .i64) (.pair (.int .i64) (.unit))))) (.unit)))) a0) (a1 : Ty.den (.slc (.bool))) (_ : Fits (.slc (.bool)) a1), ∃ r : Sg.R Pf.s_laws_FnExactYesIn |>.den, (∃ k, sem Pf.E (fun _ _ => none) k Pf.n_laws_FnExactYesIn Pf.s_laws_FnExactYesIn (a0, (a1, ())) = some r) ∧ r.1.1 = true := by
  rintro d ⟨_, _, ⟨f1, _⟩, _⟩ bits ⟨g1, _⟩
  refine ⟨((true, ()), ()), Ans.sem (Ans.of (fun k => laws_FnExactYesIn.F_eq (cl k) k d bits) ?_), rfl⟩
  have g1 : List.length bits ≤ maxLen := g1
  by_cases hb : List.length bits ≤ 1048576
  case neg =>
    refine .all fun k => ?_
    unfold laws_FnExactYesIn.F laws_FnExactYesIn.Fm
    rw [decide_eq_true (by omega)]; rfl
  obtain ⟨z, hz, hz2⟩ := szDia_ans d f1
  rcases hz2 with rfl | ⟨h0, hs⟩
  · refine hz.mono fun k hz => ?_
    simp only [laws_FnExactYesIn.F, laws_FnExactYesIn.Fm, hz, Option.bind_some]
    rw [decide_eq_false (by omega)]
    rfl
  refine (hz.and ((spec_YesIn_ans d hs bits).and ((impl_YesIn_ans d hs bits).and ((toDia_ans d hs).and ((eqDia_ans d hs).and ((toBoolS_ans bits hb).and (eqBoolS_ans bits g1))))))).mono fun k ⟨hz, h1, h2, ht, he, h3, h4⟩ => ?_
  have h1 : cl k 62 s_spec_YesIn ((d.1, d.2.1, d.2.2.1, d.2.2.2), bits, ()) = some ((yesIn d bits, ()), ()) := h1
  have h2 : cl k 63 s_impl_YesIn ((d.1, d.2.1, d.2.2.1, d.2.2.2), bits, ()) = some ((yesIn d bits, ()), ()) := h2
  have he : cl k 27 s_laws_eqDia ((d.1, d.2.1, d.2.2.1, d.2.2.2), (d.1, d.2.1, d.2.2.1, d.2.2.2), ()) = some ((true, ()), ()) := he
  simp only [laws_FnExactYesIn.F, laws_FnExactYesIn.Fm, hz, Option.bind_some, h1, h2, ht, he, h3, h4]
  rw [decide_eq_false (by omega), decide_eq_false (by omega)]
  simp
end Go.Proofs.Ytcmgjdmhemfecaa.fnExactYesIn
