/- The law on NotDia, over plain values: it answers yes. No condition. -/
import Derived.Test.YtcmgjdmhemfecaaPfJ
import Derived.Test.YtcmgjdmhemfecaaPfTLExactNotDia
namespace Go.Proofs.Ytcmgjdmhemfecaa.fnExactNotDia
open Go Go.Pv Pf
theorem pure : ∀ (a0 : Ty.den (.pair (.int .i64) (.pair (.int .i64) (.pair (.slc (.pair (.int .i64) (.pair (.int .i64) (.pair (.int .i64) (.unit))))) (.unit))))) (_ : Fits (.pair (.int .i64) (.pair (.int .i64) (.pair (.slc (.pair (.int .i64) (.pair (.int .i64) (.pair (.int .i64) (.unit))))) (.unit)))) a0), ∃ r : Sg.R Pf.s_laws_FnExactNotDia |>.den, (∃ k, sem Pf.E (fun _ _ => none) k Pf.n_laws_FnExactNotDia Pf.s_laws_FnExactNotDia (a0, ()) = some r) ∧ r.1.1 = true := by
  rintro d ⟨_, _, ⟨f1, _⟩, _⟩
  refine ⟨((true, ()), ()), Ans.sem (Ans.of (fun k => laws_FnExactNotDia.F_eq (cl k) k d) ?_), rfl⟩
  obtain ⟨z, hz, hz2⟩ := szDia_ans d f1
  rcases hz2 with rfl | ⟨h0, hs⟩
  · refine hz.mono fun k hz => ?_
    simp only [laws_FnExactNotDia.F, laws_FnExactNotDia.Fm, hz, Option.bind_some]
    rfl
  have hn := notDia_len d
  have hm := heldDia_ans (notDia d).1 (notDia d).2.1 (notDia d).2.2.1.length (by omega)
  refine (hz.and ((spec_NotDia_ans d hs).and ((impl_NotDia_ans d hs).and ((toDia_ans d hs).and ((eqDia_ans d hs).and ((eqDia_ans (notDia d) (by omega)).and ((markDia_ans d hs).and ((markDia_ans (notDia d) (by omega)).and hm)))))))).mono fun k ⟨hz, h1, h2, ht, he, he2, hm1, hm2, hh⟩ => ?_
  generalize notDia d = e at *
  have h1 : cl k 66 s_spec_NotDia ((d.1, d.2.1, d.2.2.1, d.2.2.2), ()) = some ((e, ()), ()) := h1
  have h2 : cl k 59 s_impl_NotDia ((d.1, d.2.1, d.2.2.1, d.2.2.2), ()) = some ((e, ()), ()) := h2
  have he : cl k 27 s_laws_eqDia ((d.1, d.2.1, d.2.2.1, d.2.2.2), (d.1, d.2.1, d.2.2.1, d.2.2.2), ()) = some ((true, ()), ()) := he
  have he2 : cl k 27 s_laws_eqDia ((e.1, e.2.1, e.2.2.1, e.2.2.2), (e.1, e.2.1, e.2.2.1, e.2.2.2), ()) = some ((true, ()), ()) := he2
  have hm1 : cl k 28 s_laws_markDia ((d.1, d.2.1, d.2.2.1, d.2.2.2), 1, ()) = some ((1 + 3 * (d.2.2.1.length : Int), ()), (d.1, d.2.1, mKs d.2.2.1.length, ()), ()) := hm1
  have hm2 : cl k 28 s_laws_markDia ((e.1, e.2.1, e.2.2.1, e.2.2.2), 1, ()) = some ((1 + 3 * (e.2.2.1.length : Int), ()), (e.1, e.2.1, mKs e.2.2.1.length, ()), ()) := hm2
  have hh : cl k 29 s_laws_heldDia ((e.1, e.2.1, mKs e.2.2.1.length, e.2.2.2), 1, ()) = some ((1 + 3 * (e.2.2.1.length : Int), ()), ()) := hh
  simp only [laws_FnExactNotDia.F, laws_FnExactNotDia.Fm, hz, Option.bind_some, h1, h2, ht, he, he2, hm1, hm2, hh]
  rw [decide_eq_false (by omega), decide_eq_false (by omega), decide_eq_false (by omega)]
  simp
end Go.Proofs.Ytcmgjdmhemfecaa.fnExactNotDia
