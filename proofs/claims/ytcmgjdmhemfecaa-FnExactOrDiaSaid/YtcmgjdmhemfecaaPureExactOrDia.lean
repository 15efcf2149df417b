/- The law on OrDia, over plain values: it answers yes. No condition. -/
import Derived.Test.YtcmgjdmhemfecaaPfN
import Derived.Test.YtcmgjdmhemfecaaPfTLExactOrDia
namespace Go.Proofs.Ytcmgjdmhemfecaa.fnExactOrDia
open Go Go.Pv Pf
theorem pure : ∀ (a0 : Ty.den (.pair (.int .i64) (.pair (.int .i64) (.pair (.slc (.pair (.int .i64) (.pair (.int .i64) (.pair (.int .i64) (.unit))))) (.unit))))) (_ : Fits (.pair (.int .i64) (.pair (.int .i64) (.pair (.slc (.pair (.int .i64) (.pair (.int .i64) (.pair (.int .i64) (.unit))))) (.unit)))) a0) (a1 : Ty.den (.pair (.int .i64) (.pair (.int .i64) (.pair (.slc (.pair (.int .i64) (.pair (.int .i64) (.pair (.int .i64) (.unit))))) (.unit))))) (_ : Fits (.pair (.int .i64) (.pair (.int .i64) (.pair (.slc (.pair (.int .i64) (.pair (.int .i64) (.pair (.int .i64) (.unit))))) (.unit)))) a1), ∃ r : Sg.R Pf.s_laws_FnExactOrDia |>.den, (∃ k, sem Pf.E (fun _ _ => none) k Pf.n_laws_FnExactOrDia Pf.s_laws_FnExactOrDia (a0, (a1, ())) = some r) ∧ r.1.1 = true := by
  rintro d ⟨_, _, ⟨f1, _⟩, _⟩ d' ⟨_, _, ⟨f2, _⟩, _⟩
  refine ⟨((true, ()), ()), Ans.sem (Ans.of (fun k => laws_FnExactOrDia.F_eq (cl k) k d d') ?_), rfl⟩
  obtain ⟨z, hz, hz2⟩ := szDia_ans2 d (n := 1048576) (by omega) (by omega) f1
  rcases hz2 with rfl | ⟨⟨h0, hzb⟩, hs⟩
  · refine hz.mono fun k hz => ?_
    simp only [laws_FnExactOrDia.F, laws_FnExactOrDia.Fm, hz, Option.bind_some]
    rfl
  obtain ⟨y, hy, hy2⟩ := szDia_ans2 d' h0 hzb f2
  rcases hy2 with rfl | ⟨⟨h0', _⟩, hs'⟩
  · refine (hz.and hy).mono fun k ⟨hz, hy⟩ => ?_
    simp only [laws_FnExactOrDia.F, laws_FnExactOrDia.Fm, hz, hy, Option.bind_some]
    rw [decide_eq_false (by omega)]
    rfl
  have hn := both_len false d d'
  have hm := heldDia_ans (both false d d').1.1 (both false d d').1.2.1 (both false d d').1.2.2.1.length (by omega)
  refine (hz.and (hy.and ((spec_OrDia_ans d d' hs hs').and ((impl_OrDia_ans d d' hs hs').and ((toDia_ans d hs).and ((eqDia_ans d hs).and ((toDia_ans d' hs').and ((eqDia_ans d' hs').and ((eqDia_ans (both false d d').1 (by omega)).and ((markDia_ans d hs).and ((markDia_any d' hs' (s := 1 + 3 * (d.2.2.1.length : Int)) (by omega) (by omega)).and ((markDia_ans (both false d d').1 (by omega)).and hm)))))))))))).mono fun k ⟨hz, hy, h1, h2, ht, he, ht', he', he2, hm1, ⟨lm, hm1'⟩, hm2, hh⟩ => ?_
  generalize both false d d' = e at *
  have h1 : cl k 68 s_spec_OrDia ((d.1, d.2.1, d.2.2.1, d.2.2.2), (d'.1, d'.2.1, d'.2.2.1, d'.2.2.2), ()) = some (e, ()) := h1
  have h2 : cl k 57 s_impl_OrDia ((d.1, d.2.1, d.2.2.1, d.2.2.2), (d'.1, d'.2.1, d'.2.2.1, d'.2.2.2), ()) = some (e, ()) := h2
  have he : cl k 27 s_laws_eqDia ((d.1, d.2.1, d.2.2.1, d.2.2.2), (d.1, d.2.1, d.2.2.1, d.2.2.2), ()) = some ((true, ()), ()) := he
  have he' : cl k 27 s_laws_eqDia ((d'.1, d'.2.1, d'.2.2.1, d'.2.2.2), (d'.1, d'.2.1, d'.2.2.1, d'.2.2.2), ()) = some ((true, ()), ()) := he'
  have he2 : cl k 27 s_laws_eqDia ((e.1.1, e.1.2.1, e.1.2.2.1, e.1.2.2.2), (e.1.1, e.1.2.1, e.1.2.2.1, e.1.2.2.2), ()) = some ((true, ()), ()) := he2
  have hm1 : cl k 28 s_laws_markDia ((d.1, d.2.1, d.2.2.1, d.2.2.2), 1, ()) = some ((1 + 3 * (d.2.2.1.length : Int), ()), (d.1, d.2.1, mKs d.2.2.1.length, ()), ()) := hm1
  have hm1' : cl k 28 s_laws_markDia ((d'.1, d'.2.1, d'.2.2.1, d'.2.2.2), 1 + 3 * (d.2.2.1.length : Int), ()) = some ((1 + 3 * (d.2.2.1.length : Int) + 3 * (d'.2.2.1.length : Int), ()), (d'.1, d'.2.1, lm, ()), ()) := hm1'
  have hm2 : cl k 28 s_laws_markDia ((e.1.1, e.1.2.1, e.1.2.2.1, e.1.2.2.2), 1, ()) = some ((1 + 3 * (e.1.2.2.1.length : Int), ()), (e.1.1, e.1.2.1, mKs e.1.2.2.1.length, ()), ()) := hm2
  have hh : cl k 29 s_laws_heldDia ((e.1.1, e.1.2.1, mKs e.1.2.2.1.length, e.1.2.2.2), 1, ()) = some ((1 + 3 * (e.1.2.2.1.length : Int), ()), ()) := hh
  simp only [laws_FnExactOrDia.F, laws_FnExactOrDia.Fm, hz, hy, Option.bind_some, h1, h2, ht, he, ht', he', he2, hm1, hm1', hm2, hh]
  rw [decide_eq_false (show ¬ z < 0 by omega), decide_eq_false (show ¬ y < 0 by omega), decide_eq_false (show ¬ 1 + 3 * (d.2.2.1.length : Int) + 3 * (d'.2.2.1.length : Int) < 0 by omega), decide_eq_false (show ¬ 1 + 3 * (e.1.2.2.1.length : Int) < 0 by omega)]
  simp
end Go.Proofs.Ytcmgjdmhemfecaa.fnExactOrDia
