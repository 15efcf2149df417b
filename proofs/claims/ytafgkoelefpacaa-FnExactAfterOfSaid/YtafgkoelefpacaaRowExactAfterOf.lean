/- The law FnExactAfterOf answers yes: for all arguments, no condition. -/
import Derived.Test.YtafgkoelefpacaaRows
import Derived.Test.YtafgkoelefpacaaPureExactAfterOf
import Derived.Test.YtafgkoelefpacaaHead
import Derived.Test.YtafgkoelefpacaaPvEnvOk
import Derived.WalkKit
import Derived.ProofKit
import Derived.OpenShut
import Derived.ChangeOld
import Derived.Below
import Derived.Carry
import Derived.SizedLaws
namespace Go.Proofs.Ytafgkoelefpacaa.fnExactAfterOf
open Go.ChangeShapes Go.WideShapes Go.ChangeAt Go.RowKit Go.Pv
set_option linter.unusedVariables false
theorem own : ownKnob Try.prog.godebug = none := by kernel_rfl
theorem mixed : Pf.E.P.follows .mixedOrders = true := by kernel_rfl
theorem laidOut : laidOutB Try.prog = true := by kernel_rfl
theorem tie0 : (tie Pf.E (.pair (.int .i64) (.pair (.slc (.pair (.int .i64) (.pair (.int .i64) (.unit)))) (.pair (.slc (.pair (.int .i64) (.pair (.int .i64) (.unit)))) (.pair (.int .i64) (.pair (.slc (.int .i64)) (.pair (.slc (.pair (.int .i64) (.pair (.int .i64) (.pair (.slc (.pair (.int .i64) (.pair (.int .i64) (.unit)))) (.pair (.slc (.pair (.int .i64) (.pair (.int .i64) (.unit)))) (.unit)))))) (.unit)))))))).1 26 = true := by kernel_rfl
theorem tie1 : (tie Pf.E (.slc (.int .i64))).1 23 = true := by kernel_rfl
theorem tie2 : (tie Pf.E (.slc (.int .i64))).1 23 = true := by kernel_rfl
theorem sg : Pf.E.sg 4 = some Pf.s_laws_FnExactAfterOf := by kernel_rfl
set_option maxRecDepth 100000 in
theorem lifted (os : Os) (started : os.Started) (H : Type) (enc : TypeId × Value → H) :
    ReturnsInHanded {} Try.checked os 4 .any (Rows.fnExactAfterOfSpec.pre6 enc Try.prog Try.f4 Rows.fnExactAfterOfRow.domain false) (Rows.fnExactAfterOfSpec.post enc Try.prog Try.f4 false true false false) := by
  refine returnsInHanded_of_change_sized (C := Try.checked) own started (by kernel_rfl) Try.func4
    (ChangeSpec.witness6 (enc := enc) (C := Try.checked) false ⟨#[], #[.agg #[.int .i64 0, .slice none 0 0, .slice none 0 0, .int .i64 0, .slice none 0 0, .slice none 0 0], .slice none 0 0, .slice none 0 0], []⟩ 8 (by kernel_rfl) (by kernel_rfl) (by kernel_rfl) (by kernel_rfl)) ?_
  intro W base args ds gs before hval0 hW hcnd hsz0 _
  have hval : ∀ (j : Nat) t v, Try.f4.params[j]? = some t → args[j]? = some v → Value.okWide Try.prog W .any base t v := hval0
  have hW' := hW
  obtain ⟨p, q, hA0, hV, rfl, hfz, hnd⟩ := hW
  have hA : DataW.TrodAll enc Try.prog W 0 (fun _ => true) true Try.f4.params.toList args.toList ds p := hA0
  rw [Try.params4] at hA hval
  obtain ⟨v0, vs0, d0, ds0, p0, q0, hargs, rfl, rfl, h0, r0⟩ := trodAll_cons hA
  obtain ⟨v1, vs1, d1, ds1, p1, q1, rfl, rfl, rfl, h1, r1⟩ := trodAll_cons r0
  obtain ⟨v2, vs2, d2, ds2, p2, q2, rfl, rfl, rfl, h2, r2⟩ := trodAll_cons r1
  obtain ⟨rfl, rfl, rfl⟩ := trodAll_nil r2
  obtain rfl : args = #[v0, v1, v2] := by cases args; simp_all
  obtain ⟨rfl, rfl⟩ := trodVars_none hV
  obtain ⟨a0, hx0⟩ := arg_rep Pf.hE tie0 (hval 0 26 v0 rfl rfl) h0
  have lt0 : ∀ x ∈ p0, x.block < W.heap.size := by obtain ⟨m, hm⟩ := h0; exact DataW.trod_lt m _ _ _ hm
  have ft0 : Fits (.pair (.int .i64) (.pair (.slc (.pair (.int .i64) (.pair (.int .i64) (.unit)))) (.pair (.slc (.pair (.int .i64) (.pair (.int .i64) (.unit)))) (.pair (.int .i64) (.pair (.slc (.int .i64)) (.pair (.slc (.pair (.int .i64) (.pair (.int .i64) (.pair (.slc (.pair (.int .i64) (.pair (.int .i64) (.unit)))) (.pair (.slc (.pair (.int .i64) (.pair (.int .i64) (.unit)))) (.unit)))))) (.unit))))))) a0 := by obtain ⟨_, cs, _, hc⟩ := hx0; exact hc.fits
  obtain ⟨a1, hx1⟩ := arg_rep Pf.hE tie1 (hval 1 23 v1 rfl rfl) h1
  have lt1 : ∀ x ∈ p1, x.block < W.heap.size := by obtain ⟨m, hm⟩ := h1; exact DataW.trod_lt m _ _ _ hm
  have ft1 : Fits (.slc (.int .i64)) a1 := by obtain ⟨_, cs, _, hc⟩ := hx1; exact hc.fits
  obtain ⟨a2, hx2⟩ := arg_rep Pf.hE tie2 (hval 2 23 v2 rfl rfl) h2
  have lt2 : ∀ x ∈ p2, x.block < W.heap.size := by obtain ⟨m, hm⟩ := h2; exact DataW.trod_lt m _ _ _ hm
  have ft2 : Fits (.slc (.int .i64)) a2 := by obtain ⟨_, cs, _, hc⟩ := hx2; exact hc.fits
  clear hA0 hval0 hsz0
  obtain ⟨r, hr, hr1⟩ := pure a0 ft0 a1 ft1 a2 ft2
  refine (law_calls (E := Pf.E) mixed Pf.hE sg rfl (l := (a0, (a1, (a2, ())))) hr hr1 ⟨v0, _, rfl, hx0, ⟨v1, _, rfl, hx1, ⟨v2, _, rfl, hx2, rfl⟩⟩⟩).mono fun e W' ⟨he, bel⟩ => ?_
  subst he
  exact ⟨_, rfl, _, _, _, [], _, [], hW', trodAll_mk1 (shut_bool Try.underlying4 _), (trodAll_cons_mk (Below.trod laidOut (by kernel_rfl) (of_decide_eq_true (by kernel_rfl)) h0 bel lt0) (trodAll_cons_mk (Below.trod laidOut (by kernel_rfl) (of_decide_eq_true (by kernel_rfl)) h1 bel lt1) (trodAll_cons_mk (Below.trod laidOut (by kernel_rfl) (of_decide_eq_true (by kernel_rfl)) h2 bel lt2) trodAll_mk0))), rfl, bel.frame _, fun h => by cases h⟩
theorem over : Rows.fnExactAfterOfRow.holds Try.pinned (OpenSpec.ofChange Rows.fnExactAfterOfSpec) :=
  OpenClaim.holds_of_wide 4 Try.f4 rfl rfl rfl rfl rfl rfl rfl ⟨rfl, rfl, rfl, rfl, rfl⟩ rfl rfl rfl rfl rfl (by kernel_rfl) Try.func4 (facts (by kernel_rfl))
    (of_decide_eq_true (by kernel_rfl)) (by unfold Func.isWrapper; first | (rw [if_pos (by decide +kernel)]; kernel_rfl) | (rw [if_neg (by decide +kernel)]; exact ⟨rfl, rfl⟩))
    (fun os started H enc _ => lifted os started H enc)
theorem proved : Rows.FnExactAfterOfSaid := over
#print axioms proved
end Go.Proofs.Ytafgkoelefpacaa.fnExactAfterOf
namespace Go.Proofs.Ytafgkoelefpacaa
/-- The row, under a short name, for the claim. -/
theorem fnExactAfterOf_holds : Rows.FnExactAfterOfSaid := fnExactAfterOf.proved
end Go.Proofs.Ytafgkoelefpacaa
