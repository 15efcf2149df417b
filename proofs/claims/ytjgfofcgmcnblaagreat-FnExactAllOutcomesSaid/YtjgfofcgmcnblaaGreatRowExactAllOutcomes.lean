/- The law FnExactAllOutcomes answers yes: for all arguments, no condition. -/
import Derived.Test.YtjgfofcgmcnblaaGreatRows
import Derived.Test.YtjgfofcgmcnblaaGreatPureExactAllOutcomes
import Derived.Test.YtjgfofcgmcnblaaGreatHead
import Derived.Test.YtjgfofcgmcnblaaGreatPvEnvOk
import Derived.WalkKit
import Derived.ProofKit
import Derived.OpenShut
import Derived.ChangeOld
import Derived.Below
import Derived.Carry
import Derived.SizedLaws
namespace Go.Proofs.YtjgfofcgmcnblaaGreat.fnExactAllOutcomes
open Go.ChangeShapes Go.WideShapes Go.ChangeAt Go.RowKit Go.Pv
set_option linter.unusedVariables false
theorem own:ownKnob Tryz.prog.godebug=none:=by kernel_rfl
theorem mixed:Pf.E.P.follows .mixedOrders=true:=by kernel_rfl
theorem laidOut:laidOutB Tryz.prog=true:=by kernel_rfl
theorem tie0:(tie Pf.E (.pair (.int .i64) (.pair (.slc (.pair (.int .i64) (.pair (.int .i64) (.unit)))) (.pair (.slc (.pair (.int .i64) (.pair (.int .i64) (.unit)))) (.pair (.int .i64) (.pair (.slc (.int .i64)) (.pair (.slc (.pair (.int .i64) (.pair (.int .i64) (.pair (.slc (.pair (.int .i64) (.pair (.int .i64) (.unit)))) (.pair (.slc (.pair (.int .i64) (.pair (.int .i64) (.unit)))) (.unit)))))) (.unit)))))))).1 65=true:=by kernel_rfl
theorem sg:Pf.E.sg 9=some Pf.s_laws_FnExactAllOutcomes:=by kernel_rfl
set_option maxRecDepth 100000 in
theorem lifted(os:Os)(started:os.Started)(H:Type)(enc:TypeId×Value→H):
    ReturnsInHanded {} Tryz.checked os 9 .any (Rows.fnExactAllOutcomesSpec.pre6 enc Tryz.prog Tryz.f9 Rows.fnExactAllOutcomesRow.domain false) (Rows.fnExactAllOutcomesSpec.post enc Tryz.prog Tryz.f9 false true false false):=by
  refine returnsInHanded_of_change_sized (C:=Tryz.checked) own started (by kernel_rfl) Tryz.func9
    (ChangeSpec.witness6 (enc:=enc) (C:=Tryz.checked) false ⟨#[],#[.agg #[.int .i64 0,.slice none 0 0,.slice none 0 0,.int .i64 0,.slice none 0 0,.slice none 0 0]],[]⟩ 8 (by kernel_rfl) (by kernel_rfl) (by kernel_rfl) (by kernel_rfl)) ?_
  intro W base args ds gs before hval0 hW hcnd hsz0 _;have hval:∀(j:Nat) t v,Tryz.f9.params[j]?=some t→args[j]?=some v→Value.okWide Tryz.prog W .any base t v:=hval0
  have hW':=hW;obtain⟨p,q,hA0,hV,rfl,hfz,hnd⟩:=hW;have hA:DataW.TrodAll enc Tryz.prog W 0 (fun _=>true) true Tryz.f9.params.toList args.toList ds p:=hA0;rw[Tryz.params9]at hA hval;obtain⟨v0,vs0,d0,ds0,p0,q0,hargs,rfl,rfl,h0,r0⟩:=trodAll_cons hA;obtain⟨rfl,rfl,rfl⟩:=trodAll_nil r0;obtain rfl:args=#[v0]:=by cases args;simp_all
  obtain⟨rfl,rfl⟩:=trodVars_none hV;obtain⟨a0,hx0⟩:=arg_rep Pf.hE tie0 (hval 0 65 v0 rfl rfl) h0;have lt0:∀x∈p0,x.block<W.heap.size:=by obtain⟨m,hm⟩:=h0;exact DataW.trod_lt m _ _ _ hm
  have ft0:Fits (.pair (.int .i64) (.pair (.slc (.pair (.int .i64) (.pair (.int .i64) (.unit)))) (.pair (.slc (.pair (.int .i64) (.pair (.int .i64) (.unit)))) (.pair (.int .i64) (.pair (.slc (.int .i64)) (.pair (.slc (.pair (.int .i64) (.pair (.int .i64) (.pair (.slc (.pair (.int .i64) (.pair (.int .i64) (.unit)))) (.pair (.slc (.pair (.int .i64) (.pair (.int .i64) (.unit)))) (.unit)))))) (.unit))))))) a0:=by obtain⟨_,cs,_,hc⟩:=hx0;exact hc.fits
  clear hA0 hval0 hsz0;obtain⟨r,hr,hr1⟩:=pure a0 ft0;refine(law_calls (E:=Pf.E) mixed Pf.hE sg rfl (l:=(a0,())) hr hr1 ⟨v0,_,rfl,hx0,rfl⟩).mono fun e W'⟨he,bel⟩=>?_
  subst he;exact⟨_,rfl,_,_,_,[],_,[],hW',trodAll_mk1 (shut_bool Tryz.underlying4 _),(trodAll_cons_mk (Below.trod laidOut (by kernel_rfl) (of_decide_eq_true (by kernel_rfl)) h0 bel lt0) trodAll_mk0),rfl,bel.frame _,fun h=>by cases h⟩
theorem over:Rows.fnExactAllOutcomesRow.holds Tryz.pinned (OpenSpec.ofChange Rows.fnExactAllOutcomesSpec):=
  OpenClaim.holds_of_wide 9 Tryz.f9 rfl rfl rfl rfl rfl rfl rfl ⟨rfl,rfl,rfl,rfl,rfl⟩ rfl rfl rfl rfl rfl (by kernel_rfl) Tryz.func9 (facts (by kernel_rfl))
    (of_decide_eq_true (by kernel_rfl)) (by unfold Func.isWrapper;first|(rw[if_pos (by decide+kernel)];kernel_rfl)|(rw[if_neg (by decide+kernel)];exact⟨rfl,rfl⟩))
    (fun os started H enc _=>lifted os started H enc)
theorem proved:Rows.FnExactAllOutcomesSaid:=over
#print axioms proved
end Go.Proofs.YtjgfofcgmcnblaaGreat.fnExactAllOutcomes
namespace Go.Proofs.YtjgfofcgmcnblaaGreat
/--The row,under a short name,for the claim. -/
theorem fnExactAllOutcomes_holds:Rows.FnExactAllOutcomesSaid:=fnExactAllOutcomes.proved
end Go.Proofs.YtjgfofcgmcnblaaGreat
