/- The laws' comparisons say yes of one and the same. No condition but the lists' lengths. -/
import Derived.Test.YtjgfofcgmcnblaaGreatPfB
set_option linter.all false
namespace Go.Proofs.YtjgfofcgmcnblaaGreat.Pf
open Go Go.Pv
theorem eqInput_ans(x:Ip):Ans n_laws_eqInput s_laws_eqInput (x,x,()) ((true,()),()):=by
  refine Gv.ans (Gv.of (fun k=>laws_eqInput.F_eq (cl k) k x x) ?_);unfold laws_eqInput.F laws_eqInput.Fm;exact Tq.bf (bne_self_eq_false _) (Tq.bf (bne_self_eq_false _) (Tq.ret rfl))
theorem eqTerm_ans(x:Tm):Ans n_laws_eqTerm s_laws_eqTerm (x,x,()) ((true,()),()):=by
  refine Gv.ans (Gv.of (fun k=>laws_eqTerm.F_eq (cl k) k x x) ?_);unfold laws_eqTerm.F laws_eqTerm.Fm;exact Tq.bf (bne_self_eq_false _) (Tq.bf (bne_self_eq_false _) (Tq.ret rfl))
theorem eqInt64S_loop(a:List Int)(ha:a.length≤1048576):∀(d j:Nat),a.length-j=d→
    Tq (d+1) (fun k q=>laws_eqInt64S.L0 (cl k) k a a q (j:Int)) (· =((true,()),()))
  | 0,j,hd=>by
    refine Tq.succ ?_;show Tq _ (fun k q=>laws_eqInt64S.step0 (cl k) k ..) _
    unfold laws_eqInt64S.step0;exact Tq.bf (dnlt (by omega)) (Tq.ret rfl)
  | d+1,j,hd=>by
    have hj:j<a.length:=by omega
    refine Tq.succ ?_;show Tq _ (fun k q=>laws_eqInt64S.step0 (cl k) k ..) _
    unfold laws_eqInt64S.step0;refine Tq.bt (dlt hj) (Tq.bt (dle0 j) (Tq.some (lg hj) (Tq.bt (dle0 j) (Tq.some (lg hj) (Tq.bf (bne_self_eq_false _) ?_)))));rw[ws hj (by omega)];exact eqInt64S_loop a ha d (j+1) (by omega)
theorem eqInt64S_ans(a:List Int)(ha:a.length≤1048576):Ans n_laws_eqInt64S s_laws_eqInt64S (a,a,()) ((true,()),()):=by
  refine Gv.ans (Gv.of (fun k=>laws_eqInt64S.F_eq (cl k) k a a) ?_);unfold laws_eqInt64S.F laws_eqInt64S.Fm;exact Tq.bf (bne_self_eq_false _) (Tq.diag (eqInt64S_loop a ha a.length 0 rfl))
theorem eqInputS_loop(a:List Ip)(ha:a.length≤1048576):∀(d j:Nat),a.length-j=d→
    Tq (d+1) (fun k q=>laws_eqInputS.L0 (cl k) k a a q (j:Int)) (· =((true,()),()))
  | 0,j,hd=>by
    refine Tq.succ ?_;show Tq _ (fun k q=>laws_eqInputS.step0 (cl k) k ..) _
    unfold laws_eqInputS.step0;exact Tq.bf (dnlt (by omega)) (Tq.ret rfl)
  | d+1,j,hd=>by
    have hj:j<a.length:=by omega
    refine Tq.succ ?_;show Tq _ (fun k q=>laws_eqInputS.step0 (cl k) k ..) _
    unfold laws_eqInputS.step0;refine Tq.bt (dlt hj) (Tq.bt (dle0 j) (Tq.some (lg hj) (Tq.bt (dle0 j) (Tq.some (lg hj) (Tq.bind (eqInput_ans a[j]).tq fun y hy=>?_)))));subst hy;refine Tq.bf rfl ?_;rw[ws hj (by omega)];exact eqInputS_loop a ha d (j+1) (by omega)
theorem eqInputS_ans(a:List Ip)(ha:a.length≤1048576):Ans n_laws_eqInputS s_laws_eqInputS (a,a,()) ((true,()),()):=by
  refine Gv.ans (Gv.of (fun k=>laws_eqInputS.F_eq (cl k) k a a) ?_);unfold laws_eqInputS.F laws_eqInputS.Fm;exact Tq.bf (bne_self_eq_false _) (Tq.diag (eqInputS_loop a ha a.length 0 rfl))
theorem eqTermS_loop(a:List Tm)(ha:a.length≤1048576):∀(d j:Nat),a.length-j=d→
    Tq (d+1) (fun k q=>laws_eqTermS.L0 (cl k) k a a q (j:Int)) (· =((true,()),()))
  | 0,j,hd=>by
    refine Tq.succ ?_;show Tq _ (fun k q=>laws_eqTermS.step0 (cl k) k ..) _
    unfold laws_eqTermS.step0;exact Tq.bf (dnlt (by omega)) (Tq.ret rfl)
  | d+1,j,hd=>by
    have hj:j<a.length:=by omega
    refine Tq.succ ?_;show Tq _ (fun k q=>laws_eqTermS.step0 (cl k) k ..) _
    unfold laws_eqTermS.step0;refine Tq.bt (dlt hj) (Tq.bt (dle0 j) (Tq.some (lg hj) (Tq.bt (dle0 j) (Tq.some (lg hj) (Tq.bind (eqTerm_ans a[j]).tq fun y hy=>?_)))));subst hy;refine Tq.bf rfl ?_;rw[ws hj (by omega)];exact eqTermS_loop a ha d (j+1) (by omega)
theorem eqTermS_ans(a:List Tm)(ha:a.length≤1048576):Ans n_laws_eqTermS s_laws_eqTermS (a,a,()) ((true,()),()):=by
  refine Gv.ans (Gv.of (fun k=>laws_eqTermS.F_eq (cl k) k a a) ?_);unfold laws_eqTermS.F laws_eqTermS.Fm;exact Tq.bf (bne_self_eq_false _) (Tq.diag (eqTermS_loop a ha a.length 0 rfl))
theorem eqStmt_ans(x:Sm)(h1:x.2.2.1.length≤1048576)(h2:x.2.2.2.1.length≤1048576):Ans n_laws_eqStmt s_laws_eqStmt (x,x,()) ((true,()),()):=by
  refine Gv.ans (Gv.of (fun k=>laws_eqStmt.F_eq (cl k) k x x) ?_);unfold laws_eqStmt.F laws_eqStmt.Fm;refine Tq.bf (bne_self_eq_false _) (Tq.bf (bne_self_eq_false _) (Tq.bind (eqTermS_ans x.2.2.1 h1).tq fun y hy=>?_));subst hy;refine Tq.bf rfl (Tq.bind (eqTermS_ans x.2.2.2.1 h2).tq fun y hy=>?_);subst hy;exact Tq.bf rfl (Tq.ret rfl)
theorem eqStmtS_loop(a:List Sm)(ha:a.length≤1048576)(he:∀x∈a,Ans n_laws_eqStmt s_laws_eqStmt (x,x,()) ((true,()),())):∀(d j:Nat),a.length-j=d→
    Tq (d+1) (fun k q=>laws_eqStmtS.L0 (cl k) k a a q (j:Int)) (· =((true,()),()))
  | 0,j,hd=>by
    refine Tq.succ ?_;show Tq _ (fun k q=>laws_eqStmtS.step0 (cl k) k ..) _
    unfold laws_eqStmtS.step0;exact Tq.bf (dnlt (by omega)) (Tq.ret rfl)
  | d+1,j,hd=>by
    have hj:j<a.length:=by omega
    refine Tq.succ ?_;show Tq _ (fun k q=>laws_eqStmtS.step0 (cl k) k ..) _
    unfold laws_eqStmtS.step0;refine Tq.bt (dlt hj) (Tq.bt (dle0 j) (Tq.some (lg hj) (Tq.bt (dle0 j) (Tq.some (lg hj) (Tq.bind (he a[j] (List.getElem_mem hj)).tq fun y hy=>?_)))));subst hy;refine Tq.bf rfl ?_;rw[ws hj (by omega)];exact eqStmtS_loop a ha he d (j+1) (by omega)
theorem eqStmtS_ans(a:List Sm)(ha:a.length≤1048576)(he:∀x∈a,Ans n_laws_eqStmt s_laws_eqStmt (x,x,()) ((true,()),())):Ans n_laws_eqStmtS s_laws_eqStmtS (a,a,()) ((true,()),()):=by
  refine Gv.ans (Gv.of (fun k=>laws_eqStmtS.F_eq (cl k) k a a) ?_);unfold laws_eqStmtS.F laws_eqStmtS.Fm;exact Tq.bf (bne_self_eq_false _) (Tq.diag (eqStmtS_loop a ha he a.length 0 rfl))
theorem eqProg_ans(p:Pg)(h:Small p):Ans n_laws_eqProg s_laws_eqProg (p,p,()) ((true,()),()):=by
  obtain⟨h1,h2,h3,h4,h5⟩:=h;refine Gv.ans (Gv.of (fun k=>laws_eqProg.F_eq (cl k) k p p) ?_);unfold laws_eqProg.F laws_eqProg.Fm;refine Tq.bf (bne_self_eq_false _) (Tq.bind (eqInputS_ans p.2.1 h1).tq fun y hy=>?_);subst hy;refine Tq.bf rfl (Tq.bind (eqInputS_ans p.2.2.1 h2).tq fun y hy=>?_);subst hy;refine Tq.bf rfl (Tq.bf (bne_self_eq_false _) (Tq.bind (eqInt64S_ans p.2.2.2.2.1 h3).tq fun y hy=>?_));subst hy;refine Tq.bf rfl (Tq.bind (eqStmtS_ans p.2.2.2.2.2.1 h4 fun x hx=>eqStmt_ans x (h5 x hx).1 (h5 x hx).2).tq fun y hy=>?_);subst hy;exact Tq.bf rfl (Tq.ret rfl)
end Go.Proofs.YtjgfofcgmcnblaaGreat.Pf
