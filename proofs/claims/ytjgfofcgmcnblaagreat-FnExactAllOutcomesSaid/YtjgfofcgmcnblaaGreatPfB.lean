/- The laws' copies answer what they are given. No condition but the lists' lengths. -/
import Derived.Test.YtjgfofcgmcnblaaGreatPfA
import Derived.Test.YtjgfofcgmcnblaaGreatPfT0
set_option linter.all false
namespace Go.Proofs.YtjgfofcgmcnblaaGreat.Pf
open Go Go.Pv
abbrev Ip:=Int×(Int×Unit)
abbrev Tm:=Int×(Int×Unit)
abbrev Sm:=Int×(Int×(List Tm×(List Tm×Unit)))
abbrev Pg:=Int×(List Ip×(List Ip×(Int×(List Int×(List Sm×Unit)))))
theorem mk_ok {n b:Nat}(h:n*b≤281474976710656):(decide ((n:Int)=(n:Int))&&decide ((0:Int)≤(n:Int))&&decide ((n:Int)*(b:Int)≤(281474976710656:Int)))=true:=by
  have h1:((n*b:Nat):Int)≤281474976710656:=by omega
  rw[Int.natCast_mul]at h1;rw[decide_eq_true rfl,decide_eq_true (by omega),decide_eq_true h1];rfl
theorem set_take_drop {α:Type}(acc a:List α){j:Nat}(hj:j<a.length)(hl:acc.length=a.length):(acc.set j a[j]).take (j+1)++a.drop (j+1)=acc.take j++a.drop j:=by
  rw[List.drop_eq_getElem_cons hj,List.take_set,List.take_succ_eq_append_getElem (by omega),List.set_append_right _ _ (by simp;omega)];have:j-(acc.take j).length=0:=by simp;omega
  rw[this];simp
theorem idx_ok {j n:Nat}(h:j<n):(decide ((0:Int)≤(j:Int))&&decide (((j:Int)).toNat<n))=true:=by
  rw[dle0,Int.toNat_natCast,decide_eq_true h];rfl
theorem toInput_ans(x:Ip):Ans n_laws_toInput s_laws_toInput (x,()) ((x,()),()):=by
  refine Gv.ans (Gv.of (fun k=>laws_toInput.F_eq (cl k) k x) ?_);unfold laws_toInput.F laws_toInput.Fm;exact Tq.ret rfl
theorem toTerm_ans(x:Tm):Ans n_laws_toTerm s_laws_toTerm (x,()) ((x,()),()):=by
  refine Gv.ans (Gv.of (fun k=>laws_toTerm.F_eq (cl k) k x) ?_);unfold laws_toTerm.F laws_toTerm.Fm;exact Tq.ret rfl
theorem toInt64S_loop(a:List Int)(ha:a.length≤1048576):∀(d j:Nat)(acc:List Int),a.length-j=d→acc.length=a.length→
    Tq (d+1) (fun k q=>laws_toInt64S.L0 (cl k) k a q (j:Int) acc) (· =((acc.take j++a.drop j,()),()))
  | 0,j,acc,hd,hl=>by
    refine Tq.succ ?_;show Tq _ (fun k q=>laws_toInt64S.step0 (cl k) k ..) _
    unfold laws_toInt64S.step0;refine Tq.bf (dnlt (by omega)) (Tq.ret ?_);rw[List.take_of_length_le (by omega),List.drop_of_length_le (by omega),List.append_nil]
  | d+1,j,acc,hd,hl=>by
    have hj:j<a.length:=by omega
    have hj':j<acc.length:=by omega
    refine Tq.succ ?_;show Tq _ (fun k q=>laws_toInt64S.step0 (cl k) k ..) _
    unfold laws_toInt64S.step0;refine Tq.bt (dlt hj) (Tq.bt (dle0 j) (Tq.some (lg hj) (Tq.bt (idx_ok hj') (Tq.some (lg hj') ?_))));rw[ws hj (by omega),Int.toNat_natCast,←set_take_drop acc a hj hl];exact toInt64S_loop a ha d (j+1) _ (by omega) (by simp[hl])
theorem toInt64S_ans(a:List Int)(ha:a.length≤1048576):Ans n_laws_toInt64S s_laws_toInt64S (a,()) ((a,()),()):=by
  refine Gv.ans (Gv.of (fun k=>laws_toInt64S.F_eq (cl k) k a) ?_);unfold laws_toInt64S.F laws_toInt64S.Fm;refine Tq.bt (mk_ok (b:=ti2.bytes) (by show a.length*8≤_;omega)) (Tq.diag ((toInt64S_loop a ha a.length 0 _ rfl (by simp)).mono fun x hx=>?_));rw[hx];simp
theorem toInputS_loop(a:List Ip)(ha:a.length≤1048576):∀(d j:Nat)(acc:List Ip),a.length-j=d→acc.length=a.length→
    Tq (d+1) (fun k q=>laws_toInputS.L0 (cl k) k a q (j:Int) acc) (· =((acc.take j++a.drop j,()),()))
  | 0,j,acc,hd,hl=>by
    refine Tq.succ ?_;show Tq _ (fun k q=>laws_toInputS.step0 (cl k) k ..) _
    unfold laws_toInputS.step0;refine Tq.bf (dnlt (by omega)) (Tq.ret ?_);rw[List.take_of_length_le (by omega),List.drop_of_length_le (by omega),List.append_nil]
  | d+1,j,acc,hd,hl=>by
    have hj:j<a.length:=by omega
    have hj':j<acc.length:=by omega
    refine Tq.succ ?_;show Tq _ (fun k q=>laws_toInputS.step0 (cl k) k ..) _
    unfold laws_toInputS.step0;refine Tq.bt (dlt hj) (Tq.bt (dle0 j) (Tq.some (lg hj) (Tq.bind (toInput_ans a[j]).tq fun y hy=>?_)));subst hy;refine Tq.bt (idx_ok hj') (Tq.some (lg hj') ?_);rw[ws hj (by omega),Int.toNat_natCast,←set_take_drop acc a hj hl];exact toInputS_loop a ha d (j+1) _ (by omega) (by simp[hl])
theorem toInputS_ans(a:List Ip)(ha:a.length≤1048576):Ans n_laws_toInputS s_laws_toInputS (a,()) ((a,()),()):=by
  refine Gv.ans (Gv.of (fun k=>laws_toInputS.F_eq (cl k) k a) ?_);unfold laws_toInputS.F laws_toInputS.Fm;refine Tq.bt (mk_ok (b:=ti59.bytes) (by show a.length*16≤_;omega)) (Tq.diag ((toInputS_loop a ha a.length 0 _ rfl (by simp)).mono fun x hx=>?_));rw[hx];simp
theorem toTermS_loop(a:List Tm)(ha:a.length≤1048576):∀(d j:Nat)(acc:List Tm),a.length-j=d→acc.length=a.length→
    Tq (d+1) (fun k q=>laws_toTermS.L0 (cl k) k a q (j:Int) acc) (· =((acc.take j++a.drop j,()),()))
  | 0,j,acc,hd,hl=>by
    refine Tq.succ ?_;show Tq _ (fun k q=>laws_toTermS.step0 (cl k) k ..) _
    unfold laws_toTermS.step0;refine Tq.bf (dnlt (by omega)) (Tq.ret ?_);rw[List.take_of_length_le (by omega),List.drop_of_length_le (by omega),List.append_nil]
  | d+1,j,acc,hd,hl=>by
    have hj:j<a.length:=by omega
    have hj':j<acc.length:=by omega
    refine Tq.succ ?_;show Tq _ (fun k q=>laws_toTermS.step0 (cl k) k ..) _
    unfold laws_toTermS.step0;refine Tq.bt (dlt hj) (Tq.bt (dle0 j) (Tq.some (lg hj) (Tq.bind (toTerm_ans a[j]).tq fun y hy=>?_)));subst hy;refine Tq.bt (idx_ok hj') (Tq.some (lg hj') ?_);rw[ws hj (by omega),Int.toNat_natCast,←set_take_drop acc a hj hl];exact toTermS_loop a ha d (j+1) _ (by omega) (by simp[hl])
theorem toTermS_ans(a:List Tm)(ha:a.length≤1048576):Ans n_laws_toTermS s_laws_toTermS (a,()) ((a,()),()):=by
  refine Gv.ans (Gv.of (fun k=>laws_toTermS.F_eq (cl k) k a) ?_);unfold laws_toTermS.F laws_toTermS.Fm;refine Tq.bt (mk_ok (b:=ti184.bytes) (by show a.length*16≤_;omega)) (Tq.diag ((toTermS_loop a ha a.length 0 _ rfl (by simp)).mono fun x hx=>?_));rw[hx];simp
theorem toStmt_ans(x:Sm)(h1:x.2.2.1.length≤1048576)(h2:x.2.2.2.1.length≤1048576):Ans n_laws_toStmt s_laws_toStmt (x,()) ((x,()),()):=by
  refine Gv.ans (Gv.of (fun k=>laws_toStmt.F_eq (cl k) k x) ?_);unfold laws_toStmt.F laws_toStmt.Fm;refine Tq.bind (toTermS_ans x.2.2.1 h1).tq fun y hy=>?_
  subst hy;refine Tq.bind (toTermS_ans x.2.2.2.1 h2).tq fun y hy=>?_
  subst hy;exact Tq.ret rfl
theorem toStmtS_loop(a:List Sm)(ha:a.length≤1048576)(he:∀x∈a,Ans n_laws_toStmt s_laws_toStmt (x,()) ((x,()),())):∀(d j:Nat)(acc:List Sm),a.length-j=d→acc.length=a.length→
    Tq (d+1) (fun k q=>laws_toStmtS.L0 (cl k) k a q (j:Int) acc) (· =((acc.take j++a.drop j,()),()))
  | 0,j,acc,hd,hl=>by
    refine Tq.succ ?_;show Tq _ (fun k q=>laws_toStmtS.step0 (cl k) k ..) _
    unfold laws_toStmtS.step0;refine Tq.bf (dnlt (by omega)) (Tq.ret ?_);rw[List.take_of_length_le (by omega),List.drop_of_length_le (by omega),List.append_nil]
  | d+1,j,acc,hd,hl=>by
    have hj:j<a.length:=by omega
    have hj':j<acc.length:=by omega
    refine Tq.succ ?_;show Tq _ (fun k q=>laws_toStmtS.step0 (cl k) k ..) _
    unfold laws_toStmtS.step0;refine Tq.bt (dlt hj) (Tq.bt (dle0 j) (Tq.some (lg hj) (Tq.bind (he a[j] (List.getElem_mem hj)).tq fun y hy=>?_)));subst hy;refine Tq.bt (idx_ok hj') (Tq.some (lg hj') ?_);rw[ws hj (by omega),Int.toNat_natCast,←set_take_drop acc a hj hl];exact toStmtS_loop a ha he d (j+1) _ (by omega) (by simp[hl])
theorem toStmtS_ans(a:List Sm)(ha:a.length≤1048576)(he:∀x∈a,Ans n_laws_toStmt s_laws_toStmt (x,()) ((x,()),())):Ans n_laws_toStmtS s_laws_toStmtS (a,()) ((a,()),()):=by
  refine Gv.ans (Gv.of (fun k=>laws_toStmtS.F_eq (cl k) k a) ?_);unfold laws_toStmtS.F laws_toStmtS.Fm;refine Tq.bt (mk_ok (b:=ti114.bytes) (by show a.length*64≤_;omega)) (Tq.diag ((toStmtS_loop a ha he a.length 0 _ rfl (by simp)).mono fun x hx=>?_));rw[hx];simp
/--No list in it is longer than a law looks at. -/
def Small(p:Pg):Prop:=p.2.1.length≤1048576∧p.2.2.1.length≤1048576∧p.2.2.2.2.1.length≤1048576∧p.2.2.2.2.2.1.length≤1048576∧∀x∈p.2.2.2.2.2.1,x.2.2.1.length≤1048576∧x.2.2.2.1.length≤1048576
theorem toProg_ans(p:Pg)(h:Small p):Ans n_laws_toProg s_laws_toProg (p,()) ((p,()),()):=by
  obtain⟨h1,h2,h3,h4,h5⟩:=h;refine Gv.ans (Gv.of (fun k=>laws_toProg.F_eq (cl k) k p) ?_);unfold laws_toProg.F laws_toProg.Fm;refine Tq.bind (toInputS_ans p.2.1 h1).tq fun y hy=>?_
  subst hy;refine Tq.bind (toInputS_ans p.2.2.1 h2).tq fun y hy=>?_
  subst hy;refine Tq.bind (toInt64S_ans p.2.2.2.2.1 h3).tq fun y hy=>?_
  subst hy;refine Tq.bind (toStmtS_ans p.2.2.2.2.2.1 h4 fun x hx=>toStmt_ans x (h5 x hx).1 (h5 x hx).2).tq fun y hy=>?_
  subst hy;exact Tq.ret rfl
end Go.Proofs.YtjgfofcgmcnblaaGreat.Pf
