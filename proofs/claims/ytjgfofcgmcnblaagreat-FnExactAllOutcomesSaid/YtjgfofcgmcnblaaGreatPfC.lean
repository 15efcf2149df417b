/- What the laws' size counts answer. No condition but the lists' lengths. -/
import Derived.Test.YtjgfofcgmcnblaaGreatPfB
set_option linter.all false
namespace Go.Proofs.YtjgfofcgmcnblaaGreat.Pf
open Go Go.Pv
theorem szInt64S_gv(a:List Int)(n:Int)(h0:0≤n)(hn:n≤1048576)(ha:a.length≤maxLen):Gv n_laws_szInt64S s_laws_szInt64S (a,n,()) (fun(r:(Int×Unit)×Unit)=>r.1.1≤n∧(r.1.1<0∨(a.length:Int)≤n)):=by
  have ha:a.length≤9223372036854775807:=ha;refine Gv.of (fun k=>laws_szInt64S.F_eq (cl k) k a n) ?_;unfold laws_szInt64S.F laws_szInt64S.Fm;rw[w64 (by omega) (by omega)];refine Tq.bif (fun h=>Tq.ret ?_) fun h=>Tq.ret ?_
  . exact⟨by show(-1:Int)≤n;omega,.inl (by show(-1:Int)<0;omega)⟩
  . have h:=of_decide_eq_false h;exact⟨by show n-(a.length:Int)≤n;omega,.inr (by omega)⟩
theorem szInputS_gv(a:List Ip)(n:Int)(h0:0≤n)(hn:n≤1048576)(ha:a.length≤maxLen):Gv n_laws_szInputS s_laws_szInputS (a,n,()) (fun(r:(Int×Unit)×Unit)=>r.1.1≤n∧(r.1.1<0∨(a.length:Int)≤n)):=by
  have ha:a.length≤9223372036854775807:=ha;refine Gv.of (fun k=>laws_szInputS.F_eq (cl k) k a n) ?_;unfold laws_szInputS.F laws_szInputS.Fm;rw[w64 (by omega) (by omega)];refine Tq.bif (fun h=>Tq.ret ?_) fun h=>Tq.ret ?_
  . exact⟨by show(-1:Int)≤n;omega,.inl (by show(-1:Int)<0;omega)⟩
  . have h:=of_decide_eq_false h;exact⟨by show n-(a.length:Int)≤n;omega,.inr (by omega)⟩
theorem szTermS_gv(a:List Tm)(n:Int)(h0:0≤n)(hn:n≤1048576)(ha:a.length≤maxLen):Gv n_laws_szTermS s_laws_szTermS (a,n,()) (fun(r:(Int×Unit)×Unit)=>r.1.1≤n∧(r.1.1<0∨(a.length:Int)≤n)):=by
  have ha:a.length≤9223372036854775807:=ha;refine Gv.of (fun k=>laws_szTermS.F_eq (cl k) k a n) ?_;unfold laws_szTermS.F laws_szTermS.Fm;rw[w64 (by omega) (by omega)];refine Tq.bif (fun h=>Tq.ret ?_) fun h=>Tq.ret ?_
  . exact⟨by show(-1:Int)≤n;omega,.inl (by show(-1:Int)<0;omega)⟩
  . have h:=of_decide_eq_false h;exact⟨by show n-(a.length:Int)≤n;omega,.inr (by omega)⟩
theorem szStmt_gv(x:Sm)(n:Int)(h0:0≤n)(hn:n≤1048576)(h1:x.2.2.1.length≤maxLen)(h2:x.2.2.2.1.length≤maxLen):
    Gv n_laws_szStmt s_laws_szStmt (x,n,()) (fun(r:(Int×Unit)×Unit)=>r.1.1≤n∧(r.1.1<0∨((x.2.2.1.length:Int)≤n∧(x.2.2.2.1.length:Int)≤n))):=by
  refine Gv.of (fun k=>laws_szStmt.F_eq (cl k) k x n) ?_;unfold laws_szStmt.F laws_szStmt.Fm;refine Tq.bind (szTermS_gv x.2.2.1 n h0 hn h1).tq fun(y:(Int×Unit)×Unit) hy=>?_
  obtain⟨hy1,hy2⟩:=hy;refine Tq.bif (fun h=>Tq.ret ⟨by show(-1:Int)≤n;omega,.inl (by show(-1:Int)<0;omega)⟩) fun h=>?_
  have h:¬y.1.1<0:=of_decide_eq_false h;refine Tq.bind (szTermS_gv x.2.2.2.1 y.1.1 (by omega) (by omega) h2).tq fun(z:(Int×Unit)×Unit) hz=>?_
  obtain⟨hz1,hz2⟩:=hz;refine Tq.bif (fun h=>Tq.ret ⟨by show(-1:Int)≤n;omega,.inl (by show(-1:Int)<0;omega)⟩) fun h'=>?_
  have h':¬z.1.1<0:=of_decide_eq_false h';exact Tq.ret ⟨by show z.1.1≤n;omega,.inr ⟨hy2.resolve_left h,by have:=hz2.resolve_left h';omega⟩⟩
theorem szStmtS_loop(a:List Sm)(ha:a.length≤1048576)(he:∀x∈a,x.2.2.1.length≤maxLen∧x.2.2.2.1.length≤maxLen):∀(d j:Nat)(m:Int),a.length-j=d→0≤m→m≤1048576→
    Tq (d+1) (fun k q=>laws_szStmtS.L0 (cl k) k a q m (j:Int)) (fun(r:(Int×Unit)×Unit)=>r.1.1≤m∧(r.1.1<0∨∀(i:Nat)(h:i<a.length),j≤i→a[i].2.2.1.length≤1048576∧a[i].2.2.2.1.length≤1048576))
  | 0,j,m,hd,h0,hm=>by
    refine Tq.succ ?_;show Tq _ (fun k q=>laws_szStmtS.step0 (cl k) k ..) _
    unfold laws_szStmtS.step0;exact Tq.bf (dnlt (by omega)) (Tq.ret ⟨Int.le_refl _,.inr fun i h hji=>by omega⟩)
  | d +1,j,m,hd,h0,hm=>by
    have hj:j<a.length:=by omega
    refine Tq.succ ?_;show Tq _ (fun k q=>laws_szStmtS.step0 (cl k) k ..) _
    unfold laws_szStmtS.step0;obtain⟨e1,e2⟩:=he a[j] (List.getElem_mem hj);refine Tq.bt (dlt hj) (Tq.bt (dle0 j) (Tq.some (lg hj) (Tq.bind (szStmt_gv a[j] m h0 hm e1 e2).tq fun(y:(Int×Unit)×Unit) hy=>?_)));obtain⟨hy1,hy2⟩:=hy;refine Tq.bif (fun h=>Tq.ret ⟨by show(-1:Int)≤m;omega,.inl (by show(-1:Int)<0;omega)⟩) fun h=>?_
    have h:¬y.1.1<0:=of_decide_eq_false h;rw[ws hj (by omega)];refine(szStmtS_loop a ha he d (j+1) y.1.1 (by omega) (by omega) (by omega)).mono fun(r:(Int×Unit)×Unit) hr=>⟨by have:=hr.1;omega,hr.2.imp id fun H i hi hji=>?_⟩
    rcases Nat.lt_or_ge j i with h3|h3
    . exact H i hi h3
    . obtain rfl:i=j:=by omega
      have:=hy2.resolve_left h;omega
theorem szStmtS_gv(a:List Sm)(n:Int)(h0:0≤n)(hn:n≤1048576)(ha:a.length≤maxLen)(he:∀x∈a,x.2.2.1.length≤maxLen∧x.2.2.2.1.length≤maxLen):
    Gv n_laws_szStmtS s_laws_szStmtS (a,n,()) (fun(r:(Int×Unit)×Unit)=>r.1.1≤n∧(r.1.1<0∨(a.length≤1048576∧∀x∈a,x.2.2.1.length≤1048576∧x.2.2.2.1.length≤1048576))):=by
  have ha:a.length≤9223372036854775807:=ha;refine Gv.of (fun k=>laws_szStmtS.F_eq (cl k) k a n) ?_;unfold laws_szStmtS.F laws_szStmtS.Fm;rw[w64 (by omega) (by omega)];refine Tq.bif (fun h=>Tq.ret ⟨by show(-1:Int)≤n;omega,.inl (by show(-1:Int)<0;omega)⟩) fun h=>?_
  have h:=of_decide_eq_false h;refine Tq.diag ((szStmtS_loop a (by omega) he a.length 0 (n-a.length) rfl (by omega) (by omega)).mono fun(r:(Int×Unit)×Unit) hr=>⟨by have:=hr.1;omega,hr.2.imp id fun H=>⟨by omega,fun x hx=>?_⟩⟩);obtain⟨i,hi,rfl⟩:=List.getElem_of_mem hx;exact H i hi (Nat.zero_le _)
/--No list in it is longer than Go allows. -/
def Lens(p:Pg):Prop:=p.2.1.length≤maxLen∧p.2.2.1.length≤maxLen∧p.2.2.2.2.1.length≤maxLen∧p.2.2.2.2.2.1.length≤maxLen∧∀x∈p.2.2.2.2.2.1,x.2.2.1.length≤maxLen∧x.2.2.2.1.length≤maxLen
theorem szProg_gv(p:Pg)(hp:Lens p):Gv n_laws_szProg s_laws_szProg (p,1048576,()) (fun(r:(Int×Unit)×Unit)=>r.1.1<0∨Small p):=by
  obtain⟨h1,h2,h3,h4,h5⟩:=hp;refine Gv.of (fun k=>laws_szProg.F_eq (cl k) k p 1048576) ?_;unfold laws_szProg.F laws_szProg.Fm;refine Tq.bind (szInputS_gv p.2.1 1048576 (by omega) (by omega) h1).tq fun(y:(Int×Unit)×Unit) hy=>?_
  obtain⟨a1,b1⟩:=hy;refine Tq.bif (fun h=>Tq.ret (.inl (by show(-1:Int)<0;omega))) fun h=>?_
  have c1:¬y.1.1<0:=of_decide_eq_false h;refine Tq.bind (szInputS_gv p.2.2.1 y.1.1 (by omega) (by omega) h2).tq fun(z:(Int×Unit)×Unit) hz=>?_
  obtain⟨a2,b2⟩:=hz;refine Tq.bif (fun h=>Tq.ret (.inl (by show(-1:Int)<0;omega))) fun h=>?_
  have c2:¬z.1.1<0:=of_decide_eq_false h;refine Tq.bind (szInt64S_gv p.2.2.2.2.1 z.1.1 (by omega) (by omega) h3).tq fun(u:(Int×Unit)×Unit) hu=>?_
  obtain⟨a3,b3⟩:=hu;refine Tq.bif (fun h=>Tq.ret (.inl (by show(-1:Int)<0;omega))) fun h=>?_
  have c3:¬u.1.1<0:=of_decide_eq_false h;refine Tq.bind (szStmtS_gv p.2.2.2.2.2.1 u.1.1 (by omega) (by omega) h4 h5).tq fun(v:(Int×Unit)×Unit) hv=>?_
  obtain⟨a4,b4⟩:=hv;refine Tq.bif (fun h=>Tq.ret (.inl (by show(-1:Int)<0;omega))) fun h=>?_
  have c4:¬v.1.1<0:=of_decide_eq_false h;have d4:=b4.resolve_left c4;have d1:=b1.resolve_left c1;have d2:=b2.resolve_left c2;have d3:=b3.resolve_left c3;exact Tq.ret (.inr ⟨by omega,by omega,by omega,d4.1,d4.2⟩)
end Go.Proofs.YtjgfofcgmcnblaaGreat.Pf
