/- The reference runs so. Its condition: the program is right, the environment fits. -/
import Derived.Test.YtjgfofcgmcnblaaGreatPfA4
import Derived.Test.YtjgfofcgmcnblaaGreatPfT6
set_option maxHeartbeats 2000000
set_option linter.all false
namespace Go.Proofs.YtjgfofcgmcnblaaGreat.Pf
open Go Go.Pv
abbrev YS:=Pg×(ET×((List Int×(Int×(Int×Unit)))×(Bool×Unit)))
def ms(p:Pg)(x:RR):YS:=(p,x.1.1,(x.1.2,x.2.1,x.2.2,()),x.2.1!=0,())
theorem trap0 {p:Pg}{s:RS}{t:Int}(h:t=0):Ans n_spec_l6Trap s_spec_l6Trap ((p,s.1,(s.2,0,0,()),false,()),t,()) ((false,()),(p,s.1,(s.2,0,0,()),false,()),()):=by
  refine Gv.ans (Gv.of (fun k=>spec_l6Trap.F_eq (cl k) k (p,s.1,(s.2,0,0,()),false,()) t) ?_);unfold spec_l6Trap.F spec_l6Trap.Fm;exact Tq.bt (beq_iff_eq.2 h) (Tq.ret rfl)
theorem trap1 {p:Pg}{s:RS}{t:Int}(h:t≠0):Ans n_spec_l6Trap s_spec_l6Trap ((p,s.1,(s.2,0,0,()),false,()),t,()) ((true,()),(p,s.1,(s.2,2,t,()),true,()),()):=by
  refine Gv.ans (Gv.of (fun k=>spec_l6Trap.F_eq (cl k) k (p,s.1,(s.2,0,0,()),false,()) t) ?_);unfold spec_l6Trap.F spec_l6Trap.Fm;exact Tq.bf (beq_eq_false_iff_ne.2 h) (Tq.ret rfl)
section
variable {p:Pg}(hp:Hd p)(hs:StsOk p)
include hp hs
theorem stmS_ans {i:Nat}(hi:i<p.2.2.2.2.2.1.length)(h:opAt p.2.2.2.2.2.1 i=0∨opAt p.2.2.2.2.2.1 i=1∨opAt p.2.2.2.2.2.1 i=6∨opAt p.2.2.2.2.2.1 i=7){s:RS}(hv:EnvR p s.1)(hB:(s.2.length:Int)+1≤13194139533312):
    Ans n_spec_l6Stmt s_spec_l6Stmt ((p,s.1,(s.2,0,0,()),false,()),smAt p.2.2.2.2.2.1 i,()) ((),ms p (stm p (smAt p.2.2.2.2.2.1 i) s),()):=by
  have h2:=hs _ (List.getElem_mem hi);have hb2:=hp.b;have hl:=hv.lv;have hc:=hv.lc;have hN:=h2.2.1;have o1:=opAt_lt hi;have hvr:Vrs p=Ins p+p.2.2.2.1:=rfl;have hin:Ins p=(p.2.1.length:Int)+(p.2.2.1.length:Int):=rfl;rw[←smAt_lt hi]at hN o1;unfold NOk at hN;have x2:=fun c=>sVal_ans hp hv (stand_exp hp hs hi c)
  have x1:=fun c=>sVal_ans hp hv (stand_at hp hs hi c)
  have v1:=fun c=>(ev_vl hp hv (stand_at hp hs hi c)).1
  refine Gv.ans (Gv.of (fun k=>spec_l6Stmt.F_eq (cl k) k (p,s.1,(s.2,0,0,()),false,()) (smAt p.2.2.2.2.2.1 i)) ?_);unfold spec_l6Stmt.F spec_l6Stmt.Fm stm;by_cases c7:(smAt p.2.2.2.2.2.1 i).1=7
  . rw[if_pos c7]
    repeat'((first|refine .t ?_|refine .u ?_|refine .some lg0 ?_|refine .some lg ?_|refine .some lgI ?_|(refine .bif (fun zz=>?_) (fun zz=>?_)<;>try simp(disch:=omega)only[zs,w64,zt]at zz))<;>try dsimp only)
    exact Tq.ret rfl
  rw[if_neg c7];by_cases c1:(smAt p.2.2.2.2.2.1 i).1=1
  . rw [if_pos c1];have x1:=x1 (by omega);have x2:=x2 (by omega);have v1:=v1 (by omega);have v10:=v1.1;have hN1:=hN.2.1 c1;refine Tq.bf (beq_eq_false_iff_ne.2 (by omega)) (Tq.bt (beq_iff_eq.2 c1) (Tq.ba x1 ?_));by_cases t1:evT p s.1 (smAt p.2.2.2.2.2.1 i).2.2.1=0
    . rw [if_neg (fun h=>h t1)];refine Tq.ba (trap0 t1) (Tq.bf rfl (Tq.ba x2 ?_));by_cases t2:evT p s.1 (smAt p.2.2.2.2.2.1 i).2.2.2.1=0
      . rw[if_neg (fun h=>h t2)];refine Tq.ba (trap0 t2) (Tq.bf rfl ?_);have hcc:=(hv.cs (smAt p.2.2.2.2.2.1 i).2.1.toNat (by omega) (by omega)).1;rw[←arrAt_lt (p:=p) (n:=(smAt p.2.2.2.2.2.1 i).2.1) (by omega)]at hcc;dsimp only;refine Tq.bt (by simp only[zs];omega) (Tq.some (lgI (by omega) (by omega)) ?_)
        try dsimp only
        by_cases t3:arrAt p (smAt p.2.2.2.2.2.1 i).2.1≤evV p s.1 (smAt p.2.2.2.2.2.1 i).2.2.1
        . rw[if_pos t3];refine Tq.bt (decide_eq_true (by omega)) (Tq.ba (trap1 (by omega)) (Tq.ret rfl))
        . rw[if_neg t3]
          repeat'((first|refine .t ?_|refine .u ?_|refine .some lg0 ?_|refine .some lg ?_|refine .some lgI ?_|(refine .bif (fun zz=>?_) (fun zz=>?_)<;>try simp(disch:=omega)only[zs,w64,zt]at zz))<;>try dsimp only)
          rw[getl_lt (by omega)];exact Tq.ret rfl
      . rw[if_pos t2];exact Tq.ba (trap1 t2) (Tq.bt rfl (Tq.ret (by unfold ms;rfl)))
    . rw[if_pos t1];exact Tq.ba (trap1 t1) (Tq.bt rfl (Tq.ret (by unfold ms;rfl)))
  rw[if_neg c1];have x2:=x2 (by omega);by_cases t2:evT p s.1 (smAt p.2.2.2.2.2.1 i).2.2.2.1=0
  . rw[if_neg (fun h=>h t2)];by_cases c0:(smAt p.2.2.2.2.2.1 i).1=0
    . rw[if_pos c0];refine Tq.bt (beq_iff_eq.2 c0) (Tq.ba x2 (Tq.ba (trap0 t2) (Tq.bt rfl ?_)));dsimp only
      repeat'((first|refine .t ?_|refine .u ?_|refine .some lg0 ?_|refine .some lg ?_|refine .some lgI ?_|(refine .bif (fun zz=>?_) (fun zz=>?_)<;>try simp(disch:=omega)only[zs,w64,zt]at zz))<;>try dsimp only)
      exact Tq.ret rfl
    . rw[if_neg c0];refine Tq.bf (beq_eq_false_iff_ne.2 (by omega)) (Tq.bf (beq_eq_false_iff_ne.2 (by omega)) (Tq.bt (beq_iff_eq.2 (by omega)) (Tq.ba x2 (Tq.ba (trap0 t2) (Tq.bt rfl ?_)))));dsimp only;refine Tq.bt (apb (by rw[by2];simp only[List.length_cons,List.length_nil];omega)) (Tq.ret rfl)
  . rw[if_pos t2];by_cases c0:(smAt p.2.2.2.2.2.1 i).1=0
    . exact Tq.bt (beq_iff_eq.2 c0) (Tq.ba x2 (Tq.ba (trap1 t2) (Tq.bf rfl (Tq.ret (by unfold ms;rfl)))))
    . exact Tq.bf (beq_eq_false_iff_ne.2 (by omega)) (Tq.bf (beq_eq_false_iff_ne.2 (by omega)) (Tq.bt (beq_iff_eq.2 (by omega)) (Tq.ba x2 (Tq.ba (trap1 t2) (Tq.bf rfl (Tq.ret (by unfold ms;rfl)))))))
omit hp hs
def SL(p:Pg)(i j:Nat)(f:RS→RR)(b:Int):Prop:=∀(w:ET×((List Int×(Int×(Int×Unit)))×(Bool×Unit)))(s:RS),EnvR p s.1→(s.2.length:Int)+b≤13194139533312→∀d,j-i<d→
  Tq d (fun k q=>spec_l6Run.L0 (cl k) k (p,w) (j:Int) q (i:Int) s.2 s.1.2.1 s.1.1 p.1 p.2.1 p.2.2.1 p.2.2.2.1 p.2.2.2.2.1 p.2.2.2.2.2.1 0 0 false) (· =((),ms p (f s),()))
def SA(p:Pg)(i j:Nat)(s:RS)(x:RR):Prop:=Ans n_spec_l6Run s_spec_l6Run ((p,s.1,(s.2,0,0,()),false,()),(i:Int),(j:Int),()) ((),ms p x,())
theorem SL.a {i j:Nat}{f:RS→RR}{b:Int}(h:SL p i j f b){s:RS}(hv:EnvR p s.1)(hB:(s.2.length:Int)+b≤13194139533312):SA p i j s (f s):=by
  refine Gv.ans (Gv.of (fun k=>spec_l6Run.F_eq (cl k) k (p,s.1,(s.2,0,0,()),false,()) i j) ?_);unfold spec_l6Run.F spec_l6Run.Fm;exact Tq.diag (h (s.1,(s.2,0,0,()),false,()) s hv hB (j-i+1) (by omega))
theorem run_stop(w:ET×((List Int×(Int×(Int×Unit)))×(Bool×Unit)))(j:Int)(at_:Int)(s:RS)(a b:Int)(d:Nat):
    Tq (d+1) (fun k q=>spec_l6Run.L0 (cl k) k (p,w) j q at_ s.2 s.1.2.1 s.1.1 p.1 p.2.1 p.2.2.1 p.2.2.2.1 p.2.2.2.2.1 p.2.2.2.2.2.1 a b true) (· =((),(p,s.1,(s.2,a,b,()),true,()),())):=by
  refine Tq.succ ?_;show Tq _ (fun k q=>spec_l6Run.step0 (cl k) k ..) _
  unfold spec_l6Run.step0;exact Tq.bif (fun _=>Tq.bf rfl (Tq.ret rfl)) (fun _=>Tq.ret rfl)
/--Behind a statement. -/
theorem run_thn {e j:Nat}{f:RS→RR}{b n:Int}{s:RS}{x:RR}(hF:Fine p n s x)(hn:(s.2.length:Int)+(n+b)≤13194139533312)(hr:SL p e j f b)(w:ET×((List Int×(Int×(Int×Unit)))×(Bool×Unit)))(d:Nat)(hd:j-e<d):
    Tq d (fun k q=>spec_l6Run.L0 (cl k) k (p,w) (j:Int) q (e:Int) x.1.2 x.1.1.2.1 x.1.1.1 p.1 p.2.1 p.2.2.1 p.2.2.2.1 p.2.2.2.2.1 p.2.2.2.2.2.1 x.2.1 x.2.2 (x.2.1!=0)) (· =((),ms p (thn x f),())):=by
  rcases thn_eq x f with⟨e0,e1⟩|⟨e0,e1⟩<;>rw[e1]
  . obtain⟨d,rfl⟩:∃d',d=d'+1:=⟨d-1,by omega⟩
    have h0:(x.2.1!=0)=true:=bne_iff_ne.2 e0;have:=run_stop (p:=p) w (j:Int) (e:Int) x.1 x.2.1 x.2.2 d;unfold ms;rw[h0];exact this
  . have h2:=hF.zero e0;have:=hr w x.1 hF.env (by have:=hF.out;omega) d hd;rw[e0,h2];exact this
theorem run_nil {i:Nat}{b:Int}:SL p i i (fun s=>(s,0,0)) b:=by
  intro w s hv hB d hd;obtain⟨d,rfl⟩:∃d',d=d'+1:=⟨d-1,by omega⟩
  refine Tq.succ ?_;show Tq _ (fun k q=>spec_l6Run.step0 (cl k) k ..) _
  unfold spec_l6Run.step0;exact Tq.bf (dnlt (Nat.le_refl _)) (Tq.ret rfl)
include hp hs
theorem run_leaf {i j:Nat}{f:RS→RR}{b:Int}(hi:i<p.2.2.2.2.2.1.length)(hj:i<j)(hb:0≤b)(h:opAt p.2.2.2.2.2.1 i=0∨opAt p.2.2.2.2.2.1 i=1∨opAt p.2.2.2.2.2.1 i=6∨opAt p.2.2.2.2.2.1 i=7)(hE:End p.2.2.2.2.2.1 i (-1) (-1))(hr:SL p (i+1) j f b):
    SL p i j (fun s=>thn (stm p (smAt p.2.2.2.2.2.1 i) s) f) (1+b):=by
  have hb2:=hp.b;have o1:=opAt_lt hi;intro w s hv hB d hd;obtain⟨d,rfl⟩:∃d',d=d'+1:=⟨d-1,by omega⟩
  have hx:=stmS_ans hp hs hi h hv (by omega);have hx:Ans n_spec_l6Stmt s_spec_l6Stmt (((p.1,p.2.1,p.2.2.1,p.2.2.2.1,p.2.2.2.2.1,p.2.2.2.2.2.1,()),(s.1.1,s.1.2.1,()),(s.2,0,0,()),false,()),smAt p.2.2.2.2.2.1 i,()) ((),ms p (stm p (smAt p.2.2.2.2.2.1 i) s),()):=hx;have hF:=stm_fine hp hs hi h hv;refine Tq.succ ?_;show Tq _ (fun k q=>spec_l6Run.step0 (cl k) k ..) _
  unfold spec_l6Run.step0;rw[smAt_lt hi]at hx hF⊢
  repeat'((first|refine .ba hE ?_|refine .ba hx ?_|refine .t ?_|refine .u ?_|refine .some lg0 ?_|refine .some lg ?_|refine .some lgI ?_|(refine .bif (fun zz=>?_) (fun zz=>?_)<;>try simp(disch:=omega)only[zs,w64,zt]at zz))<;>try dsimp only)
  rw[ws hi (by omega)];exact run_thn hF (by omega) hr w d (by omega)
end
end Go.Proofs.YtjgfofcgmcnblaaGreat.Pf
