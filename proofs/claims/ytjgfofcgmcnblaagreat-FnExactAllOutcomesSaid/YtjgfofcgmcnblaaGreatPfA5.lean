/- The program's machine runs so. Its condition: the program is right, the environment fits. -/
import Derived.Test.YtjgfofcgmcnblaaGreatPfA4
import Derived.Test.YtjgfofcgmcnblaaGreatPfT7
import Derived.Test.YtjgfofcgmcnblaaGreatPfT8
set_option maxHeartbeats 2000000
set_option linter.all false
namespace Go.Proofs.YtjgfofcgmcnblaaGreat.Pf
open Go Go.Pv
abbrev MT:=Pg×(ET×(List Int×Unit))
abbrev MR:=((Int×(Int×Unit))×Unit)×(MT×Unit)
def mk(p:Pg)(s:RS):MT:=(p,s.1,s.2,())
def mr(p:Pg)(x:RR):MR:=(((x.2.1,x.2.2,()),()),(p,x.1.1,x.1.2,()),())
def Step(p:Pg)(i:Nat)(l1 l2:List Tr)(s:RS)(x:RR):Prop:=Ans n_impl_machine_step s_impl_machine_step ((p,s.1,s.2,()),((i:Int),l1,l2,()),()) (mr p x)
def Do(p:Pg)(l:List Tr)(s:RS)(x:RR):Prop:=Ans n_impl_machine_do s_impl_machine_do ((p,s.1,s.2,()),l,()) (mr p x)
def DoL(p:Pg)(i:Nat)(l0:List Tr)(f:RS→RR)(b:Int):Prop:=∀d,p.2.2.2.2.2.1.length-i<d→∀(l:List Tr)(n:Nat)(s:RS),l.drop n=l0→n≤i→EnvR p s.1→(s.2.length:Int)+b≤13194139533312→
  Tq d (fun k q=>impl_machine_do.L0 (cl k) k l q (n:Int) s.2 s.1.2.1 s.1.1 p) (· =mr p (f s))
theorem DoL.a {p:Pg}{i:Nat}{l0:List Tr}{f:RS→RR}{b:Int}(h:DoL p i l0 f b){s:RS}(hv:EnvR p s.1)(hb:(s.2.length:Int)+b≤13194139533312):Do p l0 s (f s):=by
  refine Gv.ans (Gv.of (fun k=>impl_machine_do.F_eq (cl k) k (p,s.1,s.2,()) l0) ?_);unfold impl_machine_do.F impl_machine_do.Fm;exact Tq.diag (h (p.2.2.2.2.2.1.length-i+1) (by omega) l0 0 s rfl (by omega) hv hb)
section
variable {p:Pg}(hp:Hd p)(hs:StsOk p)
include hp
theorem mval_ans {e:List Tm}(he:Stand p e){s:RS}(hv:EnvR p s.1):Ans n_impl_machine_value s_impl_machine_value ((p,s.1,s.2,()),e,())
    ((if evT p s.1 e=0 then(evV p s.1 e,(0,0,()),())else(0,(2,evT p s.1 e,()),())),(p,s.1,s.2,()),()):=by
  have hx:=iVal_ans hp hv he;refine Gv.ans (Gv.of (fun k=>impl_machine_value.F_eq (cl k) k (p,s.1,s.2,()) e) ?_);unfold impl_machine_value.F impl_machine_value.Fm;have hx:Ans n_impl_reckon s_impl_reckon (p,(s.1.1,s.1.2.1,s.1.2.2),e,false,()) ((if evT p s.1 e=0 then evV p s.1 e else 0,evT p s.1 e,()),()):=hx;by_cases c:evT p s.1 e=0
  . rw[if_pos c]at hx⊢
    repeat'((first|refine .ba hx ?_|refine .t ?_|refine .u ?_|refine .some lg0 ?_|refine .some lg ?_|refine .some lgI ?_|(refine .bif (fun zz=>?_) (fun zz=>?_)<;>try simp(disch:=omega)only[zs,w64,zt]at zz))<;>try dsimp only)
    exact Tq.ret rfl
  . rw[if_neg c]at hx⊢
    repeat'((first|refine .ba hx ?_|refine .t ?_|refine .u ?_|refine .some lg0 ?_|refine .some lg ?_|refine .some lgI ?_|(refine .bif (fun zz=>?_) (fun zz=>?_)<;>try simp(disch:=omega)only[zs,w64,zt]at zz))<;>try dsimp only)
    exact Tq.ret rfl
include hs
theorem mput_ans {i:Nat}(hi:i<p.2.2.2.2.2.1.length)(ho:opAt p.2.2.2.2.2.1 i=1){s:RS}(hv:EnvR p s.1):Ans n_impl_machine_put s_impl_machine_put ((p,s.1,s.2,()),smAt p.2.2.2.2.2.1 i,()) (mr p (stm p (smAt p.2.2.2.2.2.1 i) s)):=by
  have h2:=hs _ (List.getElem_mem hi);have hl:=hv.lc;have hN:=h2.2.1.2.1;have o1:=opAt_lt hi;rw[←smAt_lt hi]at hN o1;have c1:(smAt p.2.2.2.2.2.1 i).1=1:=by omega
  have hN:=hN c1;have e1:=stand_exp hp hs hi (by omega);have e2:=stand_at hp hs hi ho;have x1:=mval_ans hp e2 hv;have x2:=mval_ans hp e1 hv;have v1:=(ev_vl hp hv e2).1;unfold stm;rw[if_neg (by omega),if_pos c1];refine Gv.ans (Gv.of (fun k=>impl_machine_put.F_eq (cl k) k (p,s.1,s.2,()) (smAt p.2.2.2.2.2.1 i)) ?_);unfold impl_machine_put.F impl_machine_put.Fm;by_cases t1:evT p s.1 (smAt p.2.2.2.2.2.1 i).2.2.1=0
  . rw [if_neg (fun h=>h t1)];rw[if_pos t1]at x1;by_cases t2:evT p s.1 (smAt p.2.2.2.2.2.1 i).2.2.2.1=0
    . rw[if_neg (fun h=>h t2)];rw[if_pos t2]at x2;have hc:=(hv.cs (smAt p.2.2.2.2.2.1 i).2.1.toNat (by omega) (by omega)).1;have v10:=v1.1;refine Tq.ba x1 ?_;refine Tq.bf rfl (Tq.ba x2 (Tq.bf rfl ?_));dsimp only;refine Tq.bt (decide_eq_true (by omega)) (Tq.some (lgI (by omega) (by omega)) ?_)
      try dsimp only
      rw[←arrAt_lt (p:=p) (n:=(smAt p.2.2.2.2.2.1 i).2.1) (by omega)]at hc⊢;by_cases t3:arrAt p (smAt p.2.2.2.2.2.1 i).2.1≤evV p s.1 (smAt p.2.2.2.2.2.1 i).2.2.1
      . rw[if_pos t3];exact Tq.bt (decide_eq_true t3) (Tq.ret rfl)
      . rw[if_neg t3]
        repeat'((first|refine .t ?_|refine .u ?_|refine .some lg0 ?_|refine .some lg ?_|refine .some lgI ?_|(refine .bif (fun zz=>?_) (fun zz=>?_)<;>try simp(disch:=omega)only[zs,w64,zt]at zz))<;>try dsimp only)
        rw[getl_lt (by omega)];exact Tq.ret rfl
    . rw[if_pos t2];rw[if_neg t2]at x2;refine Tq.ba x1 ?_;exact Tq.bf rfl (Tq.ba x2 (Tq.bt rfl (Tq.ret rfl)))
  . rw[if_pos t1];rw[if_neg t1]at x1;exact Tq.ba x1 (Tq.bt rfl (Tq.ret rfl))
theorem step_leaf {i:Nat}(hi:i<p.2.2.2.2.2.1.length)(h:opAt p.2.2.2.2.2.1 i=0∨opAt p.2.2.2.2.2.1 i=1∨opAt p.2.2.2.2.2.1 i=6∨opAt p.2.2.2.2.2.1 i=7){s:RS}(hv:EnvR p s.1)(hb:(s.2.length:Int)+1≤13194139533312)(l1 l2:List Tr):Step p i l1 l2 s (stm p (smAt p.2.2.2.2.2.1 i) s):=by
  have h2:=hs _ (List.getElem_mem hi);have hb2:=hp.b;have hl:=hv.lv;have hN:=h2.2.1.1;have o1:=opAt_lt hi;have hvr:Vrs p=Ins p+p.2.2.2.1:=rfl;have hin:Ins p=(p.2.1.length:Int)+(p.2.2.1.length:Int):=rfl;rw[←smAt_lt hi]at hN o1;refine Gv.ans (Gv.of (fun k=>impl_machine_step.F_eq (cl k) k (p,s.1,s.2,()) ((i:Int),l1,l2,())) ?_);unfold impl_machine_step.F impl_machine_step.Fm;refine Tq.bt (dle0 _) (Tq.some (lg hi) ?_);dsimp only;rw[←smAt_lt hi];have w:=fun c=>mput_ans hp hs hi c hv
  have x2:=fun c=>mval_ans hp (stand_exp hp hs hi c) hv
  by_cases c1:(smAt p.2.2.2.2.2.1 i).1=1
  . have w:=w (by omega)
    repeat'((first|refine .ba w ?_|refine .t ?_|refine .u ?_|refine .some lg0 ?_|refine .some lg ?_|refine .some lgI ?_|(refine .bif (fun zz=>?_) (fun zz=>?_)<;>try simp(disch:=omega)only[zs,w64,zt]at zz))<;>try dsimp only)
    exact Tq.ret rfl
  by_cases c7:(smAt p.2.2.2.2.2.1 i).1=7
  . unfold stm;rw[if_pos c7]
    repeat'((first|refine .t ?_|refine .u ?_|refine .some lg0 ?_|refine .some lg ?_|refine .some lgI ?_|(refine .bif (fun zz=>?_) (fun zz=>?_)<;>try simp(disch:=omega)only[zs,w64,zt]at zz))<;>try dsimp only)
    exact Tq.ret rfl
  have x2:=x2 (by omega);unfold stm;rw[if_neg c7,if_neg c1];by_cases t2:evT p s.1 (smAt p.2.2.2.2.2.1 i).2.2.2.1=0
  . rw[if_neg (fun h=>h t2)];rw[if_pos t2]at x2;by_cases c0:(smAt p.2.2.2.2.2.1 i).1=0
    . rw[if_pos c0]
      repeat'((first|refine .ba x2 ?_|refine .t ?_|refine .u ?_|refine .some lg0 ?_|refine .some lg ?_|refine .some lgI ?_|(refine .bif (fun zz=>?_) (fun zz=>?_)<;>try simp(disch:=omega)only[zs,w64,zt]at zz))<;>try dsimp only)
      exact Tq.ret rfl
    . rw[if_neg c0]
      repeat'((first|refine .ba x2 ?_|(refine Tq.bt (apb (by rw[by2];simp only[List.length_cons,List.length_nil];omega)) ?_)|refine .t ?_|refine .u ?_|refine .some lg0 ?_|refine .some lg ?_|refine .some lgI ?_|(refine .bif (fun zz=>?_) (fun zz=>?_)<;>try simp(disch:=omega)only[zs,w64,zt]at zz))<;>try dsimp only)
      exact Tq.ret rfl
  . rw[if_pos t2];rw[if_neg t2]at x2
    repeat'((first|refine .ba x2 ?_|refine .t ?_|refine .u ?_|refine .some lg0 ?_|refine .some lg ?_|refine .some lgI ?_|(refine .bif (fun zz=>?_) (fun zz=>?_)<;>try simp(disch:=omega)only[zs,w64,zt]at zz))<;>try dsimp only)
    exact Tq.ret rfl
theorem step_if {i:Nat}(ho:opAt p.2.2.2.2.2.1 i=2){l1 l2:List Tr}{s:RS}(hv:EnvR p s.1){x1 x2:RR}(h1:Do p l1 s x1)(h2:Do p l2 s x2):
    Step p i l1 l2 s (if evT p s.1 (smAt p.2.2.2.2.2.1 i).2.2.2.1≠0 then(s,2,evT p s.1 (smAt p.2.2.2.2.2.1 i).2.2.2.1)else if evV p s.1 (smAt p.2.2.2.2.2.1 i).2.2.2.1≠0 then x1 else x2):=by
  have hi:=opAt_in ho (by omega);have o1:=opAt_lt hi;rw[←smAt_lt hi]at o1;have x2':=mval_ans hp (stand_exp hp hs hi (by omega)) hv;refine Gv.ans (Gv.of (fun k=>impl_machine_step.F_eq (cl k) k (p,s.1,s.2,()) ((i:Int),l1,l2,())) ?_);unfold impl_machine_step.F impl_machine_step.Fm;refine Tq.bt (dle0 _) (Tq.some (lg hi) ?_);dsimp only;rw[←smAt_lt hi];by_cases t2:evT p s.1 (smAt p.2.2.2.2.2.1 i).2.2.2.1=0
  . rw[if_neg (fun h=>h t2)];rw[if_pos t2]at x2';by_cases t3:evV p s.1 (smAt p.2.2.2.2.2.1 i).2.2.2.1=0
    . rw[if_neg (fun h=>h t3)]
      repeat'((first|refine .ba x2' ?_|refine .ba h2 ?_|refine .t ?_|refine .u ?_|refine .some lg0 ?_|refine .some lg ?_|refine .some lgI ?_|(refine .bif (fun zz=>?_) (fun zz=>?_)<;>try simp(disch:=omega)only[zs,w64,zt]at zz))<;>try dsimp only)
      exact Tq.ret rfl
    . rw[if_pos t3]
      repeat'((first|refine .ba x2' ?_|refine .ba h1 ?_|refine .t ?_|refine .u ?_|refine .some lg0 ?_|refine .some lg ?_|refine .some lgI ?_|(refine .bif (fun zz=>?_) (fun zz=>?_)<;>try simp(disch:=omega)only[zs,w64,zt]at zz))<;>try dsimp only)
      exact Tq.ret rfl
  . rw[if_pos t2];rw[if_neg t2]at x2'
    repeat'((first|refine .ba x2' ?_|refine .t ?_|refine .u ?_|refine .some lg0 ?_|refine .some lg ?_|refine .some lgI ?_|(refine .bif (fun zz=>?_) (fun zz=>?_)<;>try simp(disch:=omega)only[zs,w64,zt]at zz))<;>try dsimp only)
    exact Tq.ret rfl
theorem step_loop {i:Nat}(ho:opAt p.2.2.2.2.2.1 i=5){l1 l2:List Tr}{f:RS→RR}{b:Int}(hb:0≤b)(hf:∀s',EnvR p s'.1→Fine p b s' (f s'))(hD:∀s',EnvR p s'.1→(s'.2.length:Int)+b≤13194139533312→Do p l1 s' (f s'))
    {s:RS} (hv:EnvR p s.1) (hB:(s.2.length:Int)+(NAt p.2.2.2.2.2.1 i).toNat*b≤13194139533312):Step p i l1 l2 s (rep f (NAt p.2.2.2.2.2.1 i).toNat s):=by
  have hi:=opAt_in ho (by omega);have o1:=opAt_lt hi;rw[←smAt_lt hi]at o1;have hN:=hs.loop i ho;have eN:=NAt_lt hi;rw[←smAt_lt hi]at eN;refine Gv.ans (Gv.of (fun k=>impl_machine_step.F_eq (cl k) k (p,s.1,s.2,()) ((i:Int),l1,l2,())) ?_);unfold impl_machine_step.F impl_machine_step.Fm;refine Tq.bt (dle0 _) (Tq.some (lg hi) ?_);dsimp only;rw[←smAt_lt hi];refine Tq.bf (beq_eq_false_iff_ne.2 (by omega)) (Tq.bf (beq_eq_false_iff_ne.2 (by omega)) (Tq.bt (beq_iff_eq.2 (by omega)) ?_));have key:∀(d n:Nat)(s:RS),n+d=(NAt p.2.2.2.2.2.1 i).toNat→EnvR p s.1→(s.2.length:Int)+d*b≤13194139533312→
      Tq (d+1) (fun k q=>impl_machine_step.L0 (cl k) k ((i:Int),l1,l2,()) (smAt p.2.2.2.2.2.1 i) q (n:Int) s.2 s.1.2.1 s.1.1 p) (· =mr p (rep f d s)):=by
    intro d
    induction d with
    | zero=>
      intro n s hn hv hB;refine Tq.succ ?_;show Tq _ (fun k q=>impl_machine_step.step0 (cl k) k ..) _
      unfold impl_machine_step.step0
      repeat'((first|refine .t ?_|refine .u ?_|refine .some lg0 ?_|refine .some lg ?_|refine .some lgI ?_|(refine .bif (fun zz=>?_) (fun zz=>?_)<;>try simp(disch:=omega)only[zs,w64,zt]at zz))<;>try dsimp only)
      exact Tq.ret rfl
    | succ d ih=>
      intro n s hn hv hB;have e:(((d+1:Nat):Int)*b)=b+d*b:=by rw[Int.natCast_succ,Int.add_mul];omega
      have hnn:=Int.mul_nonneg (show(0:Int)≤d by omega) hb;have hd:=hD s hv (by omega);have hd:Ans n_impl_machine_do s_impl_machine_do ((p,(s.1.1,s.1.2.1,()),s.2,()),l1,()) (mr p (f s)):=hd;have g:=hf s hv;refine Tq.succ ?_;show Tq _ (fun k q=>impl_machine_step.step0 (cl k) k ..) _
      unfold impl_machine_step.step0;refine Tq.bt (decide_eq_true (by omega)) (Tq.ba hd ?_);unfold rep;by_cases c:(f s).2.1=0
      . rw[if_neg (fun h=>h c)];refine Tq.bf (by show((f s).2.1 !=0)=false;rw[c];rfl) ?_;rw[ws (n:=4) (by omega) (by omega)];exact ih (n+1) (f s).1 (by omega) g.env (by have:=g.out;omega)
      . rw[if_pos c];exact Tq.bt (by show((f s).2.1 !=0)=true;exact bne_iff_ne.2 c) (Tq.ret rfl)
  exact Tq.diag (key _ 0 s (by omega) hv (by omega))
end
end Go.Proofs.YtjgfofcgmcnblaaGreat.Pf
