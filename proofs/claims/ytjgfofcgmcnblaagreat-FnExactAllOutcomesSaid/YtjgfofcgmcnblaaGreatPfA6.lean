/- The program's machine does lists of nodes so. Its condition: the program is right, the environment fits. -/
import Derived.Test.YtjgfofcgmcnblaaGreatPfA5
set_option maxHeartbeats 2000000
set_option linter.all false
namespace Go.Proofs.YtjgfofcgmcnblaaGreat.Pf
open Go Go.Pv
section
variable {p:Pg}(hp:Hd p)(hs:StsOk p)
include hp
theorem catch_ans {i m z:Nat}{l1 l2:List Tr}(ho:opAt p.2.2.2.2.2.1 i=8)(hm:opAt p.2.2.2.2.2.1 m=9)(h1:Many p.2.2.2.2.2.1 (i+1) l1 m)(h2:Many p.2.2.2.2.2.1 (m+1) l2 z)(hz:opAt p.2.2.2.2.2.1 z=4)(n1 n2:List Tr):
    Ans n_impl_catchOf s_impl_catchOf (p,((i:Int),n1,n2,()),()) ((NAt p.2.2.2.2.2.1 m,()),()):=by
  have hb:=hp.b;have hi:=opAt_in ho (by omega);have hm2:=opAt_in hm (by omega);have o1:=opAt_lt hi;have hE:Ans n_impl_EndOf s_impl_EndOf (p.2.2.2.2.2.1,(i:Int),()) (((m:Int),(z:Int),()),()):=by
    refine Gv.ans (Gv.of (fun k=>impl_EndOf.F_eq (cl k) k p.2.2.2.2.2.1 i) ?_);unfold impl_EndOf.F impl_EndOf.Fm
    repeat'((first|(refine .bind (one_two (by omega) (.inr ⟨ho,hm⟩) h1 h2 hz 0 0).tq ?_;rintro y ⟨m',e',⟨rfl,rfl⟩,rfl⟩)|refine .t ?_|refine .u ?_|refine .some lg0 ?_|refine .some lg ?_|refine .some lgI ?_|(refine .bif (fun zz=>?_) (fun zz=>?_)<;>try simp(disch:=omega)only[zs,w64,zt]at zz))<;>try dsimp only)
    exact Tq.ret rfl
  refine Gv.ans (Gv.of (fun k=>impl_catchOf.F_eq (cl k) k p ((i:Int),n1,n2,())) ?_);unfold impl_catchOf.F impl_catchOf.Fm
  repeat'((first|refine .ba hE ?_|refine .t ?_|refine .u ?_|refine .some lg0 ?_|refine .some lg ?_|refine .some lgI ?_|(refine .bif (fun zz=>?_) (fun zz=>?_)<;>try simp(disch:=omega)only[zs,w64,zt]at zz))<;>try dsimp only)
  rw[NAt_lt hm2];exact Tq.ret rfl
theorem step_try {i:Nat}(ho:opAt p.2.2.2.2.2.1 i=8){l1 l2:List Tr}{s:RS}{x1 x2:RR}{c:Int}(h1:Do p l1 s x1)(h2:Do p l2 x1.1 x2)(hc:Ans n_impl_catchOf s_impl_catchOf (p,((i:Int),l1,l2,()),()) ((c,()),())):
    Step p i l1 l2 s (if x1.2.1=1∧x1.2.2=c then x2 else x1):=by
  have hi:=opAt_in ho (by omega);have o1:=opAt_lt hi;refine Gv.ans (Gv.of (fun k=>impl_machine_step.F_eq (cl k) k (p,s.1,s.2,()) ((i:Int),l1,l2,())) ?_);unfold impl_machine_step.F impl_machine_step.Fm;refine Tq.bt (dle0 _) (Tq.some (lg hi) ?_);dsimp only;refine Tq.bf (beq_eq_false_iff_ne.2 (by omega)) (Tq.bf (beq_eq_false_iff_ne.2 (by omega)) (Tq.bf (beq_eq_false_iff_ne.2 (by omega)) (Tq.bt (beq_iff_eq.2 (by omega)) (Tq.ba h1 ?_))));by_cases c1:x1.2.1=1
  . refine Tq.bt (beq_iff_eq.2 c1) (Tq.ba hc ?_);by_cases c2:x1.2.2=c
    . rw[if_pos ⟨c1,c2⟩];exact Tq.bt (beq_iff_eq.2 c2) (Tq.ba h2 (Tq.ret rfl))
    . rw[if_neg (fun e=>c2 e.2)];exact Tq.bf (beq_eq_false_iff_ne.2 c2) (Tq.ret rfl)
  . rw[if_neg (fun e=>c1 e.1)];exact Tq.bf (beq_eq_false_iff_ne.2 c1) (Tq.ret rfl)
omit hp in
theorem do_nil {i:Nat}{b:Int}:DoL p i [] (fun s=>(s,0,0)) b:=by
  intro d hd l n s hl hn hv hB;obtain⟨d,rfl⟩:∃d',d=d'+1:=⟨d-1,by omega⟩
  have:=drop_nil hl;refine Tq.succ ?_;show Tq _ (fun k q=>impl_machine_do.step0 (cl k) k ..) _
  unfold impl_machine_do.step0
  repeat'((first|refine .t ?_|refine .u ?_|refine .some lg0 ?_|refine .some lg ?_|refine .some lgI ?_|(refine .bif (fun zz=>?_) (fun zz=>?_)<;>try simp(disch:=omega)only[zs,w64,zt]at zz))<;>try dsimp only)
  exact Tq.ret rfl
theorem do_cons {i j:Nat}{l1 l2 l0:List Tr}{f g:RS→RR}{a b:Int}(hi:i<p.2.2.2.2.2.1.length)(hj:i<j)(ha:0≤a∧0≤b)(hf:∀s,EnvR p s.1→Fine p a s (f s))
    (h1:∀s,EnvR p s.1→(s.2.length:Int)+(a+b)≤13194139533312→Step p i l1 l2 s (f s)) (hr:DoL p j l0 g b):DoL p i (.mk i l1 l2::l0) (fun s=>thn (f s) g) (a+b):=by
  have hb:=hp.b;intro d hd l n s hl hn hv hB;obtain⟨d,rfl⟩:∃d',d=d'+1:=⟨d-1,by omega⟩
  obtain⟨k1,k2,k3⟩:=drop_get hl;have hx:=h1 s hv hB;have hF:=hf s hv;refine Tq.succ ?_;show Tq _ (fun k q=>impl_machine_do.step0 (cl k) k ..) _
  unfold impl_machine_do.step0;rw[Int.toNat_natCast];have hx:Ans n_impl_machine_step s_impl_machine_step ((p,(s.1.1,s.1.2.1,()),s.2,()),((i:Int),l1,l2,()),()) (mr p (f s)):=hx;refine Tq.bt (dlt k1) (Tq.bt (dle0 _) (Tq.some k2 (Tq.ba hx ?_)));show Tq d _ (fun r=>r=mr p (thn (f s) g))
  rcases thn_eq (f s) g with⟨e0,e⟩|⟨e0,e⟩
  . rw[e];exact Tq.bt (by show((f s).2.1 !=0)=true;exact bne_iff_ne.2 e0) (Tq.ret rfl)
  . rw[e];refine Tq.bf (by show((f s).2.1 !=0)=false;rw[e0];rfl) ?_;rw[ws (n:=n+1) (Nat.lt_succ_self n) (by omega)];exact hr d (by omega) l (n+1) (f s).1 k3 (by omega) hF.env (by have:=hF.out;omega)
include hs
theorem do_seg {t:Fs}{i j:Nat}(h:Seg p.2.2.2.2.2.1 t i j):DoL p i t.trs (runF p t) (t.steps p.2.2.2.2.2.1):=by
  have hN:=hs.loop;have hb:=hp.b;have hb2:p.2.2.2.2.2.1.length≤1048576:=by omega
  induction h with
  |nil=>exact do_nil
  | @leaf r i j hi ho hr ih=>
    have b1:=steps_40 hN hb.2.2.2.1 hr;exact do_cons hp hi (Nat.lt_succ_self i) ⟨by omega,b1.1⟩ (fun s hv=>stm_fine hp hs hi (leaf_op hp hs hi ho) hv) (fun s hv hB=>step_leaf hp hs hi (leaf_op hp hs hi ho) hv (by omega) _ _) ih
  | @one t r i e j ho ht he hr ih1 ih2=>
    have h1:=ht.le;have h2:=opAt_in he (by omega);have b1:=steps_40 hN hb.2.2.2.1 ht;have b2:=steps_40 hN hb.2.2.2.1 hr;have F1:=run_fine hp hs ht;have:=run_fine hp hs (.one ho ht he hr);unfold Fs.steps;by_cases c:opAt p.2.2.2.2.2.1 i=2
    . rw [if_pos c];have D:=do_cons hp (i:=i) (j:=e+1) (l1:=t.trs) (l2:=[]) (a:=1+t.steps p.2.2.2.2.2.1) (by omega) (by omega) ⟨by omega,b2.1⟩ (f:=fun s=>if evT p s.1 (smAt p.2.2.2.2.2.1 i).2.2.2.1≠0 then(s,2,evT p s.1 (smAt p.2.2.2.2.2.1 i).2.2.2.1)else if evV p s.1 (smAt p.2.2.2.2.2.1 i).2.2.2.1≠0 then runF p t s else(s,0,0)) (fun s hv=>by
          have v2:=ev_vl hp hv (stand_exp hp hs (i:=i) (by omega) (by omega));by_cases t2:evT p s.1 (smAt p.2.2.2.2.2.1 i).2.2.2.1≠0
          . try dsimp only
            rw[if_pos t2];exact .stay hv (by omega) (.inr (.inr rfl)) (fun e=>by cases e)
          try dsimp only
          rw[if_neg t2];by_cases t3:evV p s.1 (smAt p.2.2.2.2.2.1 i).2.2.2.1≠0
          . rw[if_pos t3];have g:=F1 s hv;exact⟨g.env,by have:=g.out;omega,g.end3,g.zero⟩
          . rw[if_neg t3];exact .stay hv (by omega) (.inl rfl) (fun _=>rfl)) (fun s hv hB=>step_if hp hs c hv (ih1.a hv (by omega)) ((do_nil (p:=p) (i:=0) (b:=0)).a hv (by omega))) ih2
      intro d hd l n s hl hn hv hB;have:=D d hd l n s hl hn hv hB;unfold runF;rw[if_pos c];exact this
    . rw [if_neg c];have c5:opAt p.2.2.2.2.2.1 i=5:=by omega
      have n4:=hN i c5;have e2:NAt p.2.2.2.2.2.1 i*(1+t.steps p.2.2.2.2.2.1)=NAt p.2.2.2.2.2.1 i+NAt p.2.2.2.2.2.1 i*t.steps p.2.2.2.2.2.1:=by rw[Int.mul_add,Int.mul_one]
      have e3:=Int.mul_nonneg n4.1 b1.1;have e1:(((NAt p.2.2.2.2.2.1 i).toNat:Nat):Int)=NAt p.2.2.2.2.2.1 i:=by omega
      have D:=do_cons hp (i:=i) (j:=e+1) (l1:=t.trs) (l2:=[]) (a:=1+NAt p.2.2.2.2.2.1 i*(1+t.steps p.2.2.2.2.2.1)) (by omega) (by omega) ⟨by omega,b2.1⟩ (f:=fun s=>rep (runF p t) (NAt p.2.2.2.2.2.1 i).toNat s) (fun s hv=>by
          have g:=rep_fine b1.1 F1 (NAt p.2.2.2.2.2.1 i).toNat hv;rw[e1]at g;exact⟨g.env,by have:=g.out;omega,g.end3,g.zero⟩) (fun s hv hB=>step_loop hp hs c5 b1.1 F1 (fun s' hv' hB'=>ih1.a hv' hB') hv (by rw[e1];omega)) ih2
      intro d hd l n s hl hn hv hB;have:=D d hd l n s hl hn hv hB;unfold runF;rw[if_neg c];exact this
  | @two t o r i m e j ho ht hot he hr ih1 ih2 ih3=>
    have h1:=ht.le;have h3:=hot.le;have h2:=opAt_in he (by omega);have b1:=steps_40 hN hb.2.2.2.1 ht;have b2:=steps_40 hN hb.2.2.2.1 hot;have b3:=steps_40 hN hb.2.2.2.1 hr;have F1:=run_fine hp hs ht;have F2:=run_fine hp hs hot;unfold Fs.steps;by_cases c:opAt p.2.2.2.2.2.1 i=2
    . rw [if_pos c];have D:=do_cons hp (i:=i) (j:=e+1) (l1:=t.trs) (l2:=o.trs) (a:=1+max (t.steps p.2.2.2.2.2.1) (o.steps p.2.2.2.2.2.1)) (by omega) (by omega) ⟨by omega,b3.1⟩ (f:=fun s=>if evT p s.1 (smAt p.2.2.2.2.2.1 i).2.2.2.1≠0 then(s,2,evT p s.1 (smAt p.2.2.2.2.2.1 i).2.2.2.1)else if evV p s.1 (smAt p.2.2.2.2.2.1 i).2.2.2.1≠0 then runF p t s else runF p o s) (fun s hv=>by
          have v2:=ev_vl hp hv (stand_exp hp hs (i:=i) (by omega) (by omega));by_cases t2:evT p s.1 (smAt p.2.2.2.2.2.1 i).2.2.2.1≠0
          . try dsimp only
            rw[if_pos t2];exact .stay hv (by omega) (.inr (.inr rfl)) (fun e=>by cases e)
          try dsimp only
          rw[if_neg t2];by_cases t3:evV p s.1 (smAt p.2.2.2.2.2.1 i).2.2.2.1≠0
          . rw[if_pos t3];have g:=F1 s hv;exact⟨g.env,by have:=g.out;omega,g.end3,g.zero⟩
          . rw[if_neg t3];have g:=F2 s hv;exact⟨g.env,by have:=g.out;omega,g.end3,g.zero⟩) (fun s hv hB=>step_if hp hs c hv (ih1.a hv (by omega)) (ih2.a hv (by omega))) ih3
      intro d hd l n s hl hn hv hB;have:=D d hd l n s hl hn hv hB;unfold runF;rw[if_pos c];exact this
    . rw [if_neg c];have c8:=ho.resolve_left (fun h=>c h.1);have D:=do_cons hp (i:=i) (j:=e+1) (l1:=t.trs) (l2:=o.trs) (a:=1+t.steps p.2.2.2.2.2.1+o.steps p.2.2.2.2.2.1) (by omega) (by omega) ⟨by omega,b3.1⟩ (f:=fun s=>if(runF p t s).2.1=1∧(runF p t s).2.2=NAt p.2.2.2.2.2.1 m then runF p o (runF p t s).1 else runF p t s) (fun s hv=>by
          have g:=F1 s hv
          try dsimp only
          by_cases t3:(runF p t s).2.1=1∧(runF p t s).2.2=NAt p.2.2.2.2.2.1 m
          . rw[if_pos t3];have g2:=F2 _ g.env;exact⟨g2.env,by have:=g.out;have:=g2.out;omega,g2.end3,g2.zero⟩
          . rw[if_neg t3];exact⟨g.env,by have:=g.out;omega,g.end3,g.zero⟩) (fun s hv hB=>step_try hp c8.1 (ih1.a hv (by omega)) (ih2.a (F1 s hv).env (by have:=(F1 s hv).out;omega)) (catch_ans hp c8.1 c8.2 (many_seg hb2 ht).many (many_seg hb2 hot).many he _ _)) ih3
      intro d hd l n s hl hn hv hB;have:=D d hd l n s hl hn hv hB;unfold runF;rw[if_neg c];exact this
end
end Go.Proofs.YtjgfofcgmcnblaaGreat.Pf
