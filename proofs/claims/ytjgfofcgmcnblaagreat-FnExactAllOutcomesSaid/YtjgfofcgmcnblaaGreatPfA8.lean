/- The reference runs well nested parts so. Its condition: the program is right, the environment fits. -/
import Derived.Test.YtjgfofcgmcnblaaGreatPfA7
set_option maxHeartbeats 2000000
set_option linter.all false
namespace Go.Proofs.YtjgfofcgmcnblaaGreat.Pf
open Go Go.Pv
abbrev WT:=ET×((List Int×(Int×(Int×Unit)))×(Bool×Unit))
theorem run_open {p:Pg}{w:WT}{j at_:Int}{s:RS}{d:Nat}{P:Unit×(YS×Unit)→Prop}
    (H:Tq d (fun k q=>spec_l6Run.step0 (cl k) k (p,w) j (fun a0_ v0_2_ y0_ v1_4_ v1_5_ v1_6_ v1_7_ v1_8_ v1_9_ v1_10_ v1_11_ v1_12_ v1_13_ v1_14_ v1_15_ v1_16_=>spec_l6Run.L1 (cl k) k a0_ v0_2_ y0_ (spec_l6Run.L0 (cl k) k (p,w) j q) k v1_4_ v1_5_ v1_6_ v1_7_ v1_8_ v1_9_ v1_10_ v1_11_ v1_12_ v1_13_ v1_14_ v1_15_ v1_16_) (spec_l6Run.L0 (cl k) k (p,w) j q) at_ s.2 s.1.2.1 s.1.1 p.1 p.2.1 p.2.2.1 p.2.2.2.1 p.2.2.2.2.1 p.2.2.2.2.2.1 0 0 false) P):
    Tq (d+1) (fun k q=>spec_l6Run.L0 (cl k) k (p,w) j q at_ s.2 s.1.2.1 s.1.1 p.1 p.2.1 p.2.2.1 p.2.2.2.1 p.2.2.2.2.1 p.2.2.2.2.2.1 0 0 false) P:=Tq.succ H
section
variable {p:Pg}(hp:Hd p)(hs:StsOk p)
include hp hs
theorem run_if {i e j:Nat}{mid:Int}(ho:opAt p.2.2.2.2.2.1 i=2)(hj:i<e∧e<j∧e<p.2.2.2.2.2.1.length)(hE:End p.2.2.2.2.2.1 i mid e){f1 f2 g:RS→RR}{a b:Int}(ha:0≤a)(hb:0≤b)
    (hF1:∀s,EnvR p s.1→Fine p a s (f1 s)) (hF2:∀s,EnvR p s.1→Fine p a s (f2 s))
    (h1:∀s,EnvR p s.1→(s.2.length:Int)+a≤13194139533312→(mid<0→SA p (i+1) e s (f1 s))∧(0≤mid→SA p (i+1) mid.toNat s (f1 s)))
    (h2:∀s,EnvR p s.1→(s.2.length:Int)+a≤13194139533312→(mid<0→f2 s=(s,0,0))∧(0≤mid→SA p (mid.toNat+1) e s (f2 s))) (hm:mid<e)
    (hr:SL p (e+1) j g b):
    SL p i j (fun s=>thn (if evT p s.1 (smAt p.2.2.2.2.2.1 i).2.2.2.1≠0 then(s,2,evT p s.1 (smAt p.2.2.2.2.2.1 i).2.2.2.1)else if evV p s.1 (smAt p.2.2.2.2.2.1 i).2.2.2.1≠0 then f1 s else f2 s) g) (1+a+b):=by
  have hb2:=hp.b;have hi:=opAt_in ho (by omega);have o1:=opAt_lt hi;intro w s hv hB d hd;obtain⟨d,rfl⟩:∃d',d=d'+1:=⟨d-1,by omega⟩
  have hx:=sVal_ans hp hv (stand_exp hp hs hi (by omega));rw[smAt_lt hi]at*;have hx:Ans n_spec_l5Value s_spec_l5Value ((p.1,p.2.1,p.2.2.1,p.2.2.2.1,p.2.2.2.2.1,p.2.2.2.2.2.1,()),(s.1.1,s.1.2.1,()),p.2.2.2.2.2.1[i].2.2.2.1,()) ((evV p s.1 p.2.2.2.2.2.1[i].2.2.2.1,evT p s.1 p.2.2.2.2.2.1[i].2.2.2.1,()),()):=hx;have g1:=h1 s hv (by omega);have g2:=h2 s hv (by omega);have F1:=hF1 s hv;have F2:=hF2 s hv;refine run_open ?_;unfold spec_l6Run.step0;refine Tq.bt (decide_eq_true (by omega)) (Tq.bt rfl (Tq.ba hE (Tq.bt (dle0 _) (Tq.some (lg hi) (Tq.bt (beq_iff_eq.2 (by omega)) (Tq.bt (dle0 _) (Tq.some (lg hi) (Tq.ba hx ?_))))))));dsimp only;by_cases t2:evT p s.1 p.2.2.2.2.2.1[i].2.2.2.1=0
  . rw [if_neg (fun h=>h t2)];refine Tq.ba (trap0 t2) (Tq.bf rfl ?_);dsimp only;rw[ws (n:=p.2.2.2.2.2.1.length) hj.2.2 (by omega),ws hi (by omega)];have K:∀(x:RR),Fine p a s x→Tq d (fun k q=>spec_l6Run.L0 (cl k) k (p,w) (j:Int) q ((e+1:Nat):Int) x.1.2 x.1.1.2.1 x.1.1.1 p.1 p.2.1 p.2.2.1 p.2.2.2.1 p.2.2.2.2.1 p.2.2.2.2.2.1 x.2.1 x.2.2 (x.2.1!=0)) (· =((),ms p (thn x g),())):=
      fun x hF=>run_thn hF (by omega) hr w d (by omega)
    by_cases t3:evV p s.1 p.2.2.2.2.2.1[i].2.2.2.1=0
    . rw [if_neg (fun h=>h t3)];by_cases c:mid<0
      . have e2:=g2.1 c;rw[e2]
        repeat'((first|refine .t ?_|refine .u ?_|refine .some lg0 ?_|refine .some lg ?_|refine .some lgI ?_|(refine .bif (fun zz=>?_) (fun zz=>?_)<;>try simp(disch:=omega)only[zs,w64,zt]at zz))<;>try dsimp only)
        rw[e2]at F2;exact K _ F2
      . have g3:=g2.2 (by omega);have g3:Ans n_spec_l6Run s_spec_l6Run ((p,s.1,(s.2,0,0,()),false,()),IntKind.i64.wrap (mid+1),(e:Int),()) ((),ms p (f2 s),()):=by
          rw[w64 (by omega) (by omega),show mid+1=((mid.toNat+1:Nat):Int) by omega];exact g3
        repeat'((first|refine .ba g3 ?_|refine .t ?_|refine .u ?_|refine .some lg0 ?_|refine .some lg ?_|refine .some lgI ?_|(refine .bif (fun zz=>?_) (fun zz=>?_)<;>try simp(disch:=omega)only[zs,w64,zt]at zz))<;>try dsimp only)
        exact K _ F2
    . rw [if_pos t3];by_cases c:mid<0
      . have g3:=g1.1 c
        repeat'((first|refine .ba g3 ?_|refine .t ?_|refine .u ?_|refine .some lg0 ?_|refine .some lg ?_|refine .some lgI ?_|(refine .bif (fun zz=>?_) (fun zz=>?_)<;>try simp(disch:=omega)only[zs,w64,zt]at zz))<;>try dsimp only)
        exact K _ F1
      . have g3:=g1.2 (by omega);have g3:Ans n_spec_l6Run s_spec_l6Run ((p,s.1,(s.2,0,0,()),false,()),((i+1:Nat):Int),mid,()) ((),ms p (f1 s),()):=by
          have:(mid.toNat:Int)=mid:=by omega
          unfold SA at g3;rw[this]at g3;exact g3
        repeat'((first|refine .ba g3 ?_|refine .t ?_|refine .u ?_|refine .some lg0 ?_|refine .some lg ?_|refine .some lgI ?_|(refine .bif (fun zz=>?_) (fun zz=>?_)<;>try simp(disch:=omega)only[zs,w64,zt]at zz))<;>try dsimp only)
        exact K _ F1
  . rw[if_pos t2];refine Tq.ba (trap1 t2) (Tq.bt rfl (Tq.ret ?_));unfold thn ms;rfl
theorem run_try {i m e j:Nat}(ho:opAt p.2.2.2.2.2.1 i=8)(hj:i<m∧m<e∧e<j∧e<p.2.2.2.2.2.1.length)(hE:End p.2.2.2.2.2.1 i m e){f1 f2 g:RS→RR}{a c b:Int}(ha:0≤a∧0≤c)(hb:0≤b)
    (hF1:∀s,EnvR p s.1→Fine p a s (f1 s)) (hF2:∀s,EnvR p s.1→Fine p c s (f2 s))
    (h1:∀s,EnvR p s.1→(s.2.length:Int)+a≤13194139533312→SA p (i+1) m s (f1 s)) (h2:∀s,EnvR p s.1→(s.2.length:Int)+c≤13194139533312→SA p (m+1) e s (f2 s)) (hr:SL p (e+1) j g b):
    SL p i j (fun s=>thn (if(f1 s).2.1=1∧(f1 s).2.2=NAt p.2.2.2.2.2.1 m then f2 (f1 s).1 else f1 s) g) (1+a+c+b):=by
  have hb2:=hp.b;have hi:=opAt_in ho (by omega);have o1:=opAt_lt hi;have hm:m<p.2.2.2.2.2.1.length:=by omega
  intro w s hv hB d hd;obtain⟨d,rfl⟩:∃d',d=d'+1:=⟨d-1,by omega⟩
  have F1:=hF1 s hv;have F2:=hF2 (f1 s).1 F1.env;have o:=F1.out;have g1:Ans n_spec_l6Run s_spec_l6Run (((p.1,p.2.1,p.2.2.1,p.2.2.2.1,p.2.2.2.2.1,p.2.2.2.2.2.1,()),(s.1.1,s.1.2.1,()),(s.2,0,0,()),false,()),((i+1:Nat):Int),(m:Int),()) ((),ms p (f1 s),()):=h1 s hv (by omega);have g2:Ans n_spec_l6Run s_spec_l6Run ((p,(f1 s).1.1,((f1 s).1.2,0,0,()),false,()),((m+1:Nat):Int),(e:Int),()) ((),ms p (f2 (f1 s).1),()):=h2 (f1 s).1 F1.env (by omega);have K:∀(x:RR),Fine p (a+c) s x→Tq d (fun k q=>spec_l6Run.L0 (cl k) k (p,w) (j:Int) q ((e+1:Nat):Int) x.1.2 x.1.1.2.1 x.1.1.1 p.1 p.2.1 p.2.2.1 p.2.2.2.1 p.2.2.2.2.1 p.2.2.2.2.2.1 x.2.1 x.2.2 (x.2.1!=0)) (· =((),ms p (thn x g),())):=
    fun x hF=>run_thn hF (by omega) hr w d (by omega)
  refine run_open ?_;unfold spec_l6Run.step0;refine Tq.bt (decide_eq_true (by omega)) (Tq.bt rfl (Tq.ba hE (Tq.bt (dle0 _) (Tq.some (lg hi) (Tq.bf (beq_eq_false_iff_ne.2 (by omega)) (Tq.bf (beq_eq_false_iff_ne.2 (by omega)) (Tq.bt (beq_iff_eq.2 (by omega)) ?_)))))));dsimp only;rw[ws hi (by omega),ws (n:=p.2.2.2.2.2.1.length) hj.2.2.2 (by omega),ws (n:=p.2.2.2.2.2.1.length) (j:=m) (by omega) (by omega)];refine Tq.ba g1 ?_;show Tq d (fun k q=>bif((f1 s).2.1 !=0)then bif((f1 s).2.1==1)then _ else _ else _) _
  have Fx:Fine p (a+c) s (f1 s):=⟨F1.env,by omega,F1.end3,F1.zero⟩;by_cases c1:(f1 s).2.1=1
  . refine Tq.bt (bne_iff_ne.2 (by omega)) (Tq.bt (beq_iff_eq.2 c1) (Tq.bt (dle0 _) (Tq.some (lg hm) ?_)));dsimp only;rw[←NAt_lt hm];by_cases c2:(f1 s).2.2=NAt p.2.2.2.2.2.1 m
    . rw[if_pos ⟨c1,c2⟩];refine Tq.bt (beq_iff_eq.2 c2) (Tq.ba g2 ?_);exact K _ ⟨F2.env,by have:=F2.out;omega,F2.end3,F2.zero⟩
    . rw[if_neg (fun h=>c2 h.2)];refine Tq.bf (beq_eq_false_iff_ne.2 c2) ?_;exact K _ Fx
  . rw[if_neg (fun h=>c1 h.1)];refine Tq.bif (fun _=>Tq.bf (beq_eq_false_iff_ne.2 c1) ?_) (fun _=>?_)
    . exact K _ Fx
    . exact K _ Fx
omit hp in
theorem rep_stop {i e:Nat}{w:WT}{d:Nat}{P:Unit×(YS×Unit)→Prop}(hi:i<p.2.2.2.2.2.1.length)(he:e<p.2.2.2.2.2.1.length)(hb:p.2.2.2.2.2.1.length≤40)(r0:Nat→Nat→Int→List Int→List (List Int)→List Int→Int→List Ip→List Ip→Int→List Int→List Sm→Int→Int→Bool→Option (Unit×(YS×Unit)))
    (n:Int) (x:RR) (h0:x.2.1≠0) (H:Tq d (fun k q=>r0 k q ((e+1:Nat):Int) x.1.2 x.1.1.2.1 x.1.1.1 p.1 p.2.1 p.2.2.1 p.2.2.2.1 p.2.2.2.2.1 p.2.2.2.2.2.1 x.2.1 x.2.2 (x.2.1!=0)) P) (m:Nat→Nat) (N:Nat) (hm:∀k,N≤k→1≤m k):
    Tq d (fun k q=>spec_l6Run.L1 (cl k) k (p,w) (i:Int) ((-1,(e:Int),()),()) (r0 k q) (m k) n x.1.2 x.1.1.2.1 x.1.1.1 p.1 p.2.1 p.2.2.1 p.2.2.2.1 p.2.2.2.2.1 p.2.2.2.2.2.1 x.2.1 x.2.2 (x.2.1!=0)) P:=by
  refine Tq.evEq (g:=fun k q=>spec_l6Run.step1 (cl k) k (p,w) (i:Int) ((-1,(e:Int),()),()) (r0 k q) (spec_l6Run.L1 (cl k) k (p,w) (i:Int) ((-1,(e:Int),()),()) (r0 k q) (m k-1)) n x.1.2 x.1.1.2.1 x.1.1.1 p.1 p.2.1 p.2.2.1 p.2.2.2.1 p.2.2.2.2.1 p.2.2.2.2.2.1 x.2.1 x.2.2 (x.2.1!=0)) ⟨N,fun k hk q _=>?_⟩ ?_
  . have:=hm k hk;obtain⟨y,hy⟩:∃y,m k=y+1:=⟨m k-1,by omega⟩
    rw[hy];rfl
  unfold spec_l6Run.step1;refine Tq.bt (dle0 _) (Tq.some (lg hi) ?_);dsimp only;rw[ws (n:=p.2.2.2.2.2.1.length) he (by omega)];have h1:(x.2.1!=0)=true:=bne_iff_ne.2 h0;exact Tq.bif (fun _=>Tq.bf (by rw[h1];rfl) H) (fun _=>H)
theorem rep_loop {i e:Nat}{w:WT}{d:Nat}{P:Unit×(YS×Unit)→Prop}(ho:opAt p.2.2.2.2.2.1 i=5)(he:i<e∧e<p.2.2.2.2.2.1.length)(r0:Nat→Nat→Int→List Int→List (List Int)→List Int→Int→List Ip→List Ip→Int→List Int→List Sm→Int→Int→Bool→Option (Unit×(YS×Unit)))
    {f:RS→RR} {b:Int} (hb:0≤b) (hF:∀s,EnvR p s.1→Fine p b s (f s)) (h1:∀s,EnvR p s.1→(s.2.length:Int)+b≤13194139533312→SA p (i+1) e s (f s)):
    ∀ (c n:Nat)(s:RS),n+c=(NAt p.2.2.2.2.2.1 i).toNat→EnvR p s.1→(s.2.length:Int)+c*b≤13194139533312→
      (H:Tq d (fun k q=>r0 k q ((e+1:Nat):Int) (rep f c s).1.2 (rep f c s).1.1.2.1 (rep f c s).1.1.1 p.1 p.2.1 p.2.2.1 p.2.2.2.1 p.2.2.2.2.1 p.2.2.2.2.2.1 (rep f c s).2.1 (rep f c s).2.2 ((rep f c s).2.1 !=0)) P)→∀(m:Nat→Nat)(N:Nat),(∀k,N≤k→c+1≤m k)→
      Tq d (fun k q=>spec_l6Run.L1 (cl k) k (p,w) (i:Int) ((-1,(e:Int),()),()) (r0 k q) (m k) (n:Int) s.2 s.1.2.1 s.1.1 p.1 p.2.1 p.2.2.1 p.2.2.2.1 p.2.2.2.2.1 p.2.2.2.2.2.1 0 0 false) P:=by
  have hb2:=hp.b;have hi:=opAt_in ho (by omega);have hN:=hs.loop i ho;intro c
  induction c with
  | zero=>
    intro n s hn hv hB H m N hm;refine Tq.evEq (g:=fun k q=>spec_l6Run.step1 (cl k) k (p,w) (i:Int) ((-1,(e:Int),()),()) (r0 k q) (spec_l6Run.L1 (cl k) k (p,w) (i:Int) ((-1,(e:Int),()),()) (r0 k q) (m k-1)) (n:Int) s.2 s.1.2.1 s.1.1 p.1 p.2.1 p.2.2.1 p.2.2.2.1 p.2.2.2.2.1 p.2.2.2.2.2.1 0 0 false) ⟨N,fun k hk q _=>?_⟩ ?_
    . have:=hm k hk;obtain⟨y,hy⟩:∃y,m k=y+1:=⟨m k-1,by omega⟩
      rw[hy];rfl
    unfold spec_l6Run.step1;refine Tq.bt (dle0 _) (Tq.some (lg hi) ?_);dsimp only;rw[ws (n:=p.2.2.2.2.2.1.length) he.2 (by omega),←NAt_lt hi];exact Tq.bf (decide_eq_false (by omega)) H
  | succ c ih=>
    intro n s hn hv hB H m N hm;have e2:(((c+1:Nat):Int)*b)=b+c*b:=by rw[Int.natCast_succ,Int.add_mul];omega
    have hnn:=Int.mul_nonneg (show(0:Int)≤c by omega) hb;have g:=hF s hv;have hd:Ans n_spec_l6Run s_spec_l6Run (((p.1,p.2.1,p.2.2.1,p.2.2.2.1,p.2.2.2.2.1,p.2.2.2.2.2.1,()),(s.1.1,s.1.2.1,()),(s.2,0,0,()),false,()),((i+1:Nat):Int),(e:Int),()) ((),ms p (f s),()):=h1 s hv (by omega);refine Tq.evEq (g:=fun k q=>spec_l6Run.step1 (cl k) k (p,w) (i:Int) ((-1,(e:Int),()),()) (r0 k q) (spec_l6Run.L1 (cl k) k (p,w) (i:Int) ((-1,(e:Int),()),()) (r0 k q) (m k-1)) (n:Int) s.2 s.1.2.1 s.1.1 p.1 p.2.1 p.2.2.1 p.2.2.2.1 p.2.2.2.2.1 p.2.2.2.2.2.1 0 0 false) ⟨N,fun k hk q _=>?_⟩ ?_
    . have:=hm k hk;obtain⟨y,hy⟩:∃y,m k=y+1:=⟨m k-1,by omega⟩
      rw[hy];rfl
    unfold spec_l6Run.step1;refine Tq.bt (dle0 _) (Tq.some (lg hi) ?_);dsimp only;rw[ws hi (by omega),←NAt_lt hi];refine Tq.bt (decide_eq_true (by omega)) (Tq.bt rfl (Tq.ba hd ?_));rw[ws (n:=4) (by omega) (by omega)];unfold rep at H;by_cases c0:(f s).2.1=0
    . rw[if_neg (fun h=>h c0)]at H;have z:=g.zero c0;have:=ih (n+1) (f s).1 (by omega) g.env (by have:=g.out;omega) H (fun k=>m k-1) N (fun k hk=>by have:=hm k hk;show c+1≤m k-1;omega);show Tq d (fun k q=>spec_l6Run.L1 (cl k) k (p,w) (i:Int) ((-1,(e:Int),()),()) (r0 k q) (m k-1) ((n+1:Nat):Int) (f s).1.2 (f s).1.1.2.1 (f s).1.1.1 p.1 p.2.1 p.2.2.1 p.2.2.2.1 p.2.2.2.2.1 p.2.2.2.2.2.1 (f s).2.1 (f s).2.2 ((f s).2.1 !=0)) P
      rw[c0,z];exact this
    . rw[if_pos c0]at H;exact rep_stop hs hi he.2 (by omega) r0 ((n+1:Nat):Int) (f s) c0 H (fun k=>m k-1) N (fun k hk=>by have:=hm k hk;show 1≤m k-1;omega)
theorem run_loop {i e j:Nat}(ho:opAt p.2.2.2.2.2.1 i=5)(hj:i<e∧e<j∧e<p.2.2.2.2.2.1.length)(hE:End p.2.2.2.2.2.1 i (-1) e){f g:RS→RR}{a b:Int}(ha:0≤a)(hb:0≤b)
    (hF:∀s,EnvR p s.1→Fine p a s (f s)) (h1:∀s,EnvR p s.1→(s.2.length:Int)+a≤13194139533312→SA p (i+1) e s (f s)) (hr:SL p (e+1) j g b):
    SL p i j (fun s=>thn (rep f (NAt p.2.2.2.2.2.1 i).toNat s) g) (1+NAt p.2.2.2.2.2.1 i*(1+a)+b):=by
  have hb2:=hp.b;have hi:=opAt_in ho (by omega);have o1:=opAt_lt hi;have hN:=hs.loop i ho;have e2:NAt p.2.2.2.2.2.1 i*(1+a)=NAt p.2.2.2.2.2.1 i+NAt p.2.2.2.2.2.1 i*a:=by rw[Int.mul_add,Int.mul_one]
  have e3:=Int.mul_nonneg hN.1 ha;have e1:(((NAt p.2.2.2.2.2.1 i).toNat:Nat):Int)=NAt p.2.2.2.2.2.1 i:=by omega
  intro w s hv hB d hd;obtain⟨d,rfl⟩:∃d',d=d'+1:=⟨d-1,by omega⟩
  have FR:=rep_fine ha hF (NAt p.2.2.2.2.2.1 i).toNat hv;rw[e1]at FR;refine run_open ?_;unfold spec_l6Run.step0;refine Tq.bt (decide_eq_true (by omega)) (Tq.bt rfl (Tq.ba hE (Tq.bt (dle0 _) (Tq.some (lg hi) (Tq.bf (beq_eq_false_iff_ne.2 (by omega)) (Tq.bt (beq_iff_eq.2 (by omega)) ?_))))));exact rep_loop hp hs ho ⟨hj.1,hj.2.2⟩ (fun k q=>spec_l6Run.L0 (cl k) k (p,w) (j:Int) q) ha hF h1 (NAt p.2.2.2.2.2.1 i).toNat 0 s (by omega) hv (by rw[e1];omega) (run_thn FR (by omega) hr w d (by omega)) (fun k=>k) ((NAt p.2.2.2.2.2.1 i).toNat+1) (fun k hk=>hk)
theorem run_seg {t:Fs}{i j:Nat}(h:Seg p.2.2.2.2.2.1 t i j):SL p i j (runF p t) (t.steps p.2.2.2.2.2.1):=by
  have hN:=hs.loop;have hb:=hp.b;have hb2:p.2.2.2.2.2.1.length≤1048576:=by omega
  induction h with
  |nil=>exact run_nil
  | @leaf r i j hi ho hr ih=>
    have h1:=hr.le;exact run_leaf hp hs hi (by omega) (steps_bd hN hr).1 (leaf_op hp hs hi ho) (end_leaf hb2 hi (by omega) (blk_seg hb2 hr).blk) ih
  | @one t r i e j ho ht he hr ih1 ih2=>
    have h1:=ht.le;have h3:=hr.le;have h2:=opAt_in he (by omega);have b1:=(steps_bd hN ht).1;have b2:=(steps_bd hN hr).1;have F1:=run_fine hp hs ht;have hE:=end_one hb2 ho (blk_seg hb2 ht).blk he;unfold Fs.steps;by_cases c:opAt p.2.2.2.2.2.1 i=2
    . rw[if_pos c];have D:=run_if hp hs c (by omega) hE b1 b2 F1 (f2:=fun s=>(s,0,0)) (fun s hv=>.stay hv b1 (.inl rfl) (fun _=>rfl)) (fun s hv hB=>⟨fun _=>ih1.a hv hB,fun h=>by omega⟩) (fun s hv hB=>⟨fun _=>rfl,fun h=>by omega⟩) (by omega) ih2;intro w s hv hB d hd;have:=D w s hv hB d hd;unfold runF;rw[if_pos c];exact this
    . rw[if_neg c];have D:=run_loop hp hs (by omega) (by omega) hE b1 b2 F1 (fun s hv hB=>ih1.a hv hB) ih2;intro w s hv hB d hd;have:=D w s hv hB d hd;unfold runF;rw[if_neg c];exact this
  | @two t o r i m e j ho ht hot he hr ih1 ih2 ih3=>
    have h1:=ht.le;have h3:=hot.le;have h4:=hr.le;have h2:=opAt_in he (by omega);have b1:=(steps_bd hN ht).1;have b2:=(steps_bd hN hot).1;have b3:=(steps_bd hN hr).1;have F1:=run_fine hp hs ht;have F2:=run_fine hp hs hot;have hE:=end_two hb2 ho (blk_seg hb2 ht).blk (blk_seg hb2 hot).blk he;unfold Fs.steps;by_cases c:opAt p.2.2.2.2.2.1 i=2
    . rw[if_pos c];have D:=run_if hp hs c (a:=max (t.steps p.2.2.2.2.2.1) (o.steps p.2.2.2.2.2.1)) (by omega) hE (by omega) b3 (fun s hv=>by have g:=F1 s hv;exact⟨g.env,by have:=g.out;omega,g.end3,g.zero⟩) (fun s hv=>by have g:=F2 s hv;exact⟨g.env,by have:=g.out;omega,g.end3,g.zero⟩) (fun s hv hB=>⟨fun h=>by omega,fun _=>ih1.a hv (by omega)⟩) (fun s hv hB=>⟨fun h=>by omega,fun _=>ih2.a hv (by omega)⟩) (by omega) ih3;intro w s hv hB d hd;have:=D w s hv hB d hd;unfold runF;rw[if_pos c];exact this
    . rw[if_neg c];have c8:=ho.resolve_left (fun h=>c h.1);have D:=run_try hp hs c8.1 (by omega) hE ⟨b1,b2⟩ b3 F1 F2 (fun s hv hB=>ih1.a hv hB) (fun s hv hB=>ih2.a hv hB) ih3;intro w s hv hB d hd;have:=D w s hv hB d hd;unfold runF;rw[if_neg c];exact this
end
end Go.Proofs.YtjgfofcgmcnblaaGreat.Pf
