/- What a run is, over well nested parts. No condition. -/
import Derived.Test.YtjgfofcgmcnblaaGreatPfA3
set_option maxHeartbeats 2000000
set_option linter.all false
namespace Go.Proofs.YtjgfofcgmcnblaaGreat.Pf
open Go Go.Pv
theorem mkI {x b:Int}(h0:0≤x)(h:x*b≤281474976710656):(decide (x=x)&&decide (0≤x)&&decide (x*b≤281474976710656))=true:=by
  rw[decide_eq_true rfl,decide_eq_true h0,decide_eq_true h];rfl
def smAt(b:List Sm)(i:Nat):Sm:=if h:i<b.length then b[i]else(0,0,[],[],())
theorem smAt_lt {b:List Sm}{i:Nat}(h:i<b.length):smAt b i=b[i]:=dif_pos h
abbrev RS:=ET×List Int
abbrev RR:=RS×(Int×Int)
def arrAt(p:Pg)(n:Int):Int:=if h:n.toNat<p.2.2.2.2.1.length then p.2.2.2.2.1[n.toNat]else 0
theorem arrAt_lt {p:Pg}{n:Int}(h:n.toNat<p.2.2.2.2.1.length):arrAt p n=p.2.2.2.2.1[n.toNat]:=dif_pos h
/--A statement by itself. -/
def stm(p:Pg)(x:Sm)(s:RS):RR:=
  if x.1=7 then(s,1,x.2.1)
  else if x.1=1 then
    (if evT p s.1 x.2.2.1≠0 then(s,2,evT p s.1 x.2.2.1)else if evT p s.1 x.2.2.2.1≠0 then(s,2,evT p s.1 x.2.2.2.1)else if arrAt p x.2.1≤evV p s.1 x.2.2.1 then(s,2,2)
      else(((s.1.1,s.1.2.1.set x.2.1.toNat ((getl s.1.2.1 x.2.1).set (evV p s.1 x.2.2.1).toNat (evV p s.1 x.2.2.2.1)),()),s.2),0,0))
  else if evT p s.1 x.2.2.2.1≠0 then(s,2,evT p s.1 x.2.2.2.1)
  else if x.1=0 then(((s.1.1.set x.2.1.toNat (evV p s.1 x.2.2.2.1),s.1.2.1,()),s.2),0,0)
  else((s.1,s.2++[evV p s.1 x.2.2.2.1]),0,0)
def rep(f:RS→RR):Nat→RS→RR
  |0,s=>(s,0,0)
  |n+1,s=>if(f s).2.1≠0 then f s else rep f n (f s).1
def thn(x:RR)(f:RS→RR):RR:=if x.2.1≠0 then x else f x.1
def runF(p:Pg):Fs→RS→RR
  |.nil,s=>(s,0,0)
  |.leaf i r,s=>thn (stm p (smAt p.2.2.2.2.2.1 i) s) (runF p r)
  |.one i _ t r,s=>thn (if opAt p.2.2.2.2.2.1 i=2 then(if evT p s.1 (smAt p.2.2.2.2.2.1 i).2.2.2.1≠0 then(s,2,evT p s.1 (smAt p.2.2.2.2.2.1 i).2.2.2.1)else if evV p s.1 (smAt p.2.2.2.2.2.1 i).2.2.2.1≠0 then runF p t s else(s,0,0))
      else rep (runF p t) (NAt p.2.2.2.2.2.1 i).toNat s) (runF p r)
  |.two i m _ t o r,s=>thn (if opAt p.2.2.2.2.2.1 i=2 then(if evT p s.1 (smAt p.2.2.2.2.2.1 i).2.2.2.1≠0 then(s,2,evT p s.1 (smAt p.2.2.2.2.2.1 i).2.2.2.1)else if evV p s.1 (smAt p.2.2.2.2.2.1 i).2.2.2.1≠0 then runF p t s else runF p o s)
      else(if(runF p t s).2.1=1∧(runF p t s).2.2=NAt p.2.2.2.2.2.1 m then runF p o (runF p t s).1 else runF p t s)) (runF p r)
theorem thn_eq(x:RR)(f:RS→RR):(x.2.1≠0∧thn x f=x)∨(x.2.1=0∧thn x f=f x.1):=by
  unfold thn;by_cases c:x.2.1=0
  . rw[if_neg (fun h=>h c)];exact .inr ⟨c,rfl⟩
  . rw[if_pos c];exact .inl ⟨c,rfl⟩
/--What holds of a run:the environment fits,there are no more values than so many more. -/
structure Fine (p:Pg) (n:Int) (s:RS) (x:RR):Prop where
  env:EnvR p x.1.1
  out:(x.1.2.length:Int)≤s.2.length+n
  end3:x.2.1=0∨x.2.1=1∨x.2.1=2
  zero:x.2.1=0→x.2.2=0
theorem Fine.stay {p:Pg}{n:Int}{s:RS}{h:Int×Int}(hv:EnvR p s.1)(hn:0≤n)(h1:h.1=0∨h.1=1∨h.1=2)(h2:h.1=0→h.2=0):Fine p n s (s,h):=⟨hv,by show(s.2.length:Int)≤_;omega,h1,h2⟩
theorem Fine.thn {p:Pg}{n m:Int}{s:RS}{x:RR}{f:RS→RR}(h:Fine p n s x)(hm:0≤m)(hf:∀s',EnvR p s'.1→Fine p m s' (f s')):Fine p (n+m) s (Pf.thn x f):=by
  rcases thn_eq x f with⟨_,e⟩|⟨_,e⟩<;>rw[e]
  . exact⟨h.env,by have:=h.out;omega,h.end3,h.zero⟩
  . have g:=hf x.1 h.env;exact⟨g.env,by have:=g.out;have:=h.out;omega,g.end3,g.zero⟩
theorem EnvR.set {p:Pg}{v:ET}(h:EnvR p v)(n:Nat){x:Int}(hx:Vl p.1 x):EnvR p (v.1.set n x,v.2.1,()):=by
  refine⟨by show((v.1.set n x).length:Int)=_;rw[List.length_set];exact h.lv,h.lc,?_,h.cs⟩;intro y hy;rcases List.mem_or_eq_of_mem_set hy with h1|rfl
  . exact h.vs y h1
  . exact hx
theorem EnvR.setC {p:Pg}{v:ET}(h:EnvR p v){n:Int}(hn:n.toNat<v.2.1.length)(a:Nat){x:Int}(hx:Vl p.1 x):EnvR p (v.1,v.2.1.set n.toNat ((getl v.2.1 n).set a x),()):=by
  refine⟨h.lv,by show(v.2.1.set _ _).length=_;rw[List.length_set];exact h.lc,h.vs,?_⟩;intro i h1 h2;have h1':i<v.2.1.length:=by
    have:i<(v.2.1.set n.toNat ((getl v.2.1 n).set a x)).length:=h1;rw[List.length_set]at this;exact this
  have hc:=h.cs i h1' h2;by_cases e:n.toNat=i
  . subst e;have e1:(v.2.1.set n.toNat ((getl v.2.1 n).set a x))[n.toNat]'h1=(getl v.2.1 n).set a x:=List.getElem_set_self _;rw[e1,getl_lt hn];refine⟨by rw[List.length_set];exact hc.1,fun y hy=>?_⟩;rcases List.mem_or_eq_of_mem_set hy with h1|rfl
    . exact hc.2 y h1
    . exact hx
  . have e1:(v.2.1.set n.toNat ((getl v.2.1 n).set a x))[i]'h1=v.2.1[i]:=List.getElem_set_ne e _;rw[e1];exact hc
section
variable {p:Pg}(hp:Hd p)(hs:StsOk p)
include hp hs
theorem stand_exp {i:Nat}(hi:i<p.2.2.2.2.2.1.length)(h:opAt p.2.2.2.2.2.1 i=0∨opAt p.2.2.2.2.2.1 i=1∨opAt p.2.2.2.2.2.1 i=2∨opAt p.2.2.2.2.2.1 i=6):Stand p (smAt p.2.2.2.2.2.1 i).2.2.2.1:=by
  rw[opAt_lt hi]at h;rw[smAt_lt hi];exact(hs _ (List.getElem_mem hi)).2.2.2.1 h
theorem stand_at {i:Nat}(hi:i<p.2.2.2.2.2.1.length)(h:opAt p.2.2.2.2.2.1 i=1):Stand p (smAt p.2.2.2.2.2.1 i).2.2.1:=by
  rw[opAt_lt hi]at h;rw[smAt_lt hi];exact(hs _ (List.getElem_mem hi)).2.2.1.1 h
theorem leaf_op {i:Nat}(hi:i<p.2.2.2.2.2.1.length)(h:opAt p.2.2.2.2.2.1 i≠2∧opAt p.2.2.2.2.2.1 i≠3∧opAt p.2.2.2.2.2.1 i≠4∧opAt p.2.2.2.2.2.1 i≠5∧opAt p.2.2.2.2.2.1 i≠8∧opAt p.2.2.2.2.2.1 i≠9):opAt p.2.2.2.2.2.1 i=0∨opAt p.2.2.2.2.2.1 i=1∨opAt p.2.2.2.2.2.1 i=6∨opAt p.2.2.2.2.2.1 i=7:=by
  have:=(hs _ (List.getElem_mem hi)).1;rw[←opAt_lt hi]at this;omega
theorem stm_fine {i:Nat}(hi:i<p.2.2.2.2.2.1.length)(h:opAt p.2.2.2.2.2.1 i=0∨opAt p.2.2.2.2.2.1 i=1∨opAt p.2.2.2.2.2.1 i=6∨opAt p.2.2.2.2.2.1 i=7){s:RS}(hv:EnvR p s.1):Fine p 1 s (stm p (smAt p.2.2.2.2.2.1 i) s):=by
  have h2:=hs _ (List.getElem_mem hi);have hl:=hv.lc;have hN:=h2.2.1.2.1;rw[←smAt_lt hi]at hN;have ho:=opAt_lt hi;rw[←smAt_lt hi]at ho;have e1:=fun h=>stand_exp hp hs hi h
  have e2:=fun h=>stand_at hp hs hi h
  unfold stm;by_cases c7:(smAt p.2.2.2.2.2.1 i).1=7
  . rw[if_pos c7];exact .stay hv (by omega) (.inr (.inl rfl)) (fun e=>by cases e)
  rw[if_neg c7];by_cases c1:(smAt p.2.2.2.2.2.1 i).1=1
  . rw[if_pos c1];have v1:=ev_vl hp hv (e2 (by omega));have v2:=ev_vl hp hv (e1 (by omega));by_cases t1:evT p s.1 (smAt p.2.2.2.2.2.1 i).2.2.1≠0
    . rw[if_pos t1];exact .stay hv (by omega) (.inr (.inr rfl)) (fun e=>by cases e)
    rw[if_neg t1];by_cases t2:evT p s.1 (smAt p.2.2.2.2.2.1 i).2.2.2.1≠0
    . rw[if_pos t2];exact .stay hv (by omega) (.inr (.inr rfl)) (fun e=>by cases e)
    rw[if_neg t2];by_cases t3:arrAt p (smAt p.2.2.2.2.2.1 i).2.1≤evV p s.1 (smAt p.2.2.2.2.2.1 i).2.2.1
    . rw[if_pos t3];exact .stay hv (by omega) (.inr (.inr rfl)) (fun e=>by cases e)
    rw[if_neg t3];exact⟨hv.setC (by have:=hN c1;omega) _ v2.1,by show(s.2.length:Int)≤_;omega,.inl rfl,fun _=>rfl⟩
  rw[if_neg c1];have v2:=ev_vl hp hv (e1 (by omega));by_cases t2:evT p s.1 (smAt p.2.2.2.2.2.1 i).2.2.2.1≠0
  . rw[if_pos t2];exact .stay hv (by omega) (.inr (.inr rfl)) (fun e=>by cases e)
  rw[if_neg t2];by_cases c0:(smAt p.2.2.2.2.2.1 i).1=0
  . rw[if_pos c0];exact⟨hv.set _ v2.1,by show(s.2.length:Int)≤_;omega,.inl rfl,fun _=>rfl⟩
  . rw[if_neg c0];exact⟨hv,by show(((s.2++[_]).length:Nat):Int)≤_;rw[List.length_append,List.length_singleton];omega,.inl rfl,fun _=>rfl⟩
omit hp hs in
theorem rep_fine {f:RS→RR}{m:Int}(hm:0≤m)(hf:∀s',EnvR p s'.1→Fine p m s' (f s')):∀(n:Nat){s:RS},EnvR p s.1→Fine p (n*m) s (rep f n s)
  | 0,s,hv=>by
    have:=Fine.stay (p:=p) (n:=0) (s:=s) (h:=(0,0)) hv (by omega) (.inl rfl) (fun _=>rfl);rw[show(((0:Nat):Int)*m)=0 by omega];exact this
  | n+1,s,hv=>by
    have g:=hf s hv;have e:(((n+1:Nat):Int)*m)=m+n*m:=by rw[Int.natCast_succ,Int.add_mul];omega
    have hn:=Int.mul_nonneg (show(0:Int)≤n by omega) hm;rw[e];unfold rep;by_cases c:(f s).2.1≠0
    . rw[if_pos c];exact⟨g.env,by have:=g.out;omega,g.end3,g.zero⟩
    . rw[if_neg c];have r:=rep_fine hm hf n g.env;exact⟨r.env,by have:=r.out;have:=g.out;omega,r.end3,r.zero⟩
theorem run_fine {t:Fs}{i j:Nat}(h:Seg p.2.2.2.2.2.1 t i j):∀(s:RS),EnvR p s.1→Fine p (t.steps p.2.2.2.2.2.1) s (runF p t s):=by
  have hN:=hs.loop
  induction h with
  |nil=>intro s hv;exact .stay hv (Int.le_refl 0) (.inl rfl) (fun _=>rfl)
  | leaf hi ho hr ih=>
    intro s hv;exact(stm_fine hp hs hi (leaf_op hp hs hi ho) hv).thn (steps_bd hN hr).1 ih
  | @one t r i e j ho ht he hr ih1 ih2=>
    intro s hv;have h1:=ht.le;have h2:=opAt_in he (by omega);have b1:=(steps_bd hN ht).1;have b2:=(steps_bd hN hr).1;unfold runF Fs.steps;refine Fine.thn ?_ b2 ih2;by_cases c:opAt p.2.2.2.2.2.1 i=2
    . rw[if_pos c,if_pos c];have v2:=ev_vl hp hv (stand_exp hp hs (i:=i) (by omega) (by omega));by_cases t2:evT p s.1 (smAt p.2.2.2.2.2.1 i).2.2.2.1≠0
      . rw[if_pos t2];exact .stay hv (by omega) (.inr (.inr rfl)) (fun e=>by cases e)
      rw[if_neg t2];by_cases t3:evV p s.1 (smAt p.2.2.2.2.2.1 i).2.2.2.1≠0
      . rw[if_pos t3];have g:=ih1 s hv;exact⟨g.env,by have:=g.out;omega,g.end3,g.zero⟩
      . rw[if_neg t3];exact .stay hv (by omega) (.inl rfl) (fun _=>rfl)
    . rw[if_neg c,if_neg c];have c5:opAt p.2.2.2.2.2.1 i=5:=by omega
      have n4:=hN i c5;have g:=rep_fine b1 ih1 (NAt p.2.2.2.2.2.1 i).toNat hv;have e1:(((NAt p.2.2.2.2.2.1 i).toNat:Nat):Int)=NAt p.2.2.2.2.2.1 i:=by omega
      rw[e1]at g;have e2:NAt p.2.2.2.2.2.1 i*(1+t.steps p.2.2.2.2.2.1)=NAt p.2.2.2.2.2.1 i+NAt p.2.2.2.2.2.1 i*t.steps p.2.2.2.2.2.1:=by rw[Int.mul_add,Int.mul_one]
      exact⟨g.env,by have:=g.out;omega,g.end3,g.zero⟩
  | @two t o r i m e j ho ht hot he hr ih1 ih2 ih3=>
    intro s hv;have h1:=ht.le;have h3:=hot.le;have h2:=opAt_in he (by omega);have b1:=(steps_bd hN ht).1;have b2:=(steps_bd hN hot).1;have b3:=(steps_bd hN hr).1;unfold runF Fs.steps;refine Fine.thn ?_ b3 ih3;by_cases c:opAt p.2.2.2.2.2.1 i=2
    . rw[if_pos c,if_pos c];have v2:=ev_vl hp hv (stand_exp hp hs (i:=i) (by omega) (by omega));by_cases t2:evT p s.1 (smAt p.2.2.2.2.2.1 i).2.2.2.1≠0
      . rw[if_pos t2];exact .stay hv (by omega) (.inr (.inr rfl)) (fun e=>by cases e)
      rw[if_neg t2];by_cases t3:evV p s.1 (smAt p.2.2.2.2.2.1 i).2.2.2.1≠0
      . rw[if_pos t3];have g:=ih1 s hv;exact⟨g.env,by have:=g.out;omega,g.end3,g.zero⟩
      . rw[if_neg t3];have g:=ih2 s hv;exact⟨g.env,by have:=g.out;omega,g.end3,g.zero⟩
    . rw[if_neg c,if_neg c];have g:=ih1 s hv;by_cases t3:(runF p t s).2.1=1∧(runF p t s).2.2=NAt p.2.2.2.2.2.1 m
      . rw[if_pos t3];have g2:=ih2 _ g.env;exact⟨g2.env,by have:=g.out;have:=g2.out;omega,g2.end3,g2.zero⟩
      . rw[if_neg t3];exact⟨g.env,by have:=g.out;omega,g.end3,g.zero⟩
end
end Go.Proofs.YtjgfofcgmcnblaaGreat.Pf
