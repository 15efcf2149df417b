/- Code, loops, open orders, functions: what the reading says comes about. No condition. -/
import Derived.Test.YtjgfofcgmcnblaaGreatPvC
import Derived.Tactics
import Derived.Laws.Sem
import Derived.Orders
import Derived.ChangeArms
import Derived.ChangeOld
import Derived.WideShapes
import Derived.ChangeShapes
import Derived.RowKit
import Derived.Below
set_option linter.unusedVariables false
set_option linter.unusedSectionVars false
namespace Go.Pv
open Go Go.Great
variable {own own' own1 own2:Own}{w w' w1 w2:World}{G G' G1 G2:Gs}{ρ:Type}{E:Env}[Base]
abbrev Z42:=(g:Nat)->(s:Sg)->s.A.den->Option s.R.den
def Z1v(E:Env)(call:Z42):Prop:=∀key s,E.sg key=some s->CallOk E.P (key % 100000) s (call key s)
theorem SR.mem {act:Act}{σ:St}(h:SR own w G act.tmps σ):Mem own w G σ.o fun i=>has σ.o i=true:=⟨h.objs,h.closed.2,fun _ h=>h,h.bound,h.base⟩
theorem Zcy(hE:EnvOk E){call:Z42}(hcall:Z1v E call){f:Nat}{o:Oper}{ev:Operand->AV}{V:Operand->Value}{O:Obs}{K:AV->Obs->Bool->Option ρ}{r:ρ}(hM:Mem own w G O fun i=>has O i=true)
   (hr:∀e,o.dst=some e->∀i,pre [e] i=true->has O i=false) (hx:∀x∈o.op.operands.toList,AVv own w G (ev x) (V x)/\(ev x).men fun i=>has O i=true) (hc:∀v,V (.const v)=v) (h:opA E call f o ev O K=some r):Comes1 E V o own w G O K r:=by
 unfold opA at h;rcases Z8 h with⟨hw,h⟩|⟨hw,h⟩
 . by_cases hC:∃g args at',o.op=.call {callee:=.value g,args:=args,argTypes:=at'}
   . obtain⟨g,args,at',ho⟩:=hC;exact Zbt hE hcall hM hr hx hc ho h
   . exact Zfe hE hM (fun d hd i hi=>by rw[hr d hd i hi];simp) hx hc (fun g args at' ho=>hC ⟨g,args,at',ho⟩) hw h
 . obtain⟨a,v,h,hrun,ha,hm⟩:=Z8z hE hM.objs hM.box ⟨hx,hc⟩ h;exact .val h hrun ⟨ha,hm,.refl hM.objs hM.bound⟩
def St.clear(σ:St)(d:Nat):St:=nif (hasP σ.o [d]) ((⟨σ.s,Z31 σ.o [d]⟩:St).sw) σ
theorem St.clearK_eq(σ:St)(d:Nat)(K:St->ρ):σ.clearK d K=K (σ.clear d):=by
 obtain⟨s,O⟩:=σ;simp only[St.clearK,St.clear];cases hasP O [d]
 . rfl
 . simp only[nif,Z8n,St.sweepK_eq]
theorem SR.clear {tm:Array Value}{σ:St}(h:SR own w G tm σ)(d:Nat):SR own w G tm (σ.clear d)/\∀i,pre [d] i=true->has (σ.clear d).o i=false:=by
 unfold St.clear;cases e:hasP σ.o [d]
 . refine⟨h,fun i hi=>?_⟩;show has σ.o i=false
   cases e2:has σ.o i
   . rfl
   . rw[Z6g hi e2]at e;cases e
 . constructor
   . have hM:Mem own w G σ.o fun i=>has σ.o i=true:=⟨h.objs,h.closed.2,fun _ h=>h,h.bound,h.base⟩
     have hp:Post own own w w G G σ.o (Z31 σ.o [d]) true:=Post.rest hM (fun o b hb=>by
       rw[Z8o]at hb;split at hb
       . cases hb
       . exact hb) (Sealed.refl _ _) (fun g o s hg _=>⟨hg,rfl⟩) (fun g _ hg=>⟨hg,rfl⟩) h.bound (Nat.le_refl _) rfl rfl rfl
     exact SR.nextSw (act:=⟨tm,[]⟩) (d:=none) (a:=.dead) (v:=.tuple #[]) h hp trivial
   . intro i hi;simp only[nif,St.sw];rw[Zdm];exact Zhz (by rw[Z8o,if_pos hi])
theorem Zgx(hE:EnvOk E){call:Z42}(hcall:Z1v E call){f:Nat}{o:Oper}{act:Act}{σ:St}{K:St->Option ρ}{r:ρ}(hS:SR own w G act.tmps σ)(h:opK E call f o σ K=some r):
   ∃σ',K σ'=some r/\∀R:Value->World->Prop,(∀own' w' G' v,SR own' w' G' (act.put o.dst v).tmps σ'->Keeps own own' w w'->R v w')->Does E.P act.eval o w R:=by
 have main:∀{σ:St},SR own w G act.tmps σ->(∀e,o.dst=some e->∀i,pre [e] i=true->has σ.o i=false)->(opA E call f o σ.ev σ.o fun a O b=>nif b (K ((⟨σ.s,O⟩:St).set o.dst a).sw) (K ((⟨σ.s,O⟩:St).set o.dst a)))=some r->
     ∃σ',K σ'=some r/\∀R:Value->World->Prop,(∀own' w' G' v,SR own' w' G' (act.put o.dst v).tmps σ'->Keeps own own' w w'->R v w')->Does E.P act.eval o w R:=by
   intro σ hS hr h;obtain⟨a,O',b,h,hR⟩:=Zcy hE hcall (V:=act.eval) hS.mem hr (fun x _=>hS.ev x) (fun _=>rfl) h;cases b with
   |true=>exact⟨_,h,fun R hn=>hR R fun own' w' G' v hm=>hn own' w' G' v (hS.nextSw hm.post hm.val) hm.post.keeps⟩
   |false=>exact⟨_,h,fun R hn=>hR R fun own' w' G' v hm=>hn own' w' G' v (hS.next hm.post hm.val hm.men) hm.post.keeps⟩
 unfold opK at h;split at h
 . rename_i hd;refine main hS (fun e he=>by rw[hd]at he;cases he) ?_;rw[hd];simp only[St.sweepK_eq]at h;exact h
 . rename_i d hd;rw[St.clearK_eq]at h;obtain⟨hS',hno⟩:=hS.clear d;refine main hS' (fun e he=>by rw[hd]at he;cases he;exact hno) ?_;rw[hd];simp only[St.putK_eq,St.sweepK_eq]at h;exact h
end Go.Pv
namespace Go.Pv
open Go Go.Great
variable {own own' own1 own2:Own}{w w' w1 w2:World}{G G' G1 G2:Gs}{ρ:Type}{E:Env}[Base]
theorem SR.setS {tm:Array Value}{σ:St}(h:SR own w G tm σ){d:Nat}{a:AV}(ha:AVv own w G a (tm.getD d undef))(hm:a.men fun o=>has σ.o o=true):SR own w G tm (σ.set (some d) a) where
 len:=by rw[Z4f];exact h.len
 slot:=by
   intro i c hc;simp only[St.set,Z4z]at hc;split at hc
   . rename_i e;cases hc;rw[e.1];exact ha
   . exact h.slot i c hc
 objs:=by rw[Z2k];exact h.objs
 closed:=by
   refine⟨fun c hc=>?_,fun o c hc=>by rw[Z2k]at hc⊢;exact h.closed.2 o c hc⟩;rw[Z2k];rcases Z40 (show c∈setA σ.s d a from hc)with rfl|hc
   . exact hm
   . exact h.closed.1 c hc
 bound:=h.bound
 base:=h.base
theorem SR.putS {act:Act}{σ:St}(h:SR own w G act.tmps σ){d:Option Nat}{a:AV}{v:Value}(ha:AVv own w G a v)(hm:a.men fun o=>has σ.o o=true):SR own w G (act.put d v).tmps (σ.set d a):=by
 have:=SR.next (O':=σ.o) h (Post.refl h.objs h.bound) (d:=d) ha hm;exact this
theorem Zfk {act:Act}{σ:St}(h:SR own w G act.tmps σ){d:Nat}{x:Bool}(hx:σ.get d=.v .bool x):act.tmps[d]?=some (.bool x):=by
 unfold St.get at hx;split at hx
 . rename_i a ha;subst hx;have h1:=h.slot d _ ha;obtain⟨cs,⟨_,hc⟩,hv⟩:=h1;have hc:cs=[.bool x]:=hc;subst hc;have hv:[Value.bool x]=[act.tmps.getD d undef]:=hv;have hv:act.tmps.getD d undef=.bool x:=by simpa using hv.symm
   rw[Array.getD_eq_getD_getElem?]at hv;cases e:act.tmps[d]? with
   |none=>rw[e]at hv;cases hv
   |some v=>rw[e]at hv;simp only[Option.getD_some]at hv;rw[hv]
 . cases hx
theorem Z97 {α:Type}:∀(l:List α)(i:Nat),nth l i=l[i]?
 |[],i=>by simp[nth]
 |a::l,0=>by simp[nth]
 |a::l,n+1=>by simp[nth,Z97 l n]
def Zcz(D:Act->Prop)(l:List Oper):Prop:=∀o∈l,∀a v,D a->D (a.put o.dst v)
def hdrA(o:Id)(n t:Nat):Nat->List AV->List AV
 | _,[]=>[]
 | i,a::l=>(nif (Nat.beq i t) a (match a with
   |.ref q=>nif (idEq q o) (.v .hdr n) (.ref q)
   |a=>a))::hdrA o n t (Nat.succ i) l
theorem Zet(o:Id)(n t:Nat):∀(i:Nat)(l:List AV){ρ:Type}(K:List AV->ρ),hdrS o n t i l K=K (hdrA o n t i l)
 | _,[],_,_=>rfl
 | i,a::l,_,K=>by
   simp only[hdrS,hdrA];rw[Zet o n t (Nat.succ i) l];cases Nat.beq i t
   . cases a<;>first|rfl|skip
     rename_i q;simp only[nif];cases idEq q o<;>rfl
   . rfl
theorem Zd0(o:Id)(n t:Nat):∀(i:Nat)(l:List AV),(hdrA o n t i l).length=l.length
 | _,[]=>rfl
 |i,a::l=>by simp only[hdrA,List.length_cons,Zd0 o n t (Nat.succ i) l]
theorem Zd1 {o:Id}{n t:Nat}:∀{i:Nat}{l:List AV}{j:Nat}{c:AV},nth (hdrA o n t i l) j=some c->nth l j=some c\/(nth l j=some (.ref o)/\c=.v .hdr n)
 |i,[],j,c,h=>by cases j<;>cases h
 | i,a::l,0,c,h=>by
   simp only[hdrA,nth,Option.some.injEq]at h⊢;cases e:Nat.beq i t<;>rw[e]at h<;>simp only[nif]at h
   . cases a<;>first|exact .inl h|skip
     rename_i q;simp only at h;cases e2:idEq q o<;>rw[e2]at h<;>simp only at h
     . exact .inl h
     . exact .inr ⟨by rw[idEq_iff.1 e2],h.symm⟩
   . exact .inl h
 | i,a::l,j+1,c,h=>by
   simp only[hdrA,nth]at h⊢;exact Zd1 h
theorem Zd2 {o:Id}{n t:Nat}:∀{i:Nat}{l:List AV}{c:AV},c∈hdrA o n t i l->c∈l\/c=.v .hdr n
 |i,[],c,h=>by cases h
 | i, a :: l,c,h=>by
   simp only[hdrA]at h;rcases List.mem_cons.1 h with h|h
   . have h2:c=a\/c=.v .hdr n:=by
       cases e:Nat.beq i t<;>rw[e]at h<;>simp only[nif]at h
       . cases a with
         | ref q=>
           simp only at h;cases e2:idEq q o<;>rw[e2]at h<;>simp only at h
           . exact .inl h
           . exact .inr h
         | _=>exact .inl h
       . exact .inl h
     rcases h2 with h2|h2
     . rw[h2];exact .inl List.mem_cons_self
     . exact .inr h2
   . exact(Zd2 h).imp (List.mem_cons_of_mem _) id
theorem Zfl {all:List Oper}{o:Oper}{tm:Array Value}{σ:St}{K:St->Option ρ}{r:ρ}(hS:SR own w G tm σ)(h:hdrK all o σ K=some r):∃σ',SR own w G tm σ'/\K σ'=some r:=by
 unfold hdrK at h;rcases Z8 h with⟨_,h⟩|⟨_,h⟩
 case inr=>exact⟨σ,hS,h⟩
 split at h
 case h_2=>exact⟨σ,hS,h⟩
 split at h
 case h_2=>exact⟨σ,hS,h⟩
 split at h
 case h_2=>exact⟨σ,hS,h⟩
 rename_i t _ _ _ q hq;split at h
 case h_2=>exact⟨σ,hS,h⟩
 rename_i tid e xs hl;obtain⟨s,O⟩:=σ;simp only[Zet]at h;refine⟨⟨hdrA q xs.length t 0 s,O⟩,⟨by rw[Zd0];exact hS.len,fun i c hc=>?_,hS.objs,⟨fun c hc=>?_,hS.closed.2⟩,hS.bound,hS.base⟩,h⟩
 . rcases Zd1 hc with h1|⟨h1,rfl⟩
   . exact hS.slot i c h1
   . obtain⟨cs,⟨hcs,_⟩,hv⟩:=hS.slot i _ h1;obtain⟨_,_,hr⟩:=hS.objs q _ hl;rw[<-hcs]at hr;refine⟨cs,⟨rfl,?_⟩,hv⟩;simp only[Rep]at hr⊢;rcases hr with⟨h2,h3⟩|⟨g,cap,cur,h2,_,_,h4,h5,_⟩
     . exact⟨none,0,by rw[h3];exact h2,Nat.le_of_eq h3,Nat.zero_le _⟩
     . exact⟨_,cap,h2,h4,h5⟩
 . rcases Zd2 hc with h1|rfl
   . exact hS.closed.1 c h1
   . trivial
theorem Z7k (hE:EnvOk E){call:Z42}(hcall:Z1v E call){f:Nat}{all:List Oper}{D:Act->Prop}:∀{l:List Oper}{own:Own}{w:World}{G:Gs}{act:Act}{σ:St}{K:St->Option ρ}{r:ρ},Zcz D l->D act->SR own w G act.tmps σ->opsK E call f all l σ K=some r->
   ∀Q:Exit->Act->World->Prop,(∀own' w' G' act' σ',K σ'=some r->SR own' w' G' act'.tmps σ'->Keeps own own' w w'->D act'->Q .normal act' w')->wpList E.P all.toArray Q l act w
 |[],own,w,G,act,σ,K,r,hst,hD,hS,h,Q,hQ=>hQ own w G act σ h hS (Keeps.refl _ _) hD
 | o :: l, own,w,G,act,σ,K,r,hst,hD,hS,h,Q,hQ=>by
   have hst':Zcz D l:=fun x hx=>hst x (List.mem_cons_of_mem _ hx)
   have hD':∀v,D (act.put o.dst v):=fun v=>hst o List.mem_cons_self act v hD
   have run:∀{σ:St},SR own w G act.tmps σ->(opK E call f o σ fun σ'=>opsK E call f all l σ' K)=some r->o.wp E.P act w (wpList E.P all.toArray Q l) Q:=by
     intro σ hS h;obtain⟨σ',h,hR⟩:=Zgx hE hcall hS h;refine Does.wp (hR _ fun own' w' G' v hS' hk=>?_);exact Z7k hE hcall hst' (hD' v) hS' h Q fun own2 w2 G2 act2 σ2 h2 hS2 hk2 hd=>hQ own2 w2 G2 act2 σ2 h2 hS2 (hk.trans hk2) hd
   have skip:∀{σ:St},SR own w G act.tmps σ->(σ.putK o.dst .tn fun σ'=>opsK E call f all l σ' K)=some r->wpList E.P all.toArray Q l (act.put o.dst undef) w:=by
     intro σ hS h;rw[St.putK_eq]at h;exact Z7k hE hcall hst' (hD' undef) (hS.putS (a:=.tn) rfl trivial) h Q fun own2 w2 G2 act2 σ2 h2 hS2 hk2 hd=>hQ own2 w2 G2 act2 σ2 h2 hS2 hk2 hd
   simp only[opsK]at h;unfold wpList;split at h
   . rename_i hg;have hw:Region.wanted o (yielded all.toArray act.tmps)=true:=by simp[Region.wanted,hg]
     rw[if_pos hw];obtain⟨σ',hS',h⟩:=Zfl hS h;exact .inl (run hS' h)
   . rename_i j b hg;split at h
     . rename_i d _ _ _ _ _ hj;rw[Z97]at hj;split at h
       . rename_i x hx;have hb:=Zfk hS hx;have hy:yielded all.toArray act.tmps j=some x:=by
           unfold yielded;simp[hj,hb]
         have hset:∀y:Bool,x=y->SR own w G act.tmps (σ.set (some d) (.v .bool y)):=by
           intro y e;subst e;refine hS.setS ⟨[.bool x],⟨rfl,rfl⟩,?_⟩ trivial;have:act.tmps.getD d undef=.bool x:=by rw[Array.getD_eq_getD_getElem?,hb];rfl
           rw[this];rfl
         have hw:Region.wanted o (yielded all.toArray act.tmps)=(x==b):=by
           simp only[Region.wanted,hg,hy];cases x<;>cases b<;>rfl
         cases x with
         | true=>
           simp only[cond_true,St.setK,Z33]at h;cases b with
           | true=>
             rw[if_pos (by rw[hw];rfl)];exact .inl (run (hset true rfl) h)
           | false=>
             rw[if_neg (by rw[hw];decide)];exact skip (hset true rfl) h
         | false=>
           simp only[cond_false,St.setK,Z33]at h;cases b with
           | false=>
             rw[if_pos (by rw[hw];rfl)];exact .inl (run (hset false rfl) h)
           | true=>
             rw[if_neg (by rw[hw];decide)];exact skip (hset false rfl) h
       . rename_i hx;have hy:yielded all.toArray act.tmps j=none:=by
           have h1:AVv own w G (σ.get d) (act.eval (.tmp d)):=(hS.ev (.tmp d)).1;rw[hx]at h1;have h1:act.tmps.getD d undef=.tuple #[]:=h1;unfold yielded;rw[Array.getD_eq_getD_getElem?]at h1;cases e:act.tmps[d]? with
           |none=>simp[hj,e]
           | some u=>
             rw[e]at h1;simp only[Option.getD_some]at h1;subst h1;simp[hj,e]
         have hw:Region.wanted o (yielded all.toArray act.tmps)=false:=by
           simp only[Region.wanted,hg,hy];cases b<;>rfl
         rw[if_neg (by rw[hw];decide)];exact skip hS h
       . cases h
     . cases h
end Go.Pv
namespace Go.Pv
open Go Go.Great
variable {own own' own1 own2:Own}{w w' w1 w2:World}{G G' G1 G2:Gs}{ρ:Type}{E:Env}[Base]
def Zd(m:Ren)(a:AV):AV:=renA m a id
theorem Z11(m:Ren):∀(a:AV){ρ:Type}(K:AV->ρ),renA m a K=K (Zd m a)
 |.dead,_,_=>rfl
 |.v _ _,_,_=>rfl
 |.hole _,_,_=>rfl
 |.tn,_,_=>rfl
 | .pr a b,_,K=>by
   simp only[Zd,renA];rw[Z11 m a,Z11 m a,Z11 m b,Z11 m b,Zf,Zf];rfl
 | .tp a b,_,K=>by
   simp only[Zd,renA];rw[Z11 m a,Z11 m a,Z11 m b,Z11 m b];rfl
 |.s o _ _,_,_=>by simp only[Zd,renA];cases home m o<;>rfl
 |.ref o,_,_=>by simp only[Zd,renA];cases home m o<;>rfl
 |.hs o _ _,_,_=>by simp only[Zd,renA];cases home m o<;>rfl
 |.p o _ _,_,_=>by simp only[Zd,renA];cases home m o<;>rfl
 |.e o _ _ _,_,_=>by simp only[Zd,renA];cases home m o<;>rfl
 |.ap o _,_,_=>by simp only[Zd,renA];cases home m o<;>rfl
 | .cl f a,_,K=>by
   simp only[Zd,renA];rw[Z11 m a,Z11 m a];rfl
theorem Z6t(m:Ren)(f:Nat)(a:AV):Zd m (.cl f a)=.cl f (Zd m a):=by
 unfold Zd;simp only[renA];rw[Z11];rfl
theorem Z6u(m:Ren)(a b:AV):Zd m (.pr a b)=mkA (Zd m a) (Zd m b):=by
 unfold Zd;simp only[renA];rw[Z11,Z11,Zf];rfl
theorem Z98(m:Ren)(a b:AV):Zd m (.tp a b)=.tp (Zd m a) (Zd m b):=by
 unfold Zd;simp only[renA];rw[Z11,Z11];rfl
def NewN(m:Ren)(r:Id):Prop:=∃o,home m o=some r
theorem Z2e(m:Ren):∀a:AV,(Zd m a).men (NewN m)
 |.dead=>trivial
 |.v _ _=>trivial
 |.hole _=>trivial
 |.tn=>trivial
 |.pr a b=>by rw[Z6u];exact .mk (Z2e m a) (Z2e m b)
 |.tp a b=>by rw[Z98];exact⟨Z2e m a,Z2e m b⟩
 | .s o _ _=>by
   simp only[Zd,renA];cases e:home m o
   . trivial
   . exact⟨o,e⟩
 | .ref o=>by
   simp only[Zd,renA];cases e:home m o
   . trivial
   . exact⟨o,e⟩
 | .hs o _ _=>by
   simp only[Zd,renA];cases e:home m o
   . trivial
   . exact⟨o,e⟩
 | .p o _ _=>by
   simp only[Zd,renA];cases e:home m o
   . trivial
   . exact⟨o,e⟩
 | .e o _ _ _=>by
   simp only[Zd,renA];cases e:home m o
   . trivial
   . exact⟨o,e⟩
 | .ap o _=>by
   simp only[Zd,renA];cases e:home m o
   . trivial
   . exact⟨o,e⟩
 |.cl f a=>by rw[Z6t];exact Z2e m a
theorem Z1d(m:Ren):∀a:AV,(Zd m a).agg=a.agg
 |.dead=>rfl
 |.v _ _=>rfl
 |.hole _=>rfl
 |.tn=>rfl
 |.pr a b=>by rw[Z6u,Z4d];rfl
 |.tp a b=>by rw[Z98];rfl
 |.s o _ _=>by simp only[Zd,renA];cases home m o<;>rfl
 |.ref o=>by simp only[Zd,renA];cases home m o<;>rfl
 |.hs o _ _=>by simp only[Zd,renA];cases home m o<;>rfl
 |.p o _ _=>by simp only[Zd,renA];cases home m o<;>rfl
 |.e o _ _ _=>by simp only[Zd,renA];cases home m o<;>rfl
 |.ap o _=>by simp only[Zd,renA];cases home m o<;>rfl
 |.cl f a=>by rw[Z6t];rfl
theorem Z6v(m:Ren):∀a:AV,a.ok=true->(Zd m a).ok=true
 |.dead,h=>by cases h
 |.v _ _,_=>rfl
 |.hole _,_=>rfl
 |.tn,h=>by cases h
 |.tp _ _,h=>by cases h
 |.s _ _ _,h=>by cases h
 |.pr a b,h=>by rw[Z6u];exact Z5z (Z6v m a (ok_pr.1 h).1) (Z6v m b (ok_pr.1 h).2)
 |.cl f a,h=>by rw[Z6t];exact Z6v m a h
 |.ref o,_=>by simp only[Zd,renA];cases home m o<;>rfl
 |.hs o _ _,_=>by simp only[Zd,renA];cases home m o<;>rfl
 |.p o _ _,_=>by simp only[Zd,renA];cases home m o<;>rfl
 |.e o _ _ _,_=>by simp only[Zd,renA];cases home m o<;>rfl
 |.ap o _,_=>by simp only[Zd,renA];cases home m o<;>rfl
theorem AVc.ren(hs:Sealed own w own' w){m:Ren}(hG:∀o r,home m o=some r->G' r=G o):∀{a:AV}{cs:List Value},AVc own w G a cs->AVc own' w G' (Zd m a) cs
 |.dead,_,h=>h.elim
 |.tn,_,h=>h.elim
 |.tp _ _,_,h=>h.elim
 |.v t x,_,h=>⟨h.1,Rep.plain hs _ h.1 h.2⟩
 | .pr a b,_,h=>by
   obtain⟨c1,c2,rfl,h1,h2⟩:=h;rw[Z6u];exact .mk (AVc.ren hs hG h1) (AVc.ren hs hG h2)
 |.hole _,_,h=>h
 | .s o _ _,_,h=>by
   simp only[Zd,renA];cases e:home m o
   . exact h.one_hole rfl
   . simp only[id,AVc]at h⊢;rw[hG o _ e];exact h
 | .ref o,_,h=>by
   simp only[Zd,renA];cases e:home m o
   . exact h.one_hole rfl
   . simp only[id,AVc]at h⊢;rw[hG o _ e];exact h
 | .hs o _ _,_,h=>by
   simp only[Zd,renA];cases e:home m o
   . exact h.one_hole rfl
   . simp only[id,AVc]at h⊢;rw[hG o _ e];exact h
 | .p o _ _,_,h=>by
   simp only[Zd,renA];cases e:home m o
   . exact h.one_hole rfl
   . simp only[id,AVc]at h⊢;rw[hG o _ e];exact h
 | .e o _ _ _,_,h=>by
   simp only[Zd,renA];cases e:home m o
   . exact h.one_hole rfl
   . simp only[id,AVc]at h⊢;rw[hG o _ e];exact h
 | .ap o _,_,h=>by
   simp only[Zd,renA];cases e:home m o
   . exact h.one_hole rfl
   . simp only[id,AVc]at h⊢;rw[hG o _ e];exact h
 | .cl f a,_,h=>by
   obtain⟨vs,rfl,h⟩:=h;rw[Z6t];exact⟨vs,rfl,AVc.ren hs hG h⟩
theorem AVv.ren(hs:Sealed own w own' w){m:Ren}(hG:∀o r,home m o=some r->G' r=G o):∀{a:AV}{v:Value},AVv own w G a v->AVv own' w G' (Zd m a) v
 |.dead,_,_=>trivial
 |.tn,_,h=>h
 | .tp a b,_,h=>by
   obtain⟨u,vs,rfl,h1,h2⟩:=h;rw[Z98];exact⟨u,vs,rfl,AVv.ren hs hG h1,AVv.ren hs hG h2⟩
 |.v _ _,_,⟨cs,h1,h2⟩=>.of (AVc.ren hs hG h1) (by rw[Z1d];exact h2)
 |.pr _ _,_,⟨cs,h1,h2⟩=>.of (AVc.ren hs hG h1) (by rw[Z1d];exact h2)
 |.hole _,_,⟨cs,h1,h2⟩=>.of (AVc.ren hs hG h1) (by rw[Z1d];exact h2)
 |.ref _,_,⟨cs,h1,h2⟩=>.of (AVc.ren hs hG h1) (by rw[Z1d];exact h2)
 |.hs _ _ _,_,⟨cs,h1,h2⟩=>.of (AVc.ren hs hG h1) (by rw[Z1d];exact h2)
 |.p _ _ _,_,⟨cs,h1,h2⟩=>.of (AVc.ren hs hG h1) (by rw[Z1d];exact h2)
 |.e _ _ _ _,_,⟨cs,h1,h2⟩=>.of (AVc.ren hs hG h1) (by rw[Z1d];exact h2)
 |.s _ _ _,_,⟨cs,h1,h2⟩=>.of (AVc.ren hs hG h1) (by rw[Z1d];exact h2)
 |.ap _ _,_,⟨cs,h1,h2⟩=>.of (AVc.ren hs hG h1) (by rw[Z1d];exact h2)
 |.cl _ _,_,⟨cs,h1,h2⟩=>.of (AVc.ren hs hG h1) (by rw[Z1d];exact h2)
def Zgy(m:Ren):Ob->Ob
 |.box a=>.box (Zd m a)
 |.list t e xs=>.list t e xs
 |.map t k v es=>.map t k v es
def Z6w(m:Ren)(O:Obs):Ren->Obs
 |[]=>[]
 | (o,r)::l=>match look O o with
   |some b=>(r,Zgy m b)::Z6w m O l
   |none=>Z6w m O l
theorem Zeu(m:Ren)(O:Obs):∀(l:Ren){ρ:Type}(K:Obs->ρ),renO m O l K=K (Z6w m O l)
 |[],_,_=>rfl
 | (o,r)::l,_,K=>by
   simp only[renO,Z6w];rw[Zeu m O l];cases look O o with
   |none=>rfl
   | some b=>
     cases b with
     |box a=>simp only[Z11];rfl
     |list t e xs=>rfl
     |map t k v es=>rfl
theorem Z6x {m:Ren}{O:Obs}{r:Id}{b:Ob}:∀{l:Ren},look (Z6w m O l) r=some b->∃o c,(o,r)∈l/\look O o=some c/\b=Zgy m c
 |[],h=>by cases h
 | (o,q)::l,h=>by
   simp only[Z6w]at h;split at h
   . rename_i c hc;rw[Z9]at h;split at h
     . rename_i e;subst e;cases h;exact⟨o,c,List.mem_cons_self,hc,rfl⟩
     . obtain⟨o',c',h1,h2⟩:=Z6x h;exact⟨o',c',List.mem_cons_of_mem _ h1,h2⟩
   . obtain⟨o',c',h1,h2⟩:=Z6x h;exact⟨o',c',List.mem_cons_of_mem _ h1,h2⟩
theorem Zbu {m:Ren}{O:Obs}{o r:Id}:∀{l:Ren},(o,r)∈l->has O o=true->has (Z6w m O l) r=true
 | (o',q)::l,h,ho=>by
   simp only[Z6w];split
   . rename_i c hc;rw[Zp];rcases List.mem_cons.1 h with e|h
     . cases e;exact .inl rfl
     . exact .inr (Zbu h ho)
   . rename_i hc;rcases List.mem_cons.1 h with e|h
     . cases e;obtain⟨b,hb⟩:=has_look.1 ho;rw[hc]at hb;cases hb
     . exact Zbu h ho
def Z88(m:Ren)(lv:List Nat):Nat->List AV->List AV
 | _,[]=>[]
 |i,a::l=>nif (lv.any (Nat.beq · i)) (Zd m a) .dead::Z88 m lv (i+1) l
theorem Zev(m:Ren)(lv:List Nat):∀(i:Nat)(l:List AV){ρ:Type}(K:List AV->ρ),renS m lv i l K=K (Z88 m lv i l)
 | _,[],_,_=>rfl
 | i,a::l,_,K=>by
   simp only[renS,Z88];rw[Zev m lv _ l,Z11];cases lv.any (Nat.beq · i)<;>rfl
theorem Zai(m:Ren)(lv:List Nat):∀(i:Nat)(l:List AV),(Z88 m lv i l).length=l.length
 | _,[]=>rfl
 |i,a::l=>by simp only[Z88,List.length_cons,Zai m lv _ l]
theorem Z7l {m:Ren}{lv:List Nat}:∀{i:Nat}{l:List AV}{k:Nat}{a:AV},nth (Z88 m lv i l) k=some a->∃b,nth l k=some b/\(a=.dead\/a=Zd m b)
 | _,[],k,a,h=>by cases k<;>cases h
 | i,b::l,0,a,h=>by
   simp only[Z88,nth,Option.some.injEq]at h;refine⟨b,rfl,?_⟩;cases hb:lv.any (Nat.beq · i)<;>rw[hb]at h<;>subst h
   . exact .inl rfl
   . exact .inr rfl
 | i,b::l,k+1,a,h=>by
   simp only[Z88,nth]at h⊢;exact Z7l h
theorem Z99 {m:Ren}{o r:Id}(h:home m o=some r):(o,r)∈m:=by
 induction m with
 |nil=>cases h
 | cons x l ih=>
   obtain⟨a,b⟩:=x;simp only[home]at h;rcases Z8 h with⟨h1,h2⟩|⟨h1,h2⟩
   . have e:=idEq_iff.1 h1;cases h2;rw[e];exact List.mem_cons_self
   . exact List.mem_cons_of_mem _ (ih h2)
theorem Zaj {a:Id}{l:List Id}(h:diff (a::l)=true):a∉l/\diff l=true:=by
 simp only[diff]at h;cases e:l.any (idEq a)<;>rw[e]at h
 . refine⟨fun hm=>?_,h⟩;have:l.any (idEq a)=true:=List.any_eq_true.2 ⟨a,hm,Z1m a⟩;rw[e]at this;cases this
 . cases h
theorem Zgz {m:Ren}{o r:Id}(hd:diff (m.map (·.1))=true)(h:(o,r)∈m):home m o=some r:=by
 induction m with
 |nil=>cases h
 | cons x l ih=>
   obtain⟨a,b⟩:=x;simp only[List.map_cons]at hd;obtain⟨h1,h2⟩:=Zaj hd;simp only[home];rcases List.mem_cons.1 h with e|h
   . cases e;rw[Z1m];rfl
   . have hne:idEq a o=false:=by
       cases e:idEq a o
       . rfl
       . have:=idEq_iff.1 e;subst this;exact(h1 (List.mem_map.2 ⟨_,h,rfl⟩)).elim
     rw[hne];exact ih h2 h
theorem Zhg {m:Ren}{o o' r:Id}(hd:diff (m.map (·.2))=true)(h:(o,r)∈m)(h':(o',r)∈m):o=o':=by
 induction m with
 |nil=>cases h
 | cons x l ih=>
   obtain⟨a,b⟩:=x;simp only[List.map_cons]at hd;obtain⟨h1,h2⟩:=Zaj hd;rcases List.mem_cons.1 h with e|k<;>rcases List.mem_cons.1 h' with e'|k'
   . cases e;cases e';rfl
   . cases e;exact(h1 (List.mem_map.2 ⟨(o',r),k',rfl⟩)).elim
   . cases e';exact(h1 (List.mem_map.2 ⟨(o,r),k,rfl⟩)).elim
   . exact ih h2 k k'
theorem Z53 {m:Ren}{o r:Id}{O:Obs}(hm:∀x y,(x,y)∈m->has O x=true)(ho:has O o=true):∀x y,(x,y)∈add1 m o r->has O x=true:=by
 intro x y h;unfold add1 at h;split at h
 . exact hm x y h
 . rcases List.mem_cons.1 h with e|h
   . cases e;exact ho
   . exact hm x y h
theorem Z54 {O:Obs}(hbox:∀o c,look O o=some (.box c)->c.men fun i=>has O i=true):∀{k:Nat}{a:AV}{r:Id}{m:Ren},a.men (fun i=>has O i=true)->(∀x y,(x,y)∈m->has O x=true)->∀x y,(x,y)∈homA O k a r m->has O x=true
 |0,a,r,m,_,hm=>by cases a<;>exact hm
 |k+1,.pr a b,r,m,ha,hm=>Z54 (a:=b) hbox ha.2 (Z54 (a:=a) hbox ha.1 hm)
 |k+1,.ref o,r,m,ha,hm=>Z53 hm ha
 |k+1,.hs o _ _,r,m,ha,hm=>Z53 hm ha
 |k+1,.e o _ _ _,r,m,ha,hm=>Z53 hm ha
 |k+1,.s o _ _,r,m,ha,hm=>Z53 hm ha
 |k+1,.ap o _,r,m,ha,hm=>Z53 hm ha
 |k+1,.cl _ a,r,m,ha,hm=>Z54 (a:=a) hbox ha hm
 | k + 1,.p o _ _,r,m,ha,hm=>by
   simp only[homA];split
   . exact hm
   . split
     . rename_i a hl;refine Z54 hbox (hbox o a hl) fun x y h=>?_
       rcases List.mem_cons.1 h with e|h
       . cases e;exact ha
       . exact hm x y h
     . exact hm
 |k+1,.v _ _,r,m,ha,hm=>hm
 |k+1,.dead,r,m,ha,hm=>hm
 |k+1,.hole _,r,m,ha,hm=>hm
 |k+1,.tn,r,m,ha,hm=>hm
 |k+1,.tp _ _,r,m,ha,hm=>hm
theorem Zhh {σ:St}(h:Zbd σ)(i:Nat):(σ.get i).men fun o=>has σ.o o=true:=by
 unfold St.get;split
 . rename_i a ha;exact h.1 a (Z3g ha)
 . trivial
theorem Zd3 {σ:St}(h:Zbd σ):∀{lv:List Nat}{m:Ren},(∀x y,(x,y)∈m->has σ.o x=true)->∀x y,(x,y)∈homS σ lv m->has σ.o x=true
 |[],m,hm=>hm
 |v::l,m,hm=>Zd3 (lv:=l) (m:=homA σ.o 20 (σ.get v) [Nat.add 500000 v] m) h (Z54 h.2 (Zhh h v) hm)
def Z68(m:Ren)(own:Own):Own:=fun g=>match own g with
 |.ob o s=>(match home m o with|some r=>.ob r s|none=>.out)
 |l=>l
open Classical in
noncomputable def renG(m:Ren)(G:Gs):Gs:=fun r=>if h:∃o,(o,r)∈m then G h.choose else G r
theorem Z55(m:Ren)(o r:Id)(K:Ren->ρ):Z8k m o r K=K (add1 m o r):=by
 unfold Z8k add1;split<;>rfl
theorem Z6y(O:Obs):∀(k:Nat)(a:AV)(r:Id)(m:Ren)(K:Ren->ρ),Z6b O k a r m K=K (homA O k a r m)
 |0,_,_,_,_=>rfl
 |k+1,.pr a b,r,m,K=>by simp only[Z6b,homA,Z6y]
 | _+1,.ref o,r,m,K=>Z55 _ _ _ _
 | _+1,.hs o _ _,r,m,K=>Z55 _ _ _ _
 | _+1,.e o _ _ _,r,m,K=>Z55 _ _ _ _
 | _+1,.s o _ _,r,m,K=>Z55 _ _ _ _
 | _+1,.ap o _,r,m,K=>Z55 _ _ _ _
 |k+1,.cl _ a,r,m,K=>by simp only[Z6b,homA,Z6y]
 | k +1,.p o _ _,r,m,K=>by
   simp only[Z6b,homA];split
   . rfl
   . split
     . exact Z6y O k _ _ _ _
     . rfl
 | _+1,.dead,_,_,_=>rfl
 | _+1,.v _ _,_,_,_=>rfl
 | _+1,.hole _,_,_,_=>rfl
 | _+1,.tn,_,_,_=>rfl
 | _+1,.tp _ _,_,_,_=>rfl
theorem Zd4(σ:St):∀(l:List Nat)(m:Ren)(K:Ren->ρ),Zef σ l m K=K (homS σ l m)
 |[],_,_=>rfl
 | v::l,m,K=>by
   simp only[Zef,Z6y,Zd4 σ l];rfl
theorem Z7m {lv:List Nat}{tm:Array Value}{σ:St}{K:St->Option ρ}{r:ρ}(hS:SR own w G tm σ)(h:norm lv σ K=some r):∃σ' own' G',K σ'=some r/\SR own' w G' tm σ'/\Keeps own own' w w:=by
 unfold norm at h;rw[Zd4]at h;obtain⟨hd,h⟩:=Z0 h;rw[Zev,Zeu]at h;generalize hm:homS σ lv []=m at hd h;have hd12:∀x y:Bool,nif x y false=true->x=true/\y=true:=by decide
 obtain⟨hd1,hd2⟩:=hd12 _ _ hd;have hhas:∀x y,(x,y)∈m->has σ.o x=true:=by
   rw[<-hm];exact Zd3 hS.closed (fun x y h=>by cases h)
 have hG:∀o r,home m o=some r->renG m G r=G o:=by
   intro o r ho;have hmem:=Z99 ho;unfold renG;have hex:∃o,(o,r)∈m:=⟨o,hmem⟩
   rw[dif_pos hex];rw[Zhg hd2 hex.choose_spec hmem]
 have hs:Sealed own w (Z68 m own) w:=fun g hg=>⟨by simp only[Z68,hg],rfl⟩
 have hnew:∀r,NewN m r->has (Z6w m σ.o m) r=true:=fun r⟨o,ho⟩=>Zbu (Z99 ho) (hhas o r (Z99 ho))
 refine⟨_,Z68 m own,renG m G,h,⟨?_,?_,?_,⟨?_,?_⟩,?_,Base.keep hS.base hs⟩,⟨hs,fun g _ hg=>⟨by simp only[Z68,hg],rfl⟩,Nat.le_refl _,rfl,rfl,rfl⟩⟩
 . rw[Zai];exact hS.len
 . intro i a ha;obtain⟨b,hb,rfl|rfl⟩:=Z7l ha
   . trivial
   . exact AVv.ren hs hG (hS.slot i b hb)
 . intro r b hb;obtain⟨o,c,hmem,hc,rfl⟩:=Z6x hb;have ho:=Zgz hd1 hmem;have hob:=hS.objs o c hc;have hlab:∀g s,own g=.ob o s->Z68 m own g=.ob r s:=fun g s hg=>by simp only[Z68,hg,ho]
   cases c with
   | box a=>
     obtain⟨⟨h1,h2⟩,g,cur,T,h3,h4,h5,h6⟩:=hob;exact⟨⟨by rw[hG o r ho];exact h1,Z6v m a h2⟩,g,cur,T,by rw[hG o r ho];exact h3,hlab g [] h4,h5,AVc.ren hs hG h6⟩
   | list t e xs=>
     obtain⟨h1,h2,h3⟩:=hob;refine⟨by rw[hG o r ho];exact h1,by rw[hG o r ho];exact h2,?_⟩;rw[hG o r ho];exact Rep.move hs (Mv.ob fun g s hg=>⟨by simpa using hlab g s hg,rfl⟩) h3
   | map t k v es=>
     obtain⟨h1,h2⟩:=hob;refine⟨by rw[hG o r ho];exact h1,?_⟩;rw[hG o r ho];exact Rep.move hs (Mv.obMap fun g s hg=>⟨by simpa using hlab g s hg,rfl⟩) h2
 . intro a ha;obtain⟨i,hi⟩:=List.getElem?_of_mem ha;rw[<-Z8f]at hi;obtain⟨b,hb,rfl|rfl⟩:=Z7l hi
   . trivial
   . exact(Z2e m b).mono hnew
 . intro r a hb;obtain⟨o,c,hmem,hc,he⟩:=Z6x hb;cases c with
   | box c=>
     simp only[Zgy,Ob.box.injEq]at he;subst he;exact(Z2e m c).mono hnew
   |list t e xs=>cases he
   |map t k v es=>cases he
 . intro g hg;simp only[Z68,hS.bound g hg]
end Go.Pv
namespace Go.Pv
open Go Go.Great
variable {own own' own1 own2:Own}{w w' w1 w2:World}{G G' G1 G2:Gs}{ρ:Type}{E:Env}[Base]
def LoopAt(P:Program)(c:Code)(Q:Exit->Act->World->Prop)(a:Act)(w:World):Prop:=
 ∀(b:Frame)(k:List Item)(cs:List Frame),∃e a' w',Q e a' w'/\Arrives P (lone (b.at a (.code c::.inLoop c::k)) cs w) b k cs e a' w'
theorem LoopAt.loop {P:Program}{c:Code}{Q:Exit->Act->World->Prop}{a:Act}{w:World}(h:LoopAt P c Q a w):(Code.loop c).wp P Q a w:=fun b k cs=>
 let⟨e,a',w',hq,harr⟩:=h b k cs
 ⟨e,a',w',hq,.of_steps (.one step_loop) harr⟩
theorem LoopAt.round {P:Program}{c:Code}{Q:Exit->Act->World->Prop}{a:Act}{w:World}(h:c.wp P (Exit.then (LoopAt P c Q) Q) a w):LoopAt P c Q a w:=by
 intro b k cs;obtain⟨e,a₁,w₁,hq,harr⟩:=h b (.inLoop c::k) cs;cases e with
 | normal=>
   obtain⟨e₂,a₂,w₂,hq₂,harr₂⟩:=hq b k cs;exact⟨e₂,a₂,w₂,hq₂,.of_steps (Steps.trans harr (.one step_inLoop)) harr₂⟩
 |exit id=>exact⟨_,a₁,w₁,hq,.pass (x:=.inLoop c) rfl (fun _ _=>.inl (by simp)) harr⟩
 |goto l=>exact⟨_,a₁,w₁,hq,.pass (x:=.inLoop c) rfl (fun _ _=>.inl (by simp)) harr⟩
 |ret=>exact⟨_,a₁,w₁,hq,.pass (x:=.inLoop c) rfl (fun _ _=>.inl (by simp)) harr⟩
 |panic ch=>exact⟨_,a₁,w₁,hq,.pass (x:=.inLoop c) rfl (fun _ _=>.inl (by simp)) harr⟩
 |outgrown=>exact⟨_,a₁,w₁,hq,.pass (x:=.inLoop c) rfl (fun _ _=>.inl (by simp)) harr⟩
def Ex.to:Ex->Exit
 |.nrm=>.normal
 |.exit i=>.exit i
 |.ret=>.ret
def Fit(own:Own)(w:World)(D:Act->Prop)(K:Ex->St->Option ρ)(r:ρ)(Q:Exit->Act->World->Prop):Prop:=
 ∀ex σ' own' w' G' act',K ex σ'=some r->SR own' w' G' act'.tmps σ'->Keeps own own' w w'->D act'->Q ex.to act' w'
theorem Fit.after {D:Act->Prop}{K:Ex->St->Option ρ}{r:ρ}{Q:Exit->Act->World->Prop}(h:Fit own w D K r Q)(hk:Keeps own own' w w'):Fit own' w' D K r Q:=
 fun ex σ' own2 w2 G' act' h1 h2 h3 h4=>h ex σ' own2 w2 G' act' h1 h2 (hk.trans h3) h4
def Zbv(E:Env)(call:Z42)(f:Nat):Prop:=
 ∀ {ρ:Type}(id:Nat)(ops:Array Oper)(D:Act->Prop)(own:Own)(w:World)(G:Gs)(act:Act)(σ:St)(K:St->Option ρ)(r:ρ)(Q:Exit->Act->World->Prop),Zcz D ops.toList->D act->SR own w G act.tmps σ->(Z4c ops.toList σ fun σ=>Z3f E call f ops.toList ops.toList 0 [] σ K)=some r->
   (∀own' w' G' act' σ',K σ'=some r->SR own' w' G' act'.tmps σ'->Keeps own own' w w'->D act'->Q .normal act' w')->(Code.region id ops true).wp E.P Q act w
theorem Zak {act:Act}{σ:St}(h:SR own w G act.tmps σ){c:Operand}{x:Bool}(hx:σ.ev c=.v .bool x):act.eval c=.bool x:=by
 have h1:=(h.ev c).1;rw[hx]at h1;obtain⟨cs,⟨_,hc⟩,hv⟩:=h1;have hc:cs=[.bool x]:=hc;subst hc;have hv:[Value.bool x]=[act.eval c]:=hv;simpa using hv.symm
def Stab(D:Act->Prop):Code->Prop
 |.region _ ops _=>Zcz D ops.toList
 |.seq a b=>Stab D a/\Stab D b
 |.cond _ a b=>Stab D a/\Stab D b
 |.block _ c=>Stab D c
 |.loop c=>Stab D c
 | _=>True
theorem Z1i(hE:EnvOk E){call:Z42}(hcall:Z1v E call){f:Nat}(hdraw:Zbv E call f){k:Nat}{D:Act->Prop}{cuts:List (Nat×List Nat)}:∀{c:Code}{l:List (List Nat)}{n:Nat}{own:Own}{w:World}{G:Gs}{act:Act}{σ:St}{K:Ex->St->Option ρ}{r:ρ}{Q:Exit->Act->World->Prop},
   Stab D c->D act->SR own w G act.tmps σ->Z15 E call f k (ann cuts c l n) σ K=some r->Fit own w D K r Q->c.wp E.P Q act w
 |.skip,l,n,own,w,G,act,σ,K,r,Q,hst,hD,hS,h,hQ=>wp_skip (hQ .nrm σ own w G act h hS (.refl _ _) hD)
 | .region id ops draw,l,n,own,w,G,act,σ,K,r,Q,hst,hD,hS,h,hQ=>by
   simp only[ann,Z15]at h;cases draw with
   |true=>exact hdraw id ops D own w G act σ (K .nrm) r Q hst hD hS h fun own' w' G' act' σ'=>hQ .nrm σ' own' w' G' act'
   | false=>
     refine wp_region_list ?_;have:=Z7k hE hcall hst hD hS h Q fun own' w' G' act' σ'=>hQ .nrm σ' own' w' G' act'
     simpa using this
 | .seq a b,l,n,own,w,G,act,σ,K,r,Q,hst,hD,hS,h,hQ=>by
   obtain⟨l1,n1,bb,hb1,hb2⟩:∃l1 n1 bb,ann cuts (.seq a b) l n=.seq (ann cuts a l (n+1)) bb/\(bb=ann cuts b l1 n1\/∃lv,bb=.cut lv (ann cuts b l1 n1)):=by
     simp only[ann];refine⟨Zc9 (Z3q a) l,Nat.add (n+1) (Z5r a),?_⟩;cases lk cuts n with
     |none=>exact⟨_,rfl,.inl rfl⟩
     |some lv=>exact⟨_,rfl,.inr ⟨lv,rfl⟩⟩
   rw[hb1]at h;simp only[Z15]at h;refine wp_seq (Z1i (c:=a) hE hcall hdraw hst.1 hD hS h ?_);intro ex σ1 own1 w1 G1 act1 h hS1 hk1 hd1;cases ex with
   | nrm=>
     simp only[seqC]at h;have hQ1:=hQ.after hk1;rcases hb2 with rfl|⟨lv,rfl⟩
     . exact Z1i (c:=b) hE hcall hdraw hst.2 hd1 hS1 h hQ1
     . simp only[Z15]at h;obtain⟨σ2,own2,G2,h,hS2,hk2⟩:=Z7m hS1 h;cases k with
       |zero=>cases h
       |succ k=>exact Z1i (c:=b) hE hcall hdraw hst.2 hd1 hS2 h (hQ1.after hk2)
   |exit i=>exact hQ (.exit i) σ1 own1 w1 G1 act1 h hS1 hk1 hd1
   |ret=>exact hQ .ret σ1 own1 w1 G1 act1 h hS1 hk1 hd1
 | .cond c a b,l,n,own,w,G,act,σ,K,r,Q,hst,hD,hS,h,hQ=>by
   simp only[ann,Z15]at h;split at h
   . rename_i x hx;cases x with
     |true=>exact wp_cond_true (Zak hS hx) (Z1i (c:=a) hE hcall hdraw hst.1 hD hS h hQ)
     |false=>exact wp_cond_false (Zak hS hx) (Z1i (c:=b) hE hcall hdraw hst.2 hD hS h hQ)
   . cases h
 | .block id c,l,n,own,w,G,act,σ,K,r,Q,hst,hD,hS,h,hQ=>by
   simp only[ann,Z15]at h;refine wp_block (Z1i (c:=c) hE hcall hdraw (by exact hst) hD hS h ?_);intro ex σ1 own1 w1 G1 act1 h hS1 hk1 hd1;cases ex with
   |nrm=>exact hQ .nrm σ1 own1 w1 G1 act1 h hS1 hk1 hd1
   | exit i=>
     simp only[blkC]at h;show(if i=id then Q .normal act1 w1 else Q (.exit i) act1 w1)
     rcases Z8 h with⟨h1,h⟩|⟨h1,h⟩
     . rw[if_pos (Nat.eq_of_beq_eq_true h1)];exact hQ .nrm σ1 own1 w1 G1 act1 h hS1 hk1 hd1
     . rw[if_neg (Nat.ne_of_beq_eq_false h1)];exact hQ (.exit i) σ1 own1 w1 G1 act1 h hS1 hk1 hd1
   |ret=>exact hQ .ret σ1 own1 w1 G1 act1 h hS1 hk1 hd1
 | .loop c,[],n,own,w,G,act,σ,K,r,Q,hst,hD,hS,h,hQ=>by
   simp only[ann,Z15]at h;cases h
 | .loop c,lv::l,n,own,w,G,act,σ,K,r,Q,hst,hD,hS,h,hQ=>by
   simp only[ann,Z15]at h;obtain⟨σ1,own1,G1,h,hS1,hk1⟩:=Z7m hS h;refine LoopAt.loop ?_;have key:∀(m:Nat){own1:Own}{w1:World}{G1:Gs}{act1:Act}{σ1:St},SR own1 w1 G1 act1.tmps σ1->iterK lv (Z15 E call f k (ann cuts c l n)) K m σ1=some r->Keeps own own1 w w1->D act1->LoopAt E.P c Q act1 w1:=by
     intro m
     induction m with
     |zero=>intro own1 w1 G1 act1 σ1 hS1 h;cases h
     | succ m ih=>
       intro own1 w1 G1 act1 σ1 hS1 h hk1 hd1;simp only[iterK]at h;refine LoopAt.round (Z1i (c:=c) hE hcall hdraw (by exact hst) hd1 hS1 h ?_);intro ex σ2 own2 w2 G2 act2 h hS2 hk2 hd2;cases ex with
       | nrm=>
         simp only[loopC]at h;obtain⟨σ3,own3,G3,h,hS3,hk3⟩:=Z7m hS2 h;exact ih hS3 h (hk1.trans (hk2.trans hk3)) hd2
       |exit i=>exact hQ (.exit i) σ2 own2 w2 G2 act2 h hS2 (hk1.trans hk2) hd2
       |ret=>exact hQ .ret σ2 own2 w2 G2 act2 h hS2 (hk1.trans hk2) hd2
   exact key k hS1 h hk1 hD
 |.exit id,l,n,own,w,G,act,σ,K,r,Q,hst,hD,hS,h,hQ=>wp_exit (hQ (.exit id) σ own w G act h hS (.refl _ _) hD)
 |.ret,l,n,own,w,G,act,σ,K,r,Q,hst,hD,hS,h,hQ=>wp_ret (hQ .ret σ own w G act h hS (.refl _ _) hD)
 |.label _,l,n,own,w,G,act,σ,K,r,Q,hst,hD,hS,h,hQ=>by simp only[ann,Z15]at h;cases h
 |.goto _,l,n,own,w,G,act,σ,K,r,Q,hst,hD,hS,h,hQ=>by simp only[ann,Z15]at h;cases h
end Go.Pv
namespace Go.Pv
open Go Go.Great
variable {own own' own1 own2:Own}{w w' w1 w2:World}{G G' G1 G2:Gs}{ρ:Type}{E:Env}[Base]
def SlV(own:Own)(w:World)(G:Gs)(P:Id->Prop):List AV->List Value->Prop
 |[],vs=>vs=[]
 |a::s,vs=>∃v vs',vs=v::vs'/\AVv own w G a v/\a.men P/\SlV own w G P s vs'
theorem SlV.keep {P Q:Id->Prop}(hG:∀o,P o->G' o=G o)(hPQ:∀o,P o->Q o):∀{s:List AV}{vs:List Value},SlV own w G P s vs->SlV own w G' Q s vs
 |[],_,h=>h
 | a::s,_,h=>by
   obtain⟨v,vs',rfl,h1,h2,h3⟩:=h;exact⟨v,vs',rfl,AVv.keep (Sealed.refl _ _) (P:=P) (fun o ho=>⟨hG o ho,fun _ _ _=>rfl⟩) h2 h1,h2.mono hPQ,h3.keep hG hPQ⟩
structure InR (own:Own) (w:World) (G:Gs) (O:Obs) (i:Nat) (s:List AV) (vs:List Value):Prop where
 slots:SlV own w G (fun o=>has O o=true) s vs
 objs:Objs own w G O
 box:∀o c,look O o=some (.box c)->c.men fun o=>has O o=true
 ids:∀o,has O o=true->∃j,i<=j/\pre [j] o=true
theorem Zhi {i j:Nat}{o:Id}(h1:pre [i] o=true)(h2:pre [j] o=true):i=j:=by
 obtain⟨c,hc⟩:=pre_iff.1 h1;obtain⟨d,hd⟩:=pre_iff.1 h2;rw[hc]at hd;simp only[List.cons_append,List.nil_append,List.cons.injEq]at hd;exact hd.1
theorem InR.fresh {O:Obs}{i:Nat}{s:List AV}{vs:List Value}(h:InR own w G O (i+1) s vs):∀o,pre [i] o=true->¬has O o=true:=by
 intro o ho h1;obtain⟨j,hj,h2⟩:=h.ids o h1;have:=Zhi ho h2;omega
theorem InR.unp {O:Obs}{i:Nat}{s:List AV}{vs:List Value}{t:Ty}{x:t.den}{r:Id}{cs:List Value}{K:AV->Obs->Option ρ}{res:ρ}(h:InR own w G O (i+1) s vs)(hr:pre [i] r=true)(hR:Rep own w t x ⟨r,[],true⟩ cs)(hk:unpK t x r O K=some res):
   ∃a O' G',K a O'=some res/\a.agg=t.agg/\AVc own w G' a cs/\a.ok=true/\(a.men fun o=>has O' o=true/\pre r o=true)/\SlV own w G' (fun o=>has O' o=true) s vs/\Objs own w G' O'/\(∀o c,look O' o=some (.box c)->c.men fun o=>has O' o=true)/\∀o,has O' o=true->(∃j,i+1<=j/\pre [j] o=true)\/pre r o=true:=by
 obtain⟨a,O',hk',hag,he⟩:=Z4j hk;have hrr:∀o,pre r o=true->pre [i] o=true:=by
   intro o ho;obtain⟨c,rfl⟩:=pre_iff.1 hr;exact Z17 [i] c o ho
 obtain⟨a1,O1,G1,hk1,u⟩:=Z2a (P:=fun o=>has O o=true) (K:=fun a O'=>some (a,O')) (res:=(a,O')) hR h.objs h.box (fun o ho=>h.fresh o (hrr o ho)) (he _);simp only[Option.some.injEq,Prod.mk.injEq]at hk1;obtain⟨rfl,rfl⟩:=hk1;have hold:∀o,has O o=true->has O1 o=true:=fun o ho=>by rw[Zh (u.more.kept o ho)];exact ho
 have hGk:∀o,has O o=true->G1 o=G o:=fun o ho=>by
   refine(u.more.same o ?_).1;exact Bool.eq_false_iff.2 fun e=>h.fresh o (hrr o e) ho
 refine⟨a1,O1,G1,hk',hag,u.rep,u.ok,u.men,h.slots.keep hGk hold,u.objs,fun o c hc=>?_,fun o ho=>?_⟩
 . rcases u.box o c hc with h1|h1
   . exact(h.box o c h1).mono hold
   . exact h1.mono fun o ho=>ho.1
 . cases e:pre r o
   . left;rw[Zh (u.more.same o e).2]at ho;exact h.ids o ho
   . exact .inr rfl
theorem Z56:∀{ps:List (PM×Ty)}{l:(chain (Z23 ps)).den}{i:Nat}{vs:List Value}{K:List AV->Obs->Option ρ}{r:ρ}(G:Gs),ArgsR own w ps l i vs->inK ps l i K=some r->∃s O G',K s O=some r/\InR own w G' O i s vs
 |[],l,i,vs,K,r,G,ha,h=>⟨[],[],G,h,⟨ha,fun o b h=>(nomatch h),fun o c h=>(nomatch h),fun o h=>(nomatch h)⟩⟩
 | (.val,t)::ps,l,i,vs,K,r,G,ha,h=>by
   obtain⟨v,vs',rfl,⟨hp,cs,hv,hR⟩,ha⟩:=ha;simp only[inK]at h;obtain⟨_,h⟩:=Z0 h;obtain⟨s,O,G',h,hI⟩:=Z56 G ha h;refine⟨_,O,G',h,⟨v,vs',rfl,⟨cs,⟨hp,hR⟩,hv⟩,trivial,hI.slots⟩,hI.objs,hI.box,fun o ho=>?_⟩;obtain⟨j,hj,h1⟩:=hI.ids o ho;exact⟨j,by omega,h1⟩
 | (.mov,t)::ps,l,i,vs,K,r,G,ha,h=>by
   obtain⟨v,vs',rfl,⟨cs,hv,hR⟩,ha⟩:=ha;simp only[inK]at h;obtain⟨s,O,G1,h,hI⟩:=Z56 G ha h;obtain⟨a,O',G',h,hag,hac,hok,hmen,hsl,hob,hbx,hid⟩:=hI.unp (Zn [i]) hR h;refine⟨_,O',G',h,⟨v,vs',rfl,AVv.of hac (by rw[hag];exact hv),hmen.mono fun _ h=>h.1,hsl⟩,hob,hbx,fun o ho=>?_⟩;rcases hid o ho with⟨j,hj,h1⟩|h1
   . exact⟨j,by omega,h1⟩
   . exact⟨i,Nat.le_refl _,h1⟩
 | (.lendv,t)::ps,l,i,vs,K,r,G,ha,h=>by
   obtain⟨v,vs',rfl,⟨cs,hv,hR⟩,ha⟩:=ha;simp only[inK]at h;obtain⟨s,O,G1,h,hI⟩:=Z56 G ha h;obtain⟨a,O',G',h,hag,hac,hok,hmen,hsl,hob,hbx,hid⟩:=hI.unp (Zn [i]) hR h;refine⟨_,O',G',h,⟨v,vs',rfl,AVv.of hac (by rw[hag];exact hv),hmen.mono fun _ h=>h.1,hsl⟩,hob,hbx,fun o ho=>?_⟩;rcases hid o ho with⟨j,hj,h1⟩|h1
   . exact⟨j,by omega,h1⟩
   . exact⟨i,Nat.le_refl _,h1⟩
 | (.lend,t)::ps,l,i,vs,K,r,G,ha,h=>by
   obtain⟨v,vs',rfl,⟨g,cur,T,rfl,hg,hw,hR⟩,ha⟩:=ha;simp only[inK]at h;obtain⟨s,O,G1,h,hI⟩:=Z56 G ha h;obtain⟨a,O',G',h,hag,hac,hok,hmen,hsl,hob,hbx,hid⟩:=hI.unp (r:=[i,3]) (pre_iff.2 ⟨[3],rfl⟩) hR h;obtain⟨hn,h⟩:=Zb h;have hne:∀o,has O' o=true->o≠[i]:=by rintro o ho rfl;rw[hn]at ho;cases ho
   have hGk:∀o,has O' o=true->gput G' [i] ⟨.pointer (some ⟨g,0,none⟩),0,false⟩ o=G' o:=fun o ho=>Z26 _ _ (hne o ho)
   have hnew:∀o,has O' o=true->has (([i],Ob.box a)::O') o=true:=fun o ho=>(Zp _ _ _ _).2 (.inr ho)
   refine⟨_,_,gput G' [i] ⟨.pointer (some ⟨g,0,none⟩),0,false⟩,h,⟨_,vs',rfl,⟨_,⟨g,by rw[Z7],rfl⟩,rfl⟩,(Zp _ _ _ _).2 (.inl rfl),hsl.keep hGk hnew⟩,?_,fun o c hc=>?_,fun o ho=>?_⟩
   . refine hob.new (P:=fun o=>has O' o=true) hbx hn (by rw[hn];simp) ⟨⟨by rw[Z7],hok⟩,g,cur,T,by rw[Z7],hg,hw,?_⟩;exact AVc.keepOk (P:=fun o=>has O' o=true/\pre [i,3] o=true) (Sealed.refl _ _) (fun o ho=>hGk o ho.1) hok hmen hac
   . rw[Z9]at hc;split at hc
     . cases hc;exact hmen.mono fun o ho=>hnew o ho.1
     . exact(hbx o c hc).mono hnew
   . rcases(Zp _ _ _ _).1 ho with rfl|ho
     . exact⟨i,Nat.le_refl _,Zn _⟩
     . rcases hid o ho with⟨j,hj,h1⟩|h1
       . exact⟨j,by omega,h1⟩
       . exact⟨i,Nat.le_refl _,Z17 [i] [3] o h1⟩
end Go.Pv
namespace Go.Pv
open Go Go.Great
variable {own own' own1 own2:Own}{w w' w1 w2:World}{G G' G1 G2:Gs}{ρ:Type}{E:Env}[Base]
def Z43(own:Own)(w:World)(own1:Own)(R:Id->List Nat->Option Lb):Prop:=Sealed own w own1 w/\∀g o s m,own g=.ob o s->R o s=some m->own1 g=m
structure Form (own:Own) (w:World) (F:Id->Prop) (U:Ty) (y:U.den) (cs:List Value) where
 rel:Pos->Id->List Nat->Option Lb
 sub:∀q o s m,rel q o s=some m->F o/\∃i t,m=.ob i t
 rep:∀q own1,Z43 own w own1 (rel q)->Rep own1 w U y q cs
theorem Z9a:∀{a:AV}{q:Pos}{o:Id}{s:List Nat}{m:Lb},a.rel q o s=some m->∃i t,m=.ob i t
 | .ref b,q,o,s,m,h=>by
   simp only[AV.rel]at h;split at h
   . cases h;exact⟨_,_,rfl⟩
   . cases h
 | .pr a b,q,o,s,m,h=>by
   simp only[AV.rel]at h;split at h
   . rename_i m' h1;cases h;exact Z9a h1
   . exact Z9a h
 |.v _ _,_,_,_,_,h=>by cases h
 |.hole _,_,_,_,_,h=>by cases h
 |.dead,_,_,_,_,h=>by cases h
 |.tn,_,_,_,_,h=>by cases h
 |.tp _ _,_,_,_,_,h=>by cases h
 | .hs _ 0 _,q,o,s,m,h=>by
   simp only[AV.rel]at h;split at h
   . cases h;exact⟨_,_,rfl⟩
   . cases h
 |.hs _ (_+1) _,_,_,_,_,h=>by simp only[AV.rel]at h;cases h
 |.p _ _ _,_,_,_,_,h=>by cases h
 |.e _ _ _ _,_,_,_,_,h=>by cases h
 |.s _ _ _,_,_,_,_,h=>by cases h
 |.ap _ _,_,_,_,_,h=>by cases h
 |.cl _ _,_,_,_,_,h=>by cases h
theorem Sl.any(h:∀g i s,own g=.ob i s->own' g=.sh/\w'.heap[g]?=w.heap[g]?):∀{t:Ty}{p:Pos},Sl own w own' w' t p
 |.int _,_=>trivial
 |.bool,_=>trivial
 |.str,_=>trivial
 |.unit,_=>trivial
 |.slc _,_=>trivial
 |.sptr _,_=>trivial
 |.hole _,_=>trivial
 |.arr _ _,_=>trivial
 |.nilp,_=>trivial
 |.fo,_=>trivial
 |.hdr,_=>trivial
 |.clo _ _,_=>trivial
 |.mp _ _ _,_=>trivial
 |.pair _ _,_=>⟨Sl.any h,Sl.any h⟩
 |.own _ _,_=>⟨fun g hg=>h g _ _ hg,fun _=>Sl.any h⟩
 |.bx _,_=>⟨fun g hg=>h g _ _ hg,Sl.any h⟩
theorem Zfm {xs:List Ty.nd.den}{q:Pos}{cs:List Value}(h:Rep own w (.slc Ty.nd) xs q cs):Rep own w .fo (List.map trI xs) q cs:=by
 simp only[Rep]at h;obtain⟨_,B,c,rfl,hc,hm,hel⟩:=h;have key:∀i:Nat,∃p:Value×Value,∀y:Ty.nd.den,xs[i]?=some y->(Lit.int .i64 y.1).wf=true/\(∃A,B=some A/\own A.block=.sh/\CellsAt w (A.add (i*3)) [.int .i64 y.1,p.1,p.2])/\FoR own w y.2.1 p.1/\FoR own w y.2.2.1 p.2:=by
   intro i;cases e:xs[i]? with
   |none=>exact⟨(.bool true,.bool true),fun y hy=>by cases hy⟩
   | some y=>
     obtain⟨A,ys,hB,hA,hys,c1,c2,rfl,⟨rfl,hwf⟩,d1,d2,rfl,⟨vb,rfl,hb⟩,e1,e2,rfl,⟨vo,rfl,ho⟩,rfl⟩:=hel i y e;exact⟨(vb,vo),fun y' hy=>by cases hy;exact⟨hwf,⟨A,hB,hA,hys⟩,hb,ho⟩⟩
 obtain⟨f,hf⟩:=Classical.axiomOfChoice key;have hget:∀(i:Nat)(z:Tr),(List.map trI xs)[i]?=some z->∃y:Ty.nd.den,xs[i]?=some y/\z=trI y:=by
   intro i z hz;rw[List.getElem?_map]at hz;obtain⟨y,hy,rfl⟩:=Option.map_eq_some_iff.1 hz;exact⟨y,hy,rfl⟩
 refine⟨_,rfl,?_⟩;have hl:xs.length=(List.map trI xs).length:=by simp
 rw[hl];refine .mk _ B c (fun i=>(f i).1) (fun i=>(f i).2) (by rw[<-hl];exact hc) hm (fun i z hz=>?_) (fun i z hz=>?_) (fun i z hz=>?_) (fun i z hz=>?_)
 . obtain⟨y,hy,rfl⟩:=hget i z hz;exact(hf i y hy).1
 . obtain⟨y,hy,rfl⟩:=hget i z hz;exact(hf i y hy).2.1
 . obtain⟨y,hy,rfl⟩:=hget i z hz;exact(hf i y hy).2.2.1
 . obtain⟨y,hy,rfl⟩:=hget i z hz;exact(hf i y hy).2.2.2
open Classical in
theorem Zew {F:Id->Prop}{U:Ty}{y:U.den}{cs:List Value}(f:Form own w F U y cs)(hp:U.sh.plain=true)(q:Pos):∃R:Id->List Nat->Option Lb,(∀o s m,R o s=some m->F o)/\∀own1,Z43 own w own1 R->Rep own1 w U.sh (toSh U y) q cs:=by
 refine⟨fun o s=>if F o then some .sh else none,fun o s m hm=>?_,fun own1 ho=>?_⟩
 . dsimp only at hm;split at hm
   . assumption
   . cases hm
 . let ownA:Own:=fun g=>match own g with
     |.ob o s=>(match f.rel ⟨[],[],true⟩ o s with|some m=>m|none=>.out)
     |l=>l
   have hA:Rep ownA w U y ⟨[],[],true⟩ cs:=f.rep _ _ ⟨fun g hg=>⟨by simp only[ownA,hg],rfl⟩,fun g o s m hg hm=>by simp only[ownA,hg,hm]⟩;refine Rep.sealUp (own:=ownA) (w:=w) (fun g hg=>?_) q hp (Sl.any fun g i s hg=>?_) hA
   . have:own g=.sh:=by
       simp only[ownA]at hg;split at hg
       . split at hg
         . rename_i o s _ m hm;obtain⟨_,i,t,rfl⟩:=f.sub _ _ _ _ hm;cases hg
         . cases hg
       . exact hg
     exact ho.1 g this
   . refine⟨?_,rfl⟩;simp only[ownA]at hg;split at hg
     . rename_i o s' hg0;split at hg
       . rename_i m hm;exact ho.2 g o s' .sh hg0 (if_pos (f.sub _ _ _ _ hm).1)
       . cases hg
     . rename_i hne;exact(hne i s hg).elim
theorem Zal {F:Id->Prop}{U t:Ty}{y:U.den}{cs:List Value}{K:t.den->Option ρ}{r:ρ}(f:Form own w F U y cs)(h:fitK U t y K=some r):
   ∃x,K x=some r/\t.agg=U.agg/\∀q,∃R:Id->List Nat->Option Lb,(∀o s m,R o s=some m->F o)/\∀own1,Z43 own w own1 R->Rep own1 w t x q cs:=by
 unfold fitK at h;split at h
 . rename_i e;subst e;exact⟨_,h,rfl,fun q=>⟨f.rel q,fun o s m hm=>(f.sub q o s m hm).1,fun own1 ho=>f.rep q own1 ho⟩⟩
 . unfold foK at h;split at h
   . rename_i tid xs K' hh;refine⟨_,h,rfl,fun q=>?_⟩;obtain⟨R,h1,h2⟩:=Zew f rfl q;refine⟨R,h1,fun own1 ho=>?_⟩;have h3:Rep own1 w (.slc Ty.nd) xs q cs:=by
       have h4:=h2 own1 ho;have h5:toSh (.own tid Ty.nd) xs=xs:=eq_of_heq (Z3z xs);have h6:Rep own1 w (.slc Ty.nd) (toSh (.own tid Ty.nd) xs) q cs:=h4;rw[h5]at h6;exact h6
     exact Zfm h3
   . obtain⟨hp,h⟩:=Z0 h;obtain⟨e,h⟩:=Z3 h;subst e;exact⟨_,h,Zgp U,fun q=>Zew f hp q⟩
theorem Zbw {a:AV}{cs:List Value}{O:Obs}{K:(t:Ty)->t.den->Obs->Option ρ}{r:ρ}(hc:AVc own w G a cs)(hO:Objs own w G O)(h:pkK a O K=some r):
   ∃u y O1,K u y O1=some r/\u.agg=a.agg/\SubO O1 O/\(∀o,a.rf o->has O o=true/\has O1 o=false)/\a.dis/\∃f:Form own w a.rf u y cs,f.rel=a.rel:=by
 obtain⟨u,y,O1,hk,hag,_,he⟩:=Z65 h;obtain⟨u2,y2,O2,hk2,hlf,hs,hr,he2⟩:=Z5n (K:=fun u y O1=>some (⟨⟨u,y⟩,O1⟩:(Σ u:Ty,u.den)×Obs)) (r:=⟨⟨u,y⟩,O1⟩) (he _);simp only[Option.some.injEq,Prod.mk.injEq,Sigma.mk.injEq]at hk2;obtain⟨⟨rfl,hyy⟩,rfl⟩:=hk2;cases hyy;obtain⟨u3,y3,O3,hk3,_,hdis,hrep⟩:=Z2j (K:=fun u y O1=>some (⟨⟨u,y⟩,O1⟩:(Σ u:Ty,u.den)×Obs)) (r:=⟨⟨u2,y2⟩,O2⟩) hc hO (he _);simp only[Option.some.injEq,Prod.mk.injEq,Sigma.mk.injEq]at hk3;obtain⟨⟨rfl,hyy⟩,rfl⟩:=hk3;cases hyy;exact⟨_,_,_,hk,hag,hs,hr,hdis,⟨a.rel,fun q o s m hm=>⟨AV.rel_rf hm,Z9a hm⟩,fun q own1 ho=>hrep ho.1 (Mvs.of hdis fun g i s l hg hl=>⟨ho.2 g i s l hg hl,rfl⟩)⟩,rfl⟩
open Classical in
theorem Zfn {t :Ty}{a:AV}{v:Value}{O:Obs}{K:t.den->Obs->Option ρ}{r:ρ}(ha:AVv own w G a v)(hO:Objs own w G O)(h:outV t a O K=some r):
   ∃x O',K x O'=some r/\SubO O' O/\∀q:Pos,q.top=true->∃R:Id->List Nat->Option Lb,(∀o s m,R o s=some m->has O o=true/\has O' o=false)/\∀own1,Z43 own w own1 R->∃cs,IsVal t.agg cs v/\Rep own1 w t x q cs:=by
 by_cases h1:∃o lo n,a=.hs o lo n
 . obtain ⟨o,lo,n,rfl⟩:=h1;simp only[outV]at h;split at h
   . rename_i tid e xs hl;obtain⟨hlen,h⟩:=Zk h;rw[Z4]at h;obtain⟨cs,hc,hv⟩:=ha.cells rfl;rcases Z8 h with⟨ho,h⟩|⟨ho,h⟩
     . obtain⟨h0,h⟩:=Z0 h;obtain⟨e1,h⟩:=Z3 h;subst e1;refine⟨_,_,h,.drop _ _,fun q hq=>⟨fun o' s=>if o'=o then some (.ob q.id (q.sub++s))else none,fun o' s m hm=>?_,fun own1 hob=>⟨cs,hv,?_⟩⟩⟩
       . dsimp only at hm;split at hm
         . rename_i e;subst e;exact⟨Z1 hl,Z1c _ _⟩
         . cases hm
       . obtain⟨B,m,c,B',c',hgv,rfl,hle,hn,hm,h00,_⟩:=hc;obtain⟨rfl,rfl⟩:=h00 (Z2 h0);obtain⟨_,_,hr⟩:=hO o _ hl;have hR:=Rep.move hob.1 (Mv.ob (p:=q) fun g s hg=>⟨hob.2 g o s _ hg (if_pos rfl),rfl⟩) hr;rw[hgv]at hR;have hb:=Z2 h0;have hle':n<=xs.length:=by
           have:=of_decide_eq_true hlen;omega
         simp only[Rep,List.cons.injEq,and_true,Value.slice.injEq]at hR⊢;have e0:(cast rfl (xs.take n):List e.den)=xs.take n:=rfl;rw[show cast (congrArg Ty.den (rfl:Ty.own tid e=Ty.own tid e)) (xs.take n)=xs.take n from rfl];rcases hR with⟨⟨rfl,rfl,rfl⟩,hx⟩|⟨g,cap,cur,⟨rfl,rfl,rfl⟩,hg,hw,hc1,hc2,hc3,he⟩
         . have:n=0:=by omega
           subst this;exact .inl ⟨⟨rfl,rfl,rfl⟩,by simp⟩
         . refine .inr ⟨g,c',cur,⟨rfl,by rw[List.length_take];omega,rfl⟩,hg,hw,by rw[List.length_take];omega,hc2,hc3,fun i y hy=>he i y ?_⟩;rw[List.getElem?_take]at hy;split at hy
           . exact hy
           . cases hy
     . obtain⟨hp,h⟩:=Z0 h;obtain⟨e1,h⟩:=Z3 h;subst e1;have hO1:Objs own w G [(o,.list tid e xs)]:=by
         intro o' b hb;rw[Z9]at hb;split at hb
         . rename_i e2;subst e2;cases hb;exact hO _ _ hl
         . cases hb
       refine⟨_,_,h,.drop _ _,fun q hq=>⟨fun o' s=>if o'=o then some .sh else none,fun o' s m hm=>?_,fun own1 hob=>⟨cs,hv,?_⟩⟩⟩
       . dsimp only at hm;split at hm
         . rename_i e;subst e;exact⟨Z1 hl,Z1c _ _⟩
         . cases hm
       . have hl1:look [(o,Ob.list tid e xs)] o=some (.list tid e xs):=by rw[Z9,if_pos rfl]
         obtain⟨u,y,c,hk,hrep⟩:=vwK_some (k:=1) (K:=fun u y c=>some (⟨u,y⟩:Σ u:Ty,u.den)) (r:=⟨(Ty.slc e).sh,toSh (.slc e) ((xs.drop lo).take n)⟩) hc hO1 (by simp only[vwK,hl1]);simp only[Option.some.injEq,Sigma.mk.injEq]at hk;obtain⟨rfl,hyy⟩:=hk;cases hyy;refine hrep hob.1 (fun _ g o' s hg ho'=>⟨?_,rfl⟩) hp;rcases(Zp _ _ _ _).1 ho' with rfl|h3
         . exact hob.2 g _ s .sh hg (if_pos rfl)
         . cases h3
   . cases h
 . by_cases h2 :∃o,a=.p o [] 0
   . obtain ⟨o,rfl⟩:=h2;simp only[outV]at h;split at h
     . rename_i c hl;rw[Z4]at h;obtain⟨hn,g0,cur,T,hgv,hown,hheap,hcc⟩:=hO o _ hl;obtain⟨g1,hgv',hcell⟩:=ha.one rfl rfl;rw[hgv]at hgv';cases hgv';simp only[List.cons.injEq,and_true]at hcell;subst hcell;have hO1:Objs own w G (Z16 O o):=fun o' b hb=>hO o' b (SubO.drop O o o' b hb)
       obtain⟨u,y,O2,h,hag,hs,hr,hdis,f,hf⟩:=Zbw hcc hO1 h;have hne:∀x,c.rf x->x≠o:=by
         rintro x hx rfl;have h3:=(hr x hx).1;rw[Z1c]at h3;cases h3
       let fB :Form own w (fun x=>x=o\/c.rf x) (.bx u) y [.pointer (some ⟨g0,0,none⟩)]:=
         { rel :=fun q x s=>if x=o then(if s=[]then some q.lb else none)else f.rel (q.go 2) x s
           sub :=fun q x s m hm=>by
             split at hm
             . rename_i e;split at hm
               . cases hm;exact⟨.inl e,_,_,rfl⟩
               . cases hm
             . obtain⟨h1,h2⟩:=f.sub _ _ _ _ hm;exact⟨.inr h1,h2⟩
           rep:=fun q own1 hob=>⟨g0,cur,T,rfl,hob.2 g0 o [] _ hown (by dsimp only;rw[if_pos rfl,if_pos rfl]),hheap,f.rep _ _ ⟨hob.1,fun g x s m hg hm=>hob.2 g x s m hg (by
             have:=(f.sub _ _ _ _ hm).1;dsimp only;rw[if_neg (hne x this)];exact hm)⟩⟩}
       obtain⟨x,h,hta,hx⟩:=Zal fB h;refine⟨x,O2,h,hs.trans (.drop _ _),fun q hq=>?_⟩;obtain⟨R,hR1,hR2⟩:=hx q;refine⟨R,fun x s m hm=>?_,fun own1 hob=>⟨_,by rw[hta];rfl,hR2 own1 hob⟩⟩;rcases hR1 x s m hm with rfl|h3
       . exact⟨Z1 hl,hs.no (Z1c _ _)⟩
       . exact⟨(SubO.drop _ _).has (hr x h3).1,(hr x h3).2⟩
     . cases h
   . have h':(pkK a O fun u y O1=>fitK u t y fun z=>K z O1)=some r:=by
       cases a with
       |hs o lo n=>exact(h1 ⟨o,lo,n,rfl⟩).elim
       | p o fp off=>
         cases fp with
         | nil=>
           cases off with
           |zero=>exact(h2 ⟨o,rfl⟩).elim
           |succ n=>exact h
         |cons b fp=>exact h
       | _=>exact h
     obtain⟨_,_,_,_,_,hcel,_⟩:=Z65 h';obtain⟨cs,hc,hv⟩:=ha.cells hcel;obtain⟨u,y,O1,h,hag,hs,hr,hdis,f,hf⟩:=Zbw hc hO h';obtain⟨x,h,hta,hx⟩:=Zal f h;refine⟨x,O1,h,hs,fun q hq=>?_⟩;obtain⟨R,hR1,hR2⟩:=hx q;exact⟨R,fun x s m hm=>hr x (hR1 x s m hm),fun own1 hob=>⟨cs,by rw[hta,hag];exact hv,hR2 own1 hob⟩⟩
end Go.Pv
namespace Go.Pv
open Go Go.Great
def PM.isLend:PM->Bool
 |.lend=>true
 |.lendv=>true
 | _=>false
variable {own own' own1 own2:Own}{w w' w1 w2:World}{G G' G1 G2:Gs}{ρ:Type}{E:Env}[Base]
def Z9b(tm:Array Value):ResultVar->Sem Value
 |.tmp t=>pure (tm.getD t undef)
 |.cell a t=>do loadVar t (<-asAddr (tm.getD a undef))
def RunRV(P:Program)(w:World)(tm:Array Value):List ResultVar->List Value->Prop
 |[],us=>us=[]
 |rv::l,us=>∃u us',us=u::us'/\(Z9b tm rv).run P w=.ok u w/\RunRV P w tm l us'
theorem RunRV.mapM {P:Program}{tm:Array Value}:∀{l:List ResultVar}{us:List Value},RunRV P w tm l us->(l.mapM (Z9b tm)).run P w=.ok us w
 | [],_,h=>by
   cases(show _=[]from h);simp[Sem.run_pure]
 | rv::l,_,h=>by
   obtain⟨u,us',rfl,h1,h2⟩:=h;simp only[List.mapM_cons,Sem.run_bind,h1,Result.andThen_ok,RunRV.mapM h2,Sem.run_pure]
theorem Z36 {R1 R2:Id->List Nat->Option Lb}(hd:∀o s m,R2 o s=some m->∀s' m',R1 o s'≠some m')(h:Z43 own w own1 fun o s=>match R1 o s with|some m=>some m|none=>R2 o s):Z43 own w own1 R1/\Z43 own w own1 R2:=by
 refine⟨⟨h.1,fun g o s m hg hm=>h.2 g o s m hg (by dsimp only;rw[hm])⟩,⟨h.1,fun g o s m hg hm=>h.2 g o s m hg ?_⟩⟩;dsimp only;cases e:R1 o s with
 |none=>exact hm
 |some m'=>exact(hd o s m hm s m' e).elim
def Uses(O O':Obs)(R:Id->List Nat->Option Lb):Prop:=∀o s m,R o s=some m->has O o=true/\has O' o=false
theorem Uses.join {O O1 O2:Obs}{R1 R2:Id->List Nat->Option Lb}(h1:Uses O O1 R1)(h2:Uses O1 O2 R2)(hs1:SubO O1 O)(hs2:SubO O2 O1):
   Uses O O2 (fun o s=>match R1 o s with|some m=>some m|none=>R2 o s)/\∀o s m,R2 o s=some m->∀s' m',R1 o s'≠some m':=by
 refine⟨fun o s m hm=>?_,fun o s m hm s' m' hm'=>?_⟩
 . dsimp only at hm;split at hm
   . rename_i m' hm';have:=h1 o s m' hm';exact⟨this.1,hs2.no this.2⟩
   . have:=h2 o s m hm;exact⟨hs1.has this.1,this.2⟩
 . have a:=(h1 o s' m' hm').2;have b:=(h2 o s m hm).1;rw[a]at b;cases b
theorem Z9c(hE:EnvOk E){s:List AV}{tm:Array Value}(hs:∀i a,nth s i=some a->AVv own w G a (tm.getD i undef)):∀{rs:List Ty}{rvs:List ResultVar}{O:Obs}{K:(chain rs).den->Obs->Option ρ}{r:ρ},Objs own w G O->Z6e E s rs rvs O K=some r->
   ∃xs O' us,K xs O'=some r/\SubO O' O/\us.length=rs.length/\RunRV E.P w tm rvs us/\∀k,∃R,Uses O O' R/\∀own1,Z43 own w own1 R->ResR own1 w rs xs k us
 |[],[],O,K,r,hO,h=>⟨(),O,[],h,.refl _,rfl,rfl,fun k=>⟨fun _ _=>none,fun _ _ _ h=>(nomatch h),fun _ _=>rfl⟩⟩
 | t :: rs,rv::l,O,K,r,hO,h=>by
   have main:∀{a:AV}{u:Value},(Z9b tm rv).run E.P w=.ok u w->AVv own w G a u->(outV t a O fun x O1=>Z6e E s rs l O1 fun xs O2=>K (x,xs) O2)=some r->
       ∃xs O' us,K xs O'=some r/\SubO O' O/\us.length=(t::rs).length/\RunRV E.P w tm (rv::l) us/\∀k,∃R,Uses O O' R/\∀own1,Z43 own w own1 R->ResR own1 w (t::rs) xs k us:=by
     intro a u hrun ha h;obtain⟨x,O1,h,hs1,hx⟩:=Zfn ha hO h;have hO1:Objs own w G O1:=fun o b hb=>hO o b (hs1 o b hb)
     obtain⟨xs,O2,us,h,hs2,hl,hr,hk⟩:=Z9c hE hs hO1 h;refine⟨_,O2,u::us,h,hs2.trans hs1,by simp[hl],⟨u,us,rfl,hrun,hr⟩,fun k=>?_⟩;obtain⟨R1,hu1,hv1⟩:=hx ⟨[k],[],true⟩ rfl;obtain⟨R2,hu2,hv2⟩:=hk (k+1);obtain⟨hj,hd⟩:=Uses.join hu1 hu2 hs1 hs2;refine⟨_,hj,fun own1 hob=>?_⟩;obtain⟨h1,h2⟩:=Z36 hd hob;exact⟨u,us,rfl,hv1 own1 h1,hv2 own1 h2⟩
   cases rv with
   | tmp i=>
     simp only[Z6e]at h;split at h
     . rename_i a ha;exact main (by simp[Z9b,Sem.run_pure]) (hs i a ha) h
     . cases h
   | cell i T=>
     simp only[Z6e]at h;split at h
     . rename_i o ha;split at h
       . rename_i a hl;obtain⟨j,hj,h⟩:=Z5 h;obtain⟨hc,h⟩:=Z0 h;have hc2:∀x y:Bool,nif x y false=true->x=true/\y=true:=by decide
         obtain⟨hc1,hc2⟩:=hc2 _ _ hc;have hJ:=hE.ti T j hj;obtain⟨hn,g,cur,T',hgv,hown,hheap,hcc⟩:=hO o _ hl;obtain⟨g1,hgv',hcell⟩:=(hs i _ ha).one rfl rfl;rw[hgv]at hgv';cases hgv';simp only[List.cons.injEq,and_true]at hcell;have hcs:CellsAt w ⟨g,0,none⟩ cur.toList:=fun k u hk=>by
           rw[cell_row hheap];simpa using hk
         obtain⟨v,hv1,hv2⟩:=Z10 (P:=E.P) hJ hcs (by rw[hcc.length];exact Z2 hc1);refine main (u:=v) ?_ (AVv.of hcc (by rw[eq_of_beq hc2];exact hv2)) h;simp only[Z9b,hcell,Sem.run_bind];simp only[asAddr,Sem.run_pure,Result.andThen_ok,hv1]
       . cases h
     . cases h
 |[],_::_,_,_,_,_,h=>by cases h
 | _::_,[],_,_,_,_,h=>by cases h
theorem Ze3 {own0:Own}{w0:World}(hsl:Sealed own0 w0 own w):∀{t:Ty}{x:t.den}{a:AV}{cs:List Value}{p:Pos}{O:Obs}{K:t.den->Obs->Option ρ}{r:ρ},Rep own0 w0 t x p cs->(a.agg=t.agg->a.cel=true->AVc own w G a cs)->Objs own w G O->Za5 t x a O K=some r->
   ∃y O',K y O'=some r/\SubO O' O/\∀q:Pos,q.top=true->∃R,Uses O O' R/\∀own1,Z43 own w own1 R->Rep own1 w t y q cs:=by
 have plain:∀{t:Ty}{x:t.den}{cs:List Value}{p:Pos}{O:Obs}{K:t.den->Obs->Option ρ}{r:ρ},Rep own0 w0 t x p cs->nif t.plain (K x O) none=some r->
     ∃y O',K y O'=some r/\SubO O' O/\∀q:Pos,q.top=true->∃R,Uses O O' R/\∀own1,Z43 own w own1 R->Rep own1 w t y q cs:=by
   intro t x cs p O K r hR h;obtain⟨hp,h⟩:=Z0 h;exact⟨x,O,h,.refl _,fun q _=>⟨fun _ _=>none,fun _ _ _ h=>(nomatch h),fun own1 hob=>Rep.plain (fun g hg=>⟨(hob.1 g (hsl g hg).1).1,(hsl g hg).2⟩) q hp hR⟩⟩
 intro t
 induction t with
 | pair t1 t2 ih1 ih2=>
   intro x a cs p O K r hR ha hO h;by_cases hpr:∃c d,a=.pr c d
   . obtain⟨c,d,rfl⟩:=hpr;simp only[Za5]at h;obtain⟨hsz,h⟩:=Z0 h;obtain⟨c1,c2,rfl,hc1,hc2⟩:=ha rfl rfl;obtain⟨d1,d2,he,hR1,hR2⟩:=hR;have hlen:c1.length=d1.length:=by rw[hc1.length,hR1.length,Z2 hsz]
     obtain⟨rfl,rfl⟩:=List.append_inj he hlen;obtain⟨y,O1,h,hs1,hq1⟩:=ih1 hR1 (fun _ _=>hc1) hO h;obtain⟨z,O2,h,hs2,hq2⟩:=ih2 hR2 (fun _ _=>hc2) (fun o b hb=>hO o b (hs1 o b hb)) h;refine⟨_,O2,h,hs2.trans hs1,fun q hq=>?_⟩;obtain⟨R1,hu1,hv1⟩:=hq1 (q.go 0) (by simp[Pos.go,hq]);obtain⟨R2,hu2,hv2⟩:=hq2 (q.go 1) (by simp[Pos.go,hq]);obtain⟨hj,hd⟩:=Uses.join hu1 hu2 hs1 hs2;refine⟨_,hj,fun own1 hob=>?_⟩;obtain⟨h1,h2⟩:=Z36 hd hob;exact⟨c1,c2,rfl,hv1 own1 h1,hv2 own1 h2⟩
   . refine plain hR ?_;cases a with
     |pr c d=>exact(hpr ⟨c,d,rfl⟩).elim
     | _=>exact h
 | own tid e _=>
   intro x a cs p O K r hR ha hO h;by_cases hrf:∃o,a=.ref o
   . obtain⟨o,rfl⟩:=hrf;simp only[Za5]at h;split at h
     . rename_i tid' e' ys hl;obtain⟨ht,hk1⟩:=Z0 h;obtain⟨e1,hk2⟩:=Z3 hk1;clear h hk1;rw[Z4]at hk2;cases e1;cases Z2 ht;obtain⟨rfl,_⟩:=ha rfl rfl;obtain⟨_,_,hr⟩:=hO o _ hl;refine⟨_,_,hk2,.drop _ _,fun q hq=>⟨fun o' s=>if o'=o then some (.ob q.id (q.sub++s))else none,fun o' s m hm=>?_,fun own1 hob=>?_⟩⟩
       . dsimp only at hm;split at hm
         . rename_i e;subst e;exact⟨Z1 hl,Z1c _ _⟩
         . cases hm
       . exact Rep.move hob.1 (Mv.ob (p:=q) fun g s hg=>⟨hob.2 g o s _ hg (if_pos rfl),rfl⟩) hr
     . cases h
   . refine plain hR ?_;cases a with
     |ref o=>exact(hrf ⟨o,rfl⟩).elim
     | _=>exact h
 | hole n=>
   intro x a cs p O K r hR ha hO h;have h:K x O=some r:=by cases a<;>exact h
   exact⟨x,O,h,.refl _,fun q _=>⟨fun _ _=>none,fun _ _ _ h=>(nomatch h),fun own1 hob=>hR⟩⟩
 |int k=>intro x a cs p O K r hR ha hO h;exact plain hR (by cases a<;>exact h)
 |bool=>intro x a cs p O K r hR ha hO h;exact plain hR (by cases a<;>exact h)
 |str=>intro x a cs p O K r hR ha hO h;exact plain hR (by cases a<;>exact h)
 |unit=>intro x a cs p O K r hR ha hO h;exact plain hR (by cases a<;>exact h)
 |slc e _=>intro x a cs p O K r hR ha hO h;exact plain hR (by cases a<;>exact h)
 |sptr e _=>intro x a cs p O K r hR ha hO h;exact plain hR (by cases a<;>exact h)
 |bx e _=>intro x a cs p O K r hR ha hO h;exact plain hR (by cases a<;>exact h)
 |arr n e _=>intro x a cs p O K r hR ha hO h;exact plain hR (by cases a<;>exact h)
 |nilp=>intro x a cs p O K r hR ha hO h;exact plain hR (by cases a<;>exact h)
 |fo=>intro x a cs p O K r hR ha hO h;exact plain hR (by cases a<;>exact h)
 |hdr=>intro x a cs p O K r hR ha hO h;exact plain hR (by cases a<;>exact h)
 |clo f e _=>intro x a cs p O K r hR ha hO h;exact plain hR (by cases a<;>exact h)
 |mp tid k v _ _=>intro x a cs p O K r hR ha hO h;exact plain hR (by cases a<;>exact h)
def TmR(tm:Array Value):List (PM×Ty)->Nat->List Value->Prop
 |[],_,_=>True
 |(m,_)::ps,i,vs=>(m.isLend=true->∀v vs',vs=v::vs'->tm.getD i undef=v)/\TmR tm ps (i+1) vs.tail
theorem Z2p {own0:Own}{w0:World}(hsl:Sealed own0 w0 own w){s:List AV}{tm:Array Value}(hs:∀i a,nth s i=some a->AVv own w G a (tm.getD i undef)):∀{ps:List (PM×Ty)}{l:(chain (Z23 ps)).den}{i:Nat}{vs:List Value}{O:Obs}{K:(chain (Zo ps)).den->Option ρ}{r:ρ},ArgsR own0 w0 ps l i vs->TmR tm ps i vs->Objs own w G O->Z3s s ps l i O K=some r->
   ∃ls O' R,K ls=some r/\SubO O' O/\Uses O O' R/\∀own1,Z43 own w own1 R->LendsR own1 w ps ls i vs
 |[],l,i,vs,O,K,r,ha,ht,hO,h=>⟨(),O,fun _ _=>none,h,.refl _,fun _ _ _ h=>(nomatch h),fun _ _=>trivial⟩
 | (.val,t)::ps,l,i,vs,O,K,r,ha,ht,hO,h=>by
   obtain⟨v,vs',rfl,_,ha⟩:=ha;exact Z2p (ps:=ps) hsl hs ha ht.2 hO h
 | (.mov,t)::ps,l,i,vs,O,K,r,ha,ht,hO,h=>by
   obtain⟨v,vs',rfl,_,ha⟩:=ha;exact Z2p (ps:=ps) hsl hs ha ht.2 hO h
 | (.lend,t)::ps,l,i,vs,O,K,r,ha,ht,hO,h=>by
   obtain⟨v,vs',rfl,⟨g0,_,_,hv0,_⟩,ha⟩:=ha;have htm:=ht.1 rfl v vs' rfl;simp only[Z3s]at h;split at h
   . rename_i o hsl2;split at h
     . rename_i c hl;rw[Z4]at h;obtain⟨hn,g,cur,T,hgv,hown,hheap,hcc⟩:=hO o _ hl;obtain⟨g1,hgv',hcell⟩:=(hs i _ hsl2).one rfl rfl;rw[hgv]at hgv';cases hgv';simp only[List.cons.injEq,and_true]at hcell;rw[htm]at hcell;have hO1:Objs own w G (Z16 O o):=fun o' b hb=>hO o' b (SubO.drop O o o' b hb)
       obtain⟨u,y,O2,h,hag,hs2,hr,hdis,f,hf⟩:=Zbw hcc hO1 h;obtain⟨e1,h⟩:=Z3 h;subst e1;have hne:∀x,c.rf x->x≠o:=by
         rintro x hx rfl;have h3:=(hr x hx).1;rw[Z1c]at h3;cases h3
       obtain⟨ls,O3,R2,h,hs3,hu2,hL⟩:=Z2p (ps:=ps) hsl hs ha ht.2 (fun o b hb=>hO1 o b (hs2 o b hb)) h;have hs1:SubO O2 O:=hs2.trans (.drop _ _);have hu1:Uses O O2 fun x s=>if x=o then(if s=[]then some (.ob [i] [])else none)else f.rel ⟨[i,3],[],true⟩ x s:=by
         intro x s m hm;dsimp only at hm;split at hm
         . rename_i e;subst e;exact⟨Z1 hl,hs2.no (Z1c _ _)⟩
         . have:=(f.sub _ _ _ _ hm).1;exact⟨(SubO.drop _ _).has (hr x this).1,(hr x this).2⟩
       obtain⟨hj,hd⟩:=Uses.join hu1 hu2 hs1 hs3;refine⟨_,O3,_,h,hs3.trans hs1,hj,fun own1 hob=>?_⟩;obtain⟨h1,h2⟩:=Z36 hd hob;refine⟨v,vs',rfl,⟨g,cur,T,hcell,h1.2 g o [] _ hown (by dsimp only;rw[if_pos rfl,if_pos rfl]),hheap,?_⟩,hL own1 h2⟩;exact f.rep _ _ ⟨h1.1,fun g x s m hg hm=>h1.2 g x s m hg (by
         have:=(f.sub _ _ _ _ hm).1;dsimp only;rw[if_neg (hne x this)];exact hm)⟩
     . cases h
   . cases h
 | (.lendv,t)::ps,l,i,vs,O,K,r,ha,ht,hO,h=>by
   obtain⟨v,vs',rfl,⟨cs,hv,hR⟩,ha⟩:=ha;have htm:=ht.1 rfl v vs' rfl;simp only[Z3s]at h;split at h
   . rename_i a hsl2;have hav:=hs i a hsl2;rw[htm]at hav;obtain⟨y,O1,h,hs1,hq⟩:=Ze3 hsl hR (fun hag hcel=>by
       obtain⟨cs',hc',hv'⟩:=hav.cells hcel;rw[hag]at hv';cases hv'.inj hv;exact hc') hO h
     obtain⟨ls,O2,R2,h,hs2,hu2,hL⟩:=Z2p (ps:=ps) hsl hs ha ht.2 (fun o b hb=>hO o b (hs1 o b hb)) h;obtain⟨R1,hu1,hv1⟩:=hq ⟨[i],[],true⟩ rfl;obtain⟨hj,hd⟩:=Uses.join hu1 hu2 hs1 hs2;refine⟨_,O2,_,h,hs2.trans hs1,hj,fun own1 hob=>?_⟩;obtain⟨h1,h2⟩:=Z36 hd hob;exact⟨v,vs',rfl,⟨cs,hv,hv1 own1 h1⟩,hL own1 h2⟩
   . cases h
end Go.Pv
namespace Go.Pv
open Go Go.Great
variable {own own' own1 own2:Own}{w w' w1 w2:World}{G G' G1 G2:Gs}{ρ:Type}{E:Env}[Base]
theorem Zd5 {P:Program}{fn:Func}{tm:Array Value}{us:List Value}(h:RunRV P w tm fn.results.toList us):(results fn tm).run P w=.ok (retV us) w:=by
 have h1:(fn.results.mapM (Z9b tm)).run P w=.ok us.toArray w:=by
   rw[Array.mapM_eq_mapM_toList,map_eq_pure_bind,Sem.run_bind,h.mapM];simp only[Result.andThen_ok,Sem.run_pure]
 have h3:results fn tm=(fn.results.mapM (Z9b tm)>>=fun vs=>(pure (if h:vs.size=1 then vs[0]else .tuple vs):Sem Value)):=rfl;rw[h3,Sem.run_bind,h1];simp only[Result.andThen_ok,Sem.run_pure]
 match us with
 |[]=>rfl
 |[u]=>rfl
 |u::v::us=>simp[retV]
theorem TmR.put {tm:Array Value}{d:Option Nat}{v:Value}:∀{ps:List (PM×Ty)}{i:Nat}{vs:List Value}{act:Act},act.tmps=tm->frB d ps i=true->TmR tm ps i vs->TmR (act.put d v).tmps ps i vs
 |[],_,_,_,_,_,_=>trivial
 | (m, t)::ps,i,vs,act,ha,hf,h=>by
   simp only[frB]at hf;have hf2:∀x y:Bool,nif x false y=true->x=false/\y=true:=by decide
   obtain⟨h1,h2⟩:=hf2 _ _ hf;refine⟨fun hm v1 vs1 he=>?_,TmR.put ha h2 h.2⟩;rw[<-h.1 hm v1 vs1 he,<-ha];cases d with
   |none=>rfl
   | some j=>
     have hji:j≠i:=by
       rintro rfl;have h3:Nat.beq j j=false:=by cases m<;>first|exact h1|cases hm
       rw[Nat.beq_refl]at h3;cases h3
     simp[Act.put,Array.getD_eq_getD_getElem?,Array.getElem?_setIfInBounds_ne hji]
theorem Z4k {ps:List (PM×Ty)}{vs:List Value}:∀{c:Code},Z3t ps c=true->Stab (fun a=>a.defers=[]/\TmR a.tmps ps 0 vs) c
 | .region _ ops _,h=>fun o ho a v hD=>by
   simp only[Z3t,List.all_eq_true]at h;refine⟨by rw[<-hD.1];cases o.dst<;>rfl,TmR.put rfl (h o ho) hD.2⟩
 | .seq a b,h=>by
   have h2:∀x y:Bool,nif x y false=true->x=true/\y=true:=by decide
   obtain⟨h1,h2⟩:=h2 _ _ h;exact⟨Z4k h1,Z4k h2⟩
 | .cond _ a b,h=>by
   have h2:∀x y:Bool,nif x y false=true->x=true/\y=true:=by decide
   obtain⟨h1,h2⟩:=h2 _ _ h;exact⟨Z4k h1,Z4k h2⟩
 |.block _ c,h=>Z4k (c:=c) h
 |.loop c,h=>Z4k (c:=c) h
 |.skip,_=>trivial
 |.rangeFunc _ _ _ _,_=>trivial
 |.exit _,_=>trivial
 |.scope _,_=>trivial
 |.label _,_=>trivial
 |.goto _,_=>trivial
 |.ret,_=>trivial
 |.refuse _,_=>trivial
theorem ArgsR.len:∀{ps:List (PM×Ty)}{l:(chain (Z23 ps)).den}{i:Nat}{vs:List Value},ArgsR own w ps l i vs->vs.length=ps.length
 |[],_,_,_,h=>by cases(show _=[]from h);rfl
 | _::ps,_,_,_,h=>by
   obtain⟨v,vs',rfl,_,h⟩:=h;simp[ArgsR.len h]
theorem SlV.len {P:Id->Prop}:∀{s:List AV}{vs:List Value},SlV own w G P s vs->s.length=vs.length
 |[],_,h=>by cases(show _=[]from h);rfl
 | _::s,_,h=>by
   obtain⟨v,vs',rfl,_,_,h⟩:=h;simp[SlV.len h]
theorem SlV.get {P:Id->Prop}:∀{s:List AV}{vs:List Value},SlV own w G P s vs->∀(i:Nat)(a:AV),s[i]?=some a->∃v,vs[i]?=some v/\AVv own w G a v/\a.men P
 |[],_,h,i,a,ha=>by simp at ha
 | b::s,_,h,i,a,ha=>by
   obtain⟨v,vs',rfl,h1,h2,h3⟩:=h;cases i with
   |zero=>simp only[List.getElem?_cons_zero,Option.some.injEq]at ha;subst ha;exact⟨v,rfl,h1,h2⟩
   |succ i=>simpa using h3.get i a (by simpa using ha)
theorem Z8i {α:Type}(a:α):∀n:Nat,nrep a n=List.replicate n a
 |0=>rfl
 |n+1=>by simp only[nrep,Z8i a n,List.replicate_succ]
theorem Zam:∀{ps:List (PM×Ty)}{i:Nat}{vs:List Value}{tm:Array Value},(∀k v,vs[k]?=some v->tm.getD (i+k) undef=v)->TmR tm ps i vs
 |[],_,_,_,_=>trivial
 | (m,t)::ps,i,vs,tm,h=>by
   refine⟨fun _ v vs' he=>?_,Zam fun k v hk=>?_⟩
   . have:=h 0 v (by rw[he];rfl);simpa using this
   . have:=h (k+1) v (by cases vs with|nil=>simp at hk|cons a l=>simpa using hk);rw[<-this]
     congr 1
     omega
theorem Zhj (hE:EnvOk E){call:Z42}(hcall:Z1v E call){key k:Nat}(hdraw:Zbv E call key){s:Sg}(hs:E.sg key=some s):CallOk E.P (key % 100000) s (bodyK E call key k s):=by
 intro l r h own w vs hA hbd hB;unfold bodyK at h;obtain⟨sl,O,G0,h,hI⟩:=Z56 (fun _=>⟨undef,0,false⟩) hA h;unfold Env.ac at h;cases hfn:E.fn key with
 |none=>rw[hfn]at h;simp only[Z15]at h;cases h
 | some fn =>
   rw[hfn]at h;cases hb:fn.body with
   |none=>simp only[hb,Z15]at h;cases h
   | some c=>
     simp only[hb]at h;have hP:=hE.fnOk key fn hfn;refine calls_of_wp hP hb ?_;have hsz:vs.toArray.size=s.ps.length:=by simp[hA.len]
     have hlen:sl.length=s.ps.length:=by rw[hI.slots.len,hA.len]
     have hnt:E.nt key=fn.ntmps:=by simp only[Env.nt,hfn]
     have hrs:E.rs key=fn.results.toList:=by simp only[Env.rs,hfn]
     let act:Act:={tmps:=vs.toArray++Array.replicate (fn.ntmps-vs.toArray.size) undef,defers:=[]}
     have hS :SR own w G0 act.tmps ⟨sl++nrep AV.dead (Nat.sub (E.nt key) (nlen s.ps)),O⟩:=by
       refine⟨?_,fun i a ha=>?_,hI.objs,⟨fun a ha=>?_,hI.box⟩,hbd,hB⟩
       . show(sl++nrep AV.dead (Nat.sub (E.nt key) (nlen s.ps))).length=act.tmps.size
         simp only[Z8i,List.length_append,List.length_replicate,hlen,Z3h,hnt,act,Array.size_append,Array.size_replicate,hsz];rfl
       . rw [Z8f]at ha;rcases Nat.lt_or_ge i sl.length with hi|hi
         . rw[List.getElem?_append_left hi]at ha;obtain⟨v,hv,h1,h2⟩:=hI.slots.get i a ha;have:act.tmps.getD i undef=v:=by
             simp only[act];have hi2:i<vs.toArray.size:=by rw[hsz,<-hlen];exact hi
             rw[Array.getD_eq_getD_getElem?,Array.getElem?_append_left hi2];simp[hv]
           rw[this];exact h1
         . rw[List.getElem?_append_right hi,Z8i]at ha;have:=List.mem_of_getElem? ha;obtain⟨_,rfl⟩:=List.mem_replicate.1 this;trivial
       . rcases List.mem_append.1 ha with ha|ha
         . obtain⟨i,hi⟩:=List.getElem?_of_mem ha;obtain⟨v,_,_,h2⟩:=hI.slots.get i a hi;exact h2
         . rw[Z8i]at ha;obtain⟨_,rfl⟩:=List.mem_replicate.1 ha;trivial
     have hD:(fun a:Act=>a.defers=[]/\TmR a.tmps s.ps 0 vs) act:=by
       refine⟨rfl,Zam fun k v hk=>?_⟩;have hk2:k<vs.toArray.size:=by simpa using(List.getElem?_eq_some_iff.1 hk).1
       simp only[act,Nat.zero_add];rw[Array.getD_eq_getD_getElem?,Array.getElem?_append_left hk2];simp[hk]
     refine Z1i (c:=c) (D:=fun a=>a.defers=[]/\TmR a.tmps s.ps 0 vs) hE hcall hdraw (Z4k (hE.spare key s fn c hs hfn hb)) hD hS h ?_;intro ex σ2 own2 w2 G2 act2 h hS2 hk2 hD2;have fin:(Z6e E σ2.s s.rs (E.rs key) σ2.o fun r O=>Z3s σ2.s s.ps l 0 O fun ls=>some (r,ls))=some r->act2.defers=[]/\∃v,(results fn act2.tmps).run E.P w2=.ok v w2/\
         (∃us own',Ending.returned v=.returned (retV us)/\us.length=s.rs.length/\ResR own' w2 s.rs r.1 s.ps.length us/\LendsR own' w2 s.ps r.2 0 vs/\Keeps own own' w w2/\∀g,w2.heap.size<=g->own' g=.out):=by
       intro h;have hslot:∀i a,nth σ2.s i=some a->AVv own2 w2 G2 a (act2.tmps.getD i undef):=hS2.slot
       obtain⟨xs,O1,us,h,hs1,hl,hrun,hk⟩:=Z9c hE hslot hS2.objs h;obtain⟨ls,O2,R2,h,hs2,hu2,hL⟩:=Z2p hk2.sealed hslot hA hD2.2 (fun o b hb=>hS2.objs o b (hs1 o b hb)) h;cases h;obtain⟨R1,hu1,hv1⟩:=hk s.ps.length;obtain⟨hj,hd⟩:=Uses.join hu1 hu2 hs1 hs2
       let own3:Own:=fun g=>match own2 g with
         |.ob o t=>(match(match R1 o t with|some m=>some m|none=>R2 o t)with|some m=>m|none=>.out)
         |l=>l
       have hob:Z43 own2 w2 own3 fun o t=>match R1 o t with|some m=>some m|none=>R2 o t:=⟨fun g hg=>⟨by simp only[own3,hg],rfl⟩,fun g o t m hg hm=>by
         simp only[own3,hg];dsimp only at hm;rw[hm]⟩
       obtain⟨h1,h2⟩:=Z36 hd hob;rw[hrs]at hrun;refine⟨hD2.1,_,Zd5 hrun,us,own3,rfl,hl,hv1 own3 h1,hL own3 h2,?_,fun g hg=>?_⟩
       . exact hk2.trans ⟨hob.1,fun g _ hg=>⟨by simp only[own3,hg],rfl⟩,Nat.le_refl _,rfl,rfl,rfl⟩
       . simp only[own3,hS2.bound g hg]
     cases ex with
     |nrm=>exact fin h
     |ret=>exact fin h
     |exit i=>cases h
end Go.Pv
namespace Go.Pv
open Go Go.Great
variable {E:Env}[Base]
def ExtOk(E:Env)(ext:(g:Nat)->(s:Sg)->Option (s.A.den->Option s.R.den)):Prop:=∀key s F,ext key s=some F->E.sg key=some s->CallOk E.P (key % 100000) s F
theorem Zh0(hE:EnvOk E)(hdraw:∀call f,Z1v E call->Zbv E call f){ext:(g:Nat)->(s:Sg)->Option (s.A.den->Option s.R.den)}(hext:ExtOk E ext):∀k,Z1v E (sem E ext k)
 |0=>fun key s hs l r h=>by cases h
 | k+1=>fun key s hs=>by
   have ih:=Zh0 hE hdraw hext k;intro l r h;simp only[sem]at h;split at h
   . rename_i F hF;exact hext key s F hF hs l r h
   . exact Zhj hE ih (hdraw _ key ih) hs l r h
end Go.Pv
namespace Go.Pv
open Go
variable {ρ α:Type}{E:Env}
theorem Z4t(c:Bool)(x y:Option α)(K:α->Option ρ):nif c (x.bind K) (y.bind K)=(nif c x y).bind K:=by cases c<;>rfl
theorem nif_l(c:Bool)(x:Option α)(K:α->Option ρ):nif c (x.bind K) none=(nif c x none).bind K:=by cases c<;>rfl
theorem Z44(c:Bool)(x:Option α)(K:α->Option ρ):nif c none (x.bind K)=(nif c none x).bind K:=by cases c<;>rfl
theorem Zhq(c:Bool)(x y:Option α)(K:α->Option ρ):(bif c then x.bind K else y.bind K)=(bif c then x else y).bind K:=by cases c<;>rfl
theorem Z3j(c:Bool)(x:Option α)(K:α->Option ρ):(bif c then x.bind K else none)=(bif c then x else none).bind K:=by cases c<;>rfl
theorem Zhr(c:Bool)(x:Option α)(K:α->Option ρ):(bif c then none else x.bind K)=(bif c then none else x).bind K:=by cases c<;>rfl
theorem Z1r {β:Type}(x:Option β)(G:β->Option α)(K:α->Option ρ):(x.bind fun y=>(G y).bind K)=(x.bind G).bind K:=by cases x<;>rfl
theorem Z1p {G:AV->Option α}{K:α->Option ρ}:∀{p:List Bool}{a:AV},getF a p (fun b=>(G b).bind K)=(getF a p G).bind K
 |[],a=>by cases a<;>rfl
 | b::p,a=>by
   cases a with
   |pr x y=>cases b<;>simp only[getF]<;>exact Z1p
   |v t x=>cases t<;>cases b<;>first|rfl|(simp only[getF];exact Z1p)
   | _=>cases b<;>rfl
theorem Z5p {a b:AV}{G:AV->Option α}{K:α->Option ρ}:mkPr a b (fun b=>(G b).bind K)=(mkPr a b G).bind K:=by
 unfold mkPr;split<;>rfl
theorem Z45 {K:α->Option ρ}:∀{p:List Bool}{a c:AV}{G:AV->Option α},setF a p c (fun b=>(G b).bind K)=(setF a p c G).bind K
 |[],a,c,G=>by cases a<;>simp only[setF,nif_l]
 | b::p,a,c,G=>by
   cases a with
   |pr x y=>cases b<;>simp only[setF,Z5p]<;>exact Z45
   |v t x=>cases t<;>cases b<;>first|rfl|(simp only[setF,Z5p];exact Z45)
   | _=>cases b<;>rfl
theorem Z6 {t u:Ty}{x:t.den}{G:u.den->Option α}{K:α->Option ρ}:Ze t u x (fun b=>(G b).bind K)=(Ze t u x G).bind K:=by
 unfold Ze;split<;>rfl
theorem newK_fuse {O:Obs}{i:Id}{b:Ob}{G:Obs->Option α}{K:α->Option ρ}:newK O i b (fun b=>(G b).bind K)=(newK O i b G).bind K:=by
 unfold newK;rw[Z44]
theorem Z19 {O:Obs}{i:Id}{G:Obs->Option α}{K:α->Option ρ}:Z1a O i (fun b=>(G b).bind K)=(Z1a O i G).bind K:=by
 induction O generalizing G with
 |nil=>rfl
 | cons q l ih=>
   obtain⟨j,b⟩:=q;simp only[Z1a];rw[<-ih]
   congr 1
   funext l';cases idEq j i<;>rfl
theorem Z2w {K:α->Option ρ}:∀{t:Ty}{x:t.den}{r:Id}{O:Obs}{G:AV->Obs->Option α},unpK t x r O (fun a b=>(G a b).bind K)=(unpK t x r O G).bind K
 |.int _,_,_,_,_=>rfl
 |.bool,_,_,_,_=>rfl
 |.str,_,_,_,_=>rfl
 |.unit,_,_,_,_=>rfl
 |.slc e,_,_,_,_=>by simp only[unpK,nif_l]
 |.sptr t,_,_,_,_=>by simp only[unpK,nif_l]
 |.hole n,_,_,_,_=>rfl
 |.nilp,_,_,_,_=>rfl
 |.fo,_,_,_,_=>rfl
 |.hdr,_,_,_,_=>rfl
 |.arr n e,_,_,_,_=>by simp only[unpK,nif_l]
 |.clo f a,_,_,_,_=>by simp only[unpK,nif_l]
 |.mp tid k v,_,_,_,_=>by simp only[unpK,newK_fuse]
 |.own tid e,_,_,_,_=>by simp only[unpK,newK_fuse]
 | .bx t,x,r,O,G=>by
   simp only[unpK,newK_fuse];exact Z2w
 | .pair a b,x,r,O,G=>by
   simp only[unpK,Z5p];rw[<-Z2w]
   congr 1
   funext a' O';exact Z2w
theorem Z2q {K:α->Option ρ}:∀{a:AV}{O:Obs}{G:(t:Ty)->t.den->Obs->Option α},pkK a O (fun a b c=>(G a b c).bind K)=(pkK a O G).bind K
 |.v t x,O,G=>rfl
 |.hole n,O,G=>rfl
 | .pr a b,O,G=>by
   simp only[pkK];rw[<-Z2q]
   congr 1
   funext t x O1;exact Z2q
 | .ref o,O,G=>by
   simp only[pkK];split<;>first|rfl|exact Z19
 |.dead,_,_=>rfl
 |.tn,_,_=>rfl
 |.tp _ _,_,_=>rfl
 |.hs _ _ _,_,_=>rfl
 |.p _ _ _,_,_=>rfl
 |.e _ _ _ _,_,_=>rfl
 |.s _ _ _,_,_=>rfl
 |.ap _ _,_,_=>rfl
 |.cl _ _,_,_=>rfl
theorem Zd6 {K:α->Option ρ}{a:AV}{O:Obs}{G:(t:Ty)->t.den->Obs->Option α}:pkE a O (fun a b c=>(G a b c).bind K)=(pkE a O G).bind K:=by
 unfold pkE;split
 . split
   . exact Z19
   . rfl
 . exact Z2q
theorem Z1x {K:α->Option ρ}:∀{e:Ty}{x:e.den}{p:List Bool}{G:(tid:Nat)->(e2:Ty)->List e2.den->Option α},Z3w e x p (fun a b c=>(G a b c).bind K)=(Z3w e x p G).bind K
 |.own _ _,_,[],_=>rfl
 |.pair a _,x,false::p,G=>Z1x (e:=a)
 |.pair _ b,x,true::p,G=>Z1x (e:=b)
 |.pair _ _,_,[],_=>rfl
 |.own _ _,_,_::_,_=>rfl
 |.int _,_,p,_=>by cases p<;>rfl
 |.bool,_,p,_=>by cases p<;>rfl
 |.str,_,p,_=>by cases p<;>rfl
 |.unit,_,p,_=>by cases p<;>rfl
 |.slc _,_,p,_=>by cases p<;>rfl
 |.sptr _,_,p,_=>by cases p<;>rfl
 |.bx _,_,p,_=>by cases p<;>rfl
 |.hole _,_,p,_=>by cases p<;>rfl
 |.arr _ _,_,p,_=>by cases p<;>rfl
 |.mp _ _ _,_,p,_=>by cases p<;>rfl
 |.nilp,_,p,_=>by cases p<;>rfl
 |.fo,_,p,_=>by cases p<;>rfl
 |.hdr,_,p,_=>by cases p<;>rfl
 |.clo _ _,_,p,_=>by cases p<;>rfl
theorem Z4l {K:α->Option ρ}(F:(σ:Type)->(tid:Nat)->(e2:Ty)->List e2.den->(List e2.den->Option σ)->Option σ)(hF:∀tid e2 ys G,F ρ tid e2 ys (fun z=>(G z).bind K)=(F α tid e2 ys G).bind K):
   ∀{e:Ty}{x:e.den}{p:List Bool}{G:e.den->Option α},Z4v e x p (F ρ) (fun a=>(G a).bind K)=(Z4v e x p (F α) G).bind K
 |.own _ _,_,[],_=>hF _ _ _ _
 |.pair a b,x,false::p,G=>Z4l F hF (e:=a) (G:=fun y=>G (y,x.2))
 |.pair a b,x,true::p,G=>Z4l F hF (e:=b) (G:=fun y=>G (x.1,y))
 |.pair _ _,_,[],_=>rfl
 |.own _ _,_,_::_,_=>rfl
 |.int _,_,p,_=>by cases p<;>rfl
 |.bool,_,p,_=>by cases p<;>rfl
 |.str,_,p,_=>by cases p<;>rfl
 |.unit,_,p,_=>by cases p<;>rfl
 |.slc _,_,p,_=>by cases p<;>rfl
 |.sptr _,_,p,_=>by cases p<;>rfl
 |.bx _,_,p,_=>by cases p<;>rfl
 |.hole _,_,p,_=>by cases p<;>rfl
 |.arr _ _,_,p,_=>by cases p<;>rfl
 |.mp _ _ _,_,p,_=>by cases p<;>rfl
 |.nilp,_,p,_=>by cases p<;>rfl
 |.fo,_,p,_=>by cases p<;>rfl
 |.hdr,_,p,_=>by cases p<;>rfl
 |.clo _ _,_,p,_=>by cases p<;>rfl
theorem Z46 {K:α->Option ρ}:∀{k:Nat}{a:AV}{O:Obs}{G:(t:Ty)->t.den->Bool->Option α},vwK k a O (fun a b c=>(G a b c).bind K)=(vwK k a O G).bind K
 |0,_,_,_=>rfl
 |k+1,.v t x,O,G=>rfl
 | k+1,.pr a b,O,G=>by
   simp only[vwK];rw[<-Z46]
   congr 1
   funext t x c;exact Z46
 |k+1,.ref o,O,G=>by simp only[vwK];split<;>rfl
 |k+1,.hs o lo n,O,G=>by simp only[vwK];split<;>rfl
 | k +1,.s o i (.hd fp n),O,G=>by
   simp only[vwK];split
   . rw[<-nif_l,<-Z1r]
     congr 2
     funext y;exact Z1x
   . rfl
 |k+1,.s o i (.el _ _ _ _),O,G=>rfl
 |k+1,.s o i (.bx _ _),O,G=>rfl
 | k +1,.e o i fp n,O,G=>by
   simp only[vwK];split
   . rw[<-nif_l,<-Z1r]
     congr 2
     funext y;rw[<-Z1p]
     congr 1
     funext b;cases b<;>rfl
   . rfl
 | k +1,.p o fp n,O,G=>by
   simp only[vwK];split
   . rw[<-nif_l,<-Z1p]
     congr 2
     funext b;exact Z46
   . rfl
 |k+1,.ap o n,O,G=>by simp only[vwK];split<;>first|rfl|rw[nif_l]
 | k+1,.cl f a,O,G=>by
   simp only[vwK];exact Z46
 |k+1,.dead,_,_=>rfl
 |k+1,.tn,_,_=>rfl
 |k+1,.tp _ _,_,_=>rfl
 |k+1,.hole _,_,_=>rfl
theorem tiK_fuse {T:Nat}{G:TI->Option α}{K:α->Option ρ}:tiK E T (fun i=>(G i).bind K)=(tiK E T G).bind K:=by
 unfold tiK;split<;>rfl
theorem Z1j {T:Nat}{G:Nat->TI->Option α}{K:α->Option ρ}:Z1f E T (fun i j=>(G i j).bind K)=(Z1f E T G).bind K:=by
 unfold Z1f;rw[<-tiK_fuse]
 congr 1
 funext i;split
 . exact tiK_fuse
 . rfl
theorem mapOf_fuse {T:Nat}{G:Nat->Nat->Option α}{K:α->Option ρ}:Z6a E T (fun i j=>(G i j).bind K)=(Z6a E T G).bind K:=by
 unfold Z6a;rw[<-tiK_fuse]
 congr 1
 funext i;split<;>rfl
theorem Z1u {f d:Nat}{i:Id}{O:Obs}{t:Ty}{x:t.den}{G:AV->Obs->Option α}{K:α->Option ρ}:mkK E f d i O t x (fun a b=>(G a b).bind K)=(mkK E f d i O t x G).bind K:=by
 unfold mkK;rw[Z2w,nif_l,Z4t]
theorem Ze4 {f d:Nat}{i:Id}{O:Obs}{T:Nat}{G:AV->Obs->Option α}{K:α->Option ρ}:Z9z E f d i O T (fun a b=>(G a b).bind K)=(Z9z E f d i O T G).bind K:=by
 unfold Z9z;simp only[Z1u,tiK_fuse]
theorem Zan {f d:Nat}{i:Id}{O:Obs}{T:Nat}{G:AV->Obs->Option α}{K:α->Option ρ}:nilK E f d i O T (fun a b=>(G a b).bind K)=(nilK E f d i O T G).bind K:=by
 unfold nilK;simp only[Z1u,nif_l,tiK_fuse]
theorem Zfo {op:BinOp}{k:IntKind}{x y:Int}{G:AV->Option α}{K:α->Option ρ}:intK op k x y (fun a=>(G a).bind K)=(intK op k x y G).bind K:=by
 cases op<;>first|rfl|(simp only[intK,Zhr])
theorem Zfp {op:BinOp}{T:Nat}{a b:AV}{G:AV->Option α}{K:α->Option ρ}:binK E op T a b (fun a=>(G a).bind K)=(binK E op T a b G).bind K:=by
 unfold binK;split<;>simp only[Zhr,Z3j,Zfo,nif_l,Z6,Option.bind_none]
theorem Zd7 {op:BinOp}{T:Nat}{y:Operand}{O:Obs}{a:AV}{G:AV->Option α}{K:α->Option ρ}:Z75 E op T y O a (fun a=>(G a).bind K)=(Z75 E op T y O a G).bind K:=by
 unfold Z75;rw[<-tiK_fuse]
 congr 1
 funext i;split
 . cases op<;>rfl
 . rfl
theorem Zh1 {op:UnOp}{a:AV}{G:AV->Option α}{K:α->Option ρ}:unK op a (fun a=>(G a).bind K)=(unK op a G).bind K:=by
 unfold unK;split<;>rfl
theorem Zfq {d:TD}{O:Obs}{a:AV}{G:AV->Option α}{K:α->Option ρ}:lenK d O a (fun a=>(G a).bind K)=(lenK d O a G).bind K:=by
 unfold lenK
 repeat' split
 all_goals first|rfl|(simp only[Z3j,Z1r];done)|simp only[Z3j,Z1x,Z1r,nif_l]
theorem Z9x {O:Obs}{n:Nat}{x i:AV}{G:AV->Option α}{K:α->Option ρ}:Z3x O n x i (fun a=>(G a).bind K)=(Z3x O n x i G).bind K:=by
 unfold Z3x
 repeat' split
 all_goals first|rfl|(simp only[Z1r,Z3j,nif_l];done)|simp only[Z1r,Z3j,nif_l,Z1x]
theorem Zbx {O:Obs}{m n:Nat}{x i:AV}{G:AV->Option α}{K:α->Option ρ}:Z5a O m n x i (fun a=>(G a).bind K)=(Z5a O m n x i G).bind K:=by
 unfold Z5a
 repeat' split
 all_goals first|rfl|simp only[Z1r,Z3j,nif_l]
theorem Zby {m n:Nat}{g:Bool}{x i:AV}{G:AV->Option α}{K:α->Option ρ}:Z5b m n g x i (fun a=>(G a).bind K)=(Z5b m n g x i G).bind K:=by
 unfold Z5b
 repeat' split
 all_goals first|rfl|simp only[Z1r,Z3j,nif_l]
theorem lookK_fuse {O:Obs}{kT vT:Nat}{m x:AV}{ok:Bool}{G:AV->Option α}{K:α->Option ρ}:Za0 E O kT vT m x ok (fun a=>(G a).bind K)=(Za0 E O kT vT m x ok G).bind K:=by
 unfold Za0;split
 . split
   . rw [<-nif_l,<-nif_l,<-Z6]
     congr 3
     funext y;rw[<-Z4t]
     congr 1
     . rw[<-tiK_fuse]
       congr 1
       funext j;rw[<-Z6]
       congr 1
       funext z;cases ok<;>rfl
     . split
       . split
         . rfl
         . simp only[Z6,tiK_fuse,Zhq,Z1r]
       . rfl
   . rfl
 . rfl
theorem Z2x {O:Obs}{i:Id}{b:Ob}{G:Obs->Option α}{K:α->Option ρ}:putK O i b (fun a=>(G a).bind K)=(putK O i b G).bind K:=by
 induction O generalizing G with
 |nil=>rfl
 | cons q l ih=>
   obtain⟨j,b'⟩:=q;simp only[putK]
   first|(rw[ih,Z4t])|(rw[nif_b'];done)|(cases idEq j i<;>simp only[nif]<;>first|rfl|exact ih)
theorem mapPutK_fuse {O:Obs}{kT:Nat}{m x z:AV}{G:Obs->Bool->Option α}{K:α->Option ρ}:Z5c E O kT m x z (fun a b=>(G a b).bind K)=(Z5c E O kT m x z G).bind K:=by
 unfold Z5c;split
 . split
   . simp only[Z2x,Z6,nif_l,Z1r]
   . rfl
 . split
   . rw[<-nif_l,<-nif_l,<-Z6]
     congr 3
     funext y;split
     . rw[<-Z2q]
       congr 1
       funext t z O1;simp only[Z2x,Z6,nif_l,Z1r,Z19]
     . rfl
   . rfl
 . rfl
theorem Zfr {x i:AV}{G:AV->Option α}{K:α->Option ρ}:idxK x i (fun a=>(G a).bind K)=(idxK x i G).bind K:=by
 unfold idxK
 repeat' split
 all_goals first|rfl|simp only[Z1r,Z3j]
theorem Zfs {x:Option AV}{n:Nat}{G:Nat->Option α}{K:α->Option ρ}:bndK x n (fun a=>(G a).bind K)=(bndK x n G).bind K:=by
 unfold bndK
 repeat' split
 all_goals first|rfl|simp only[Z3j]
theorem Zd8 {T:Nat}{O:Obs}{x:AV}{lo hi:Option AV}{G:AV->Option α}{K:α->Option ρ}:Z76 E T O x lo hi (fun a=>(G a).bind K)=(Z76 E T O x lo hi G).bind K:=by
 unfold Z76
 repeat' split
 all_goals first|rfl|simp only[Z3j,Zfs,nif_l,Z1j]
theorem Z3k {S:Nat}{off:List Bool->Nat}{size:List Bool->Option (Nat×Bool)}{f:Nat}{G:List Bool->Option α}{K:α->Option ρ}:Z2z E S off size f (fun a=>(G a).bind K)=(Z2z E S off size f G).bind K:=by
 unfold Z2z;rw[<-tiK_fuse]
 congr 1
 funext i;split
 . split
   . rw[<-tiK_fuse]
     congr 1
     funext j;split
     . simp only[nif_l,Z44]
     . rfl
   . rfl
 . rfl
theorem Z9y {O:Obs}{S:Nat}{x:AV}{f:Nat}{G:AV->Option α}{K:α->Option ρ}:Z3y E O S x f (fun a=>(G a).bind K)=(Z3y E O S x f G).bind K:=by
 unfold Z3y
 repeat' split
 all_goals first|rfl|(simp only[Z3k,Z1p];done)|skip
 rw[<-Z3k]
 congr 1
 funext p;rw[<-Z1p]
 congr 1
 funext b;split<;>rfl
theorem Zft {S:Nat}{x:AV}{f:Nat}{G:AV->Option α}{K:α->Option ρ}:fldK E S x f (fun a=>(G a).bind K)=(fldK E S x f G).bind K:=by
 unfold fldK;simp only[Z1p,Z3k,nif_l]
theorem Ze5 {O:Obs}{n:Nat}{g:Bool}{a:AV}{G:AV->Option α}{K:α->Option ρ}:Za1 O n g a (fun a=>(G a).bind K)=(Za1 O n g a G).bind K:=by
 unfold Za1
 repeat' split
 all_goals first|rfl|(simp only[nif_l,Z44,Z1p,Z1r,Z4t];done)|(simp only[nif_l,Z44,Z1p,Z1r,Z4t,Z1x];done)|(generalize Nat.beq _ _=c;cases c<;>rfl)
end Go.Pv
namespace Go.Pv
open Go
variable {ρ α:Type}{E:Env}
theorem Zd9 {O:Obs}{n:Nat}{g:Bool}{a x:AV}{G:Obs->Bool->Option α}{K:α->Option ρ}:Z5v O n g a x (fun a b=>(G a b).bind K)=(Z5v O n g a x G).bind K:=by
 unfold Z5v;rw[<-nif_l,<-nif_l]
 congr 2
 split
 . split
   . simp only[Z2x,Z45,nif_l]
   . rfl
 . split
   . rename_i tid e xs _;rw[<-Z4t]
     congr 1
     . rw[<-nif_l,<-Z1r]
       congr 2
       funext y;rw[<-Z45]
       congr 1
       funext b;split
       . simp only[Z2x,Z6]
       . rfl
     . split
       . simp only[Z2q,Z2x,Z6,nif_l,Z1r]
       . rfl
   . rfl
 . rename_i o i fp m j sz;split
   . rename_i tid e xs _;rw[<-nif_l,<-Z1r]
     congr 2
     funext y;simp only[Z2x];exact Z4l (fun σ _ e2 ys K2=>nif e2.plain (nif (Nat.beq e2.size sz) (nif (Nat.beq sz n) ((lget ys j).bind fun _=>match x with
       |.v e' z=>Ze e' e2 z fun z'=>K2 (ys.set j z')
       | _=>none) none) none) none) (fun tid2 e2 ys G=>by
         simp only[<-nif_l,<-Z1r]
         congr 4
         funext _;split
         . exact Z6
         . rfl)
   . rfl
 . rfl
theorem Z57 {T:Nat}{ev:Operand->AV}{G:AV->Option α}{K:α->Option ρ}:∀{l:List (Nat×Operand)}{a:AV},Z3o E T ev a l (fun a=>(G a).bind K)=(Z3o E T ev a l G).bind K
 |[],a=>rfl
 | (i,x)::l,a=>by
   simp only[Z3o];rw[<-Z3k]
   congr 1
   funext p;split
   . rw[<-nif_l,<-Z45]
     congr 2
     funext a';exact Z57
   . rfl
theorem Z89 {ev:Operand->AV}{e:Ty}{K:α->Option ρ}:∀{l:List (Nat×Operand)}{O:Obs}{j:Nat}{G:List e.den->Obs->Option α},Z3p ev e O l j (fun a b=>(G a b).bind K)=(Z3p ev e O l j G).bind K
 |[],O,j,G=>rfl
 | (i,x)::l,O,j,G=>by
   simp only[Z3p];rw[<-nif_l,<-Zd6]
   congr 2
   funext u y O1;rw[<-Z6]
   congr 1
   funext z;exact Z89
theorem Z9d {T:Nat}{nil:Bool}{a:AV}{O:Obs}{G:(tid:Nat)->(e:Ty)->List e.den->Obs->Option α}{K:α->Option ρ}:Z7w E T nil a O (fun t e x o=>(G t e x o).bind K)=(Z7w E T nil a O G).bind K:=by
 unfold Z7w;rw[<-Z4t]
 congr 1
 . rw[<-Z1j]
 . split
   . split
     . rw[Z19]
     . rfl
   . split
     . rw[Z19,Z3j]
     . rfl
   . rfl
theorem Zfu {e:Ty}{a:AV}{O:Obs}{G:List e.den->Obs->Option α}{K:α->Option ρ}:srcK e a O (fun x o=>(G x o).bind K)=(srcK e a O G).bind K:=by
 unfold srcK;split
 . exact Z6
 . split
   . simp only[Z6,nif_l]
   . rfl
 . split
   . simp only[Z19,Z6,Z4t]
   . rfl
 . rfl
theorem Zbz {f d:Nat}{ev:Operand->AV}{O:Obs}{T T':Nat}{s x:Operand}{G:AV->Obs->Option α}{K:α->Option ρ}:Z4b E f d ev O T T' s x (fun a b=>(G a b).bind K)=(Z4b E f d ev O T T' s x G).bind K:=by
 unfold Z4b;simp only[Z1u,Z3j,Z44,nif_l,Zfu,Z9d,Z1j]
theorem Zfv {f d:Nat}{O:Obs}{a:AV}{G:AV->Obs->Option α}{K:α->Option ρ}:boxK E f d O a (fun a b=>(G a b).bind K)=(boxK E f d O a G).bind K:=by
 unfold boxK;cases E.shut f d
 . show newK O [d] (.box a) (fun O'=>(G (.p [d] [] 0) O').bind K)=(newK O [d] (.box a) fun O'=>G (.p [d] [] 0) O').bind K
   exact newK_fuse
 . show(match a with
     |.v t y=>nif t.plain (mkK E f d [d] O (.bx t) y fun a b=>(G a b).bind K) none
     | _=>none)=(match a with
     |.v t y=>nif t.plain (mkK E f d [d] O (.bx t) y G) none
     | _=>none).bind K
   split
   . simp only[Z1u,nif_l]
   . rfl
theorem Zc0 {f d:Nat}{ev:Operand->AV}{O:Obs}{T:Nat}{s x:Operand}{G:AV->Obs->Option α}{K:α->Option ρ}:Z5d E f d ev O T s x (fun a b=>(G a b).bind K)=(Z5d E f d ev O T s x G).bind K:=by
 unfold Z5d;split
 . simp only[Z1u,Z3j,nif_l,Z44,Z6,Z9d,Z1j]
 . rfl
theorem Zc1 {f d:Nat}{ev:Operand->AV}{O:Obs}{T T':Nat}{s x:Operand}{G:AV->Obs->Option α}{K:α->Option ρ}:Z3e E f d ev O T T' s x (fun a b=>(G a b).bind K)=(Z3e E f d ev O T T' s x G).bind K:=by
 unfold Z3e;rw[<-tiK_fuse]
 congr 1
 funext i;split
 . exact Zbz
 . exact Zc0
 . rfl
theorem Ze6 {s d:Nat}{x:AV}{G:AV->Option α}{K:α->Option ρ}:Za2 E s d x (fun a=>(G a).bind K)=(Za2 E s d x G).bind K:=by
 unfold Za2;rw[<-tiK_fuse]
 congr 1
 funext i;rw[<-tiK_fuse]
 congr 1
 funext j;split<;>rfl
theorem Ze7 {s d:Nat}{O:Obs}{x:AV}{G:AV->Option α}{K:α->Option ρ}:Za3 E s d O x (fun a=>(G a).bind K)=(Za3 E s d O x G).bind K:=by
 unfold Za3;split
 . rw[<-tiK_fuse]
   congr 1
   funext i;rw[<-tiK_fuse]
   congr 1
   funext j;split
   . rw[<-tiK_fuse]
     congr 1
     funext q;split
     . split<;>rfl
     . rfl
   . rfl
 . exact Ze6
theorem Zda {f d:Nat}{O:Obs}{T:Nat}{G:AV->Obs->Option α}{K:α->Option ρ}:Z5w E f d O T (fun a b=>(G a b).bind K)=(Z5w E f d O T G).bind K:=by
 unfold Z5w;rw[<-tiK_fuse]
 congr 1
 funext i;split
 . simp only[newK_fuse,nif_l]
 . simp only[newK_fuse,Ze4]
theorem Z1k {K:α->Option ρ}:∀{ps:List (PM×Ty)}{as:List (Bool×AV)}{O:Obs}{G:(chain (Z23 ps)).den->Obs->Bool->Option α},Zc ps as O (fun a b c=>(G a b c).bind K)=(Zc ps as O G).bind K
 |[],[],O,G=>rfl
 | (.val,t)::ps,(nil,a)::as,O,G=>by
   simp only[Zc];rw[<-Z1k]
   congr 1
   funext l O' b;rw[<-nif_l,<-Z4t]
   congr 2
   . cases t<;>rfl
   . rw[<-Z46]
     congr 1
     funext u y c;exact Z6
 | (.mov,t)::ps,(nil,a)::as,O,G=>by
   simp only[Zc];rw[<-Z4t]
   congr 1
   . cases t<;>first|rfl|exact Z1k
   . rw[<-Z2q]
     congr 1
     funext u y O1;rw[<-Z6]
     congr 1
     funext x;exact Z1k
 |(.lend,t)::ps,(true,a)::as,O,G=>by simp only[Zc];rfl
 |(.lendv,t)::ps,(true,a)::as,O,G=>by simp only[Zc];rfl
 | (.lend,t)::ps,(false,a)::as,O,G=>by
   simp only[Zc];split
   . split
     . rw[<-Z2q]
       congr 1
       funext u y O1;rw[<-Z6]
       congr 1
       funext x;rw[<-Z19]
       congr 1
       funext O2;exact Z1k
     . rfl
   . split
     . rw[<-Z1r]
       congr 1
       funext e;rw[<-Z6]
       congr 1
       funext x;rw[<-Z19]
       congr 1
       funext O2;exact Z1k
     . rfl
   . rfl
 | (.lendv,t)::ps,(false,a)::as,O,G=>by
   simp only[Zc];split
   . split
     . rw[<-nif_l,<-Z1r]
       congr 2
       funext y;rw[<-Z1x]
       congr 1
       funext tid e2 ys;rw[<-Z6]
       congr 1
       funext x;rw[<-Z19]
       congr 1
       funext O2;exact Z1k
     . rfl
   . rw[<-Z2q]
     congr 1
     funext u y O1;rw[<-Z6]
     congr 1
     funext x;exact Z1k
 |[],_::_,_,_=>rfl
 |(m,_)::_,[],_,_=>by cases m<;>rfl
theorem Ze8 {K:α->Option ρ}:∀{t:Ty}{y:t.den}{a:AV}{O:Obs}{G:Obs->Option α},Z24 t y a O (fun o=>(G o).bind K)=(Z24 t y a O G).bind K:=by
 intro t
 induction t with
 | pair t1 t2 ih1 ih2=>
   intro y a O G;cases a with
   | pr c d=>
     simp only[Z24];rw[<-ih1]
     congr 1
     funext O1;exact ih2
   | _=>rfl
 | own tid e _=>
   intro y a O G;cases a with
   |ref o=>simp only[Z24];exact newK_fuse
   | _=>rfl
 | _=>intro y a O G;cases a<;>rfl
theorem Z1y {O0:Obs}{K:α->Option ρ}:∀{ps:List (PM×Ty)}{as:List (Bool×AV)}{l:(chain (Zo ps)).den}{O:Obs}{G:Obs->Option α},Zl O0 ps as l O (fun o=>(G o).bind K)=(Zl O0 ps as l O G).bind K
 |[],_,_,O,G=>rfl
 |(.val,_)::ps,_::as,l,O,G=>by simp only[Zl];exact Z1y
 |(.mov,_)::ps,_::as,l,O,G=>by simp only[Zl];exact Z1y
 | (.lend,t)::ps,(nil,a)::as,l,O,G=>by
   simp only[Zl];split
   . split
     . rw[<-Z44,<-Z2w]
       congr 2
       funext c1 O1;rw[<-newK_fuse]
       congr 1
       funext O2;exact Z1y
     . rfl
   . split
     . rw[<-Z6]
       congr 1
       funext y;rw[<-newK_fuse]
       congr 1
       funext O2;exact Z1y
     . rfl
   . rfl
 | (.lendv,t)::ps,(nil,a)::as,l,O,G=>by
   simp only[Zl];split
   . split
     . rw[<-Z1r]
       congr 1
       funext x;refine Eq.trans ?_ (Z4l (fun σ tid2 e2 _ K2=>Ze t (.own tid2 e2) l.1 K2) (fun _ _ _ _=>Z6))
       congr 1
       funext y;rw[<-newK_fuse]
       congr 1
       funext O2;exact Z1y
     . rfl
   . rw[<-Ze8]
     congr 1
     funext O2;exact Z1y
 |(m,_)::_,[],_,_,_=>by cases m<;>rfl
theorem Zao {f d:Nat}{K:α->Option ρ}:∀{rs:List Ty}{j:Nat}{l:(chain rs).den}{O:Obs}{G:AV->Obs->Option α},tupK E f d O rs j l (fun a o=>(G a o).bind K)=(tupK E f d O rs j l G).bind K
 |[],_,_,_,_=>rfl
 | t::rs,j,l,O,G=>by
   simp only[tupK];rw[<-Z1u]
   congr 1
   funext a O';exact Zao
theorem Zfw {f:Nat}{d:Option Nat}{O:Obs}{rs:List Ty}{l:(chain rs).den}{G:AV->Obs->Option α}{K:α->Option ρ}:resK E f d O rs l (fun a o=>(G a o).bind K)=(resK E f d O rs l G).bind K:=by
 unfold resK;split
 . rfl
 . exact Z1u
 . exact Zao
 . rfl
theorem Z7n {g:Nat}{args:List (Bool×AV)}{G:Nat->Option α}{K:α->Option ρ}:keyK E g args (fun o=>(G o).bind K)=(keyK E g args G).bind K:=by
 unfold keyK;split
 . rw[nif_l]
 . split<;>rfl
theorem Z7o {K:α->Option ρ}:∀{t:Ty}{x:t.den}{G:List (Bool×AV)->Option α},capT t x (fun o=>(G o).bind K)=(capT t x G).bind K:=by
 intro t
 induction t with
 | pair a b _ ih=>
   intro x G;simp only[capT];rw[<-nif_l,<-Z44]
   congr 2
   exact ih
 | _=>intro x G;rfl
theorem Zap {K:α->Option ρ}:∀{a:AV}{G:List (Bool×AV)->Option α},capK a (fun o=>(G o).bind K)=(capK a G).bind K:=by
 intro a
 induction a with
 |v t x=>intro G;exact Z7o
 | pr a b _ ih=>
   intro G;simp only[capK];rw[<-nif_l,<-nif_l,<-Z44]
   congr 3
   exact ih
 | _=>intro G;rfl
theorem Z8a {K:α->Option ρ}:∀{l:List AV}{G:AV->Option α},Z5x l (fun o=>(G o).bind K)=(Z5x l G).bind K
 |[],G=>rfl
 | a::l,G=>by
   simp only[Z5x,Z5p];rw[<-nif_l,<-nif_l,<-Z44]
   congr 3
   exact Z8a
theorem Z9e {call:(g:Nat)->(s:Sg)->s.A.den->Option s.R.den}{f:Nat}{d:Option Nat}{O:Obs}{g:Nat}{args:List (Bool×AV)}{G:AV->Obs->Option α}{K:α->Option ρ}:Z4q E call f d O g args (fun a o=>(G a o).bind K)=(Z4q E call f d O g args G).bind K:=by
 unfold Z4q;split
 . simp only[Zfw,Z1y,Z1r,Z44,Z1k]
 . rfl
theorem Z9f {K:α->Option ρ}:∀{a:AV}{i:Nat}{G:AV->Option α},opQ.tupAt a i (fun o=>(G o).bind K)=(opQ.tupAt a i G).bind K
 |.tp a _,0,G=>rfl
 | .tp _ b,n+1,G=>by
   simp only[opQ.tupAt];exact Z9f
 |.dead,i,G=>by cases i<;>rfl
 |.v _ _,i,G=>by cases i<;>rfl
 |.pr _ _,i,G=>by cases i<;>rfl
 |.hole _,i,G=>by cases i<;>rfl
 |.ref _,i,G=>by cases i<;>rfl
 |.hs _ _ _,i,G=>by cases i<;>rfl
 |.p _ _ _,i,G=>by cases i<;>rfl
 |.e _ _ _ _,i,G=>by cases i<;>rfl
 |.s _ _ _,i,G=>by cases i<;>rfl
 |.ap _ _,i,G=>by cases i<;>rfl
 |.cl _ _,i,G=>by cases i<;>rfl
 |.tn,i,G=>by cases i<;>rfl
theorem Zh2 {o:Oper}{ev:Operand->AV}{O:Obs}{G:AV->Option α}{K:α->Option ρ}:opQ E o ev O (fun a=>(G a).bind K)=(opQ E o ev O G).bind K:=by
 unfold opQ;split
 . rfl
 . rfl
 . split
   . rw[Zhq]
   . rfl
 . simp only[Ze5,tiK_fuse]
 . split<;>rfl
 . rw[Zd7,Zfp,Z4t]
 . exact Zh1
 . exact Ze7
 . exact Zd8
 . exact Z9y
 . exact Zft
 . rw[<-tiK_fuse]
   congr 1
   funext t;split
   . simp only[Z9x,Z1j]
   . simp only[Zbx,tiK_fuse]
   . rfl
 . rw[<-tiK_fuse]
   congr 1
   funext t;split
   . exact Zfr
   . simp only[Zby,tiK_fuse]
   . rfl
 . simp only[lookK_fuse,mapOf_fuse]
 . split
   . exact Z8a
   . rfl
 . exact Z9f
 . split
   . rw[<-tiK_fuse]
     congr 1
     funext t;rw[<-Z4t]
     congr 1
     . split<;>rfl
     . exact Zfq
   . rfl
 . split
   . rw[nif_l]
   . rfl
 . split
   . rw[nif_l]
   . rfl
 . rfl
theorem Zh3 {call:(g:Nat)->(s:Sg)->s.A.den->Option s.R.den}{f:Nat}{o:Oper}{ev:Operand->AV}{O:Obs}{G:AV->Obs->Bool->Option α}{K:α->Option ρ}:opW E call f o ev O (fun a b c=>(G a b c).bind K)=(opW E call f o ev O G).bind K:=by
 unfold opW;split
 . split
   . exact Zan
   . rfl
 . split
   . exact Zan
   . rfl
 . split
   . exact Zda
   . rfl
 . split
   . simp only[Zfv,nif_l,Z44,tiK_fuse]
   . rfl
 . split
   . rw[<-tiK_fuse]
     congr 1
     funext i;split
     . simp only[Z57,Z2w,nif_l]
     . rfl
   . rfl
 . split
   . rw[<-Z1j]
     congr 1
     funext e j;split
     . simp only[Z1u,nif_l]
     . simp only[Z1u,Z89,nif_l,Zd6]
     . rfl
   . rfl
 . simp only[Zd9,Z44,tiK_fuse]
 . split
   . simp only[Z1u,Z3j,nif_l,Z1j]
   . rfl
 . split
   . simp only[newK_fuse,nif_l,tiK_fuse,mapOf_fuse]
   . rfl
 . simp only[mapPutK_fuse,mapOf_fuse]
 . split
   . exact Zc1
   . rfl
 . split
   . simp only[Z9e,Z7n,Zap]
   . simp only[Z9e,Z7n,Z7o]
   . rfl
 . rfl
theorem Zhk {o:Oper}{ev:Operand->AV}{O:Obs}{K:AV->Option ρ}{r:ρ}(h:opQ E o ev O K=some r):∃a,opQ E o ev O some=some a/\K a=some r:=by
 have h2:opQ E o ev O (fun a=>(some a).bind K)=some r:=h;rw[Zh2]at h2;exact Option.bind_eq_some_iff.1 h2
theorem Zhl {call:(g:Nat)->(s:Sg)->s.A.den->Option s.R.den}{f:Nat}{o:Oper}{ev:Operand->AV}{O:Obs}{K:AV->Obs->Bool->Option ρ}{r:ρ}(h:opW E call f o ev O K=some r):
   ∃a O' b,opW E call f o ev O (fun a O' b=>some (a,O',b))=some (a,O',b)/\K a O' b=some r:=by
 have h2:opW E call f o ev O (fun a O' b=>(some (a,O',b)).bind fun q=>K q.1 q.2.1 q.2.2)=some r:=h;rw[Zh3 (G:=fun a O' b=>some (a,O',b))]at h2;obtain⟨⟨a,O',b⟩,h3,h4⟩:=Option.bind_eq_some_iff.1 h2;exact⟨a,O',b,h3,h4⟩
end Go.Pv
namespace Go.Pv
open Go Go.Great
variable {own own' own1 own2:Own}{w w' w1 w2:World}{G G' G1 G2:Gs}{ρ:Type}{E:Env}[Base]
def tt:Id->Bool:=fun _=>true
theorem Z37 {p q:Id->Bool}:∀{a:AV},(a.men fun o=>p o=true/\q o=true)->wk p q a=a
 |.pr a b,h=>by simp only[wk,Z37 h.1,Z37 h.2]
 |.tp a b,h=>by simp only[wk,Z37 h.1,Z37 h.2]
 |.cl f a,h=>by simp only[wk,Z37 (a:=a) h]
 |.ref o,h=>by have h:p o=true/\q o=true:=h;simp only[wk,h.1,nif]
 |.hs o _ _,h=>by have h:p o=true/\q o=true:=h;simp only[wk,h.1,nif]
 |.p o _ _,h=>by have h:p o=true/\q o=true:=h;simp only[wk,h.1,nif]
 |.e o _ _ _,h=>by have h:p o=true/\q o=true:=h;simp only[wk,h.1,nif]
 |.ap o _,h=>by have h:p o=true/\q o=true:=h;simp only[wk,h.1,nif]
 |.s o _ _,h=>by have h:p o=true/\q o=true:=h;simp only[wk,h.2,nif]
 |.dead,_=>rfl
 |.v _ _,_=>rfl
 |.hole _,_=>rfl
 |.tn,_=>rfl
theorem Z9g(a:AV):wk tt tt a=a:=Z37 (AV.men.mono (fun _ _=>⟨rfl,rfl⟩) (vwK_some.AV.men.all a))
theorem Z47(p q p' q':Id->Bool):∀a:AV,wk p q (wk p' q' a)=wk (fun o=>p o&&p' o) (fun o=>q o&&q' o) a
 |.pr a b=>by simp only[wk,Z47 p q p' q' a,Z47 p q p' q' b]
 |.tp a b=>by simp only[wk,Z47 p q p' q' a,Z47 p q p' q' b]
 |.cl f a=>by simp only[wk,Z47 p q p' q' a]
 |.ref o=>by cases h1:p o<;>cases h2:p' o<;>simp[wk,nif,h1,h2]
 |.hs o _ _=>by cases h1:p o<;>cases h2:p' o<;>simp[wk,nif,h1,h2]
 |.p o _ _=>by cases h1:p o<;>cases h2:p' o<;>simp[wk,nif,h1,h2]
 |.e o _ _ _=>by cases h1:p o<;>cases h2:p' o<;>simp[wk,nif,h1,h2]
 |.ap o _=>by cases h1:p o<;>cases h2:p' o<;>simp[wk,nif,h1,h2]
 |.s o _ _=>by cases h1:q o<;>cases h2:q' o<;>simp[wk,nif,h1,h2]
 |.dead=>rfl
 |.v _ _=>rfl
 |.hole _=>rfl
 |.tn=>rfl
theorem Zex(p q p' q':Id->Bool)(a:AV):wk p q (wk p' q' a)=wk p' q' (wk p q a):=by
 rw[Z47,Z47]
 congr 1<;>funext o<;>exact Bool.and_comm _ _
theorem Z4m {P:Id->Prop}(p q:Id->Bool):∀{a:AV},a.men P->(wk p q a).men P
 |.pr a b,h=>⟨Z4m p q h.1,Z4m p q h.2⟩
 |.tp a b,h=>⟨Z4m p q h.1,Z4m p q h.2⟩
 |.cl f a,h=>Z4m (a:=a) p q h
 |.ref o,h=>by simp only[wk];cases p o<;>first|trivial|exact h
 |.hs o _ _,h=>by simp only[wk];cases p o<;>first|trivial|exact h
 |.p o _ _,h=>by simp only[wk];cases p o<;>first|trivial|exact h
 |.e o _ _ _,h=>by simp only[wk];cases p o<;>first|trivial|exact h
 |.ap o _,h=>by simp only[wk];cases p o<;>first|trivial|exact h
 |.s o _ _,h=>by simp only[wk];cases q o<;>first|trivial|exact h
 |.dead,_=>trivial
 |.v _ _,_=>trivial
 |.hole _,_=>trivial
 |.tn,_=>trivial
theorem Zi0(p q:Id->Bool):∀a:AV,(wk p q a).agg=a.agg
 |.pr a b=>rfl
 |.tp a b=>rfl
 |.cl f a=>rfl
 |.ref o=>by simp only[wk];cases p o<;>rfl
 |.hs o _ _=>by simp only[wk];cases p o<;>rfl
 |.p o _ _=>by simp only[wk];cases p o<;>rfl
 |.e o _ _ _=>by simp only[wk];cases p o<;>rfl
 |.ap o _=>by simp only[wk];cases p o<;>rfl
 |.s o _ _=>by simp only[wk];cases q o<;>rfl
 |.dead=>rfl
 |.v _ _=>rfl
 |.hole _=>rfl
 |.tn=>rfl
theorem Zaq(p q:Id->Bool):∀{a:AV},a.ok=true->(wk p q a).ok=true
 |.pr a b,h=>by simp only[wk];exact ok_pr.2 ⟨Zaq p q (ok_pr.1 h).1,Zaq p q (ok_pr.1 h).2⟩
 |.tp a b,h=>by cases h
 |.cl f a,h=>Zaq (a:=a) p q h
 |.ref o,h=>by simp only[wk];cases p o<;>rfl
 |.hs o _ _,h=>by simp only[wk];cases p o<;>rfl
 |.p o _ _,h=>by simp only[wk];cases p o<;>rfl
 |.e o _ _ _,h=>by simp only[wk];cases p o<;>rfl
 |.ap o _,h=>by simp only[wk];cases p o<;>rfl
 |.s o _ _,h=>by cases h
 |.dead,h=>by cases h
 |.v _ _,_=>rfl
 |.hole _,_=>rfl
 |.tn,h=>by cases h
theorem Zi1(p q:Id->Bool):∀{a:AV},a.cel=true->(wk p q a).cel=true
 |.pr a b,h=>rfl
 |.tp a b,h=>by cases h
 |.cl f a,h=>rfl
 |.ref o,h=>by simp only[wk];cases p o<;>rfl
 |.hs o _ _,h=>by simp only[wk];cases p o<;>rfl
 |.p o _ _,h=>by simp only[wk];cases p o<;>rfl
 |.e o _ _ _,h=>by simp only[wk];cases p o<;>rfl
 |.ap o _,h=>by simp only[wk];cases p o<;>rfl
 |.s o _ _,h=>by simp only[wk];cases q o<;>rfl
 |.dead,h=>by cases h
 |.v _ _,_=>rfl
 |.hole _,_=>rfl
 |.tn,h=>by cases h
theorem AVc.wk(hs:Sealed own w own' w'){P:Id->Prop}{p q p' q':Id->Bool}(hp:∀o,P o->p' o=true->p o=true/\G' o=G o)
   (hq:∀o,P o->q' o=true->q o=true/\G' o=G o/\((G o).nest=true->Z30 w w' (G o).v)):∀{a:AV}{cs:List Value},a.men P->AVc own w G (wk p q a) cs->AVc own' w' G' (Pv.wk p' q' a) cs
 |.dead,_,_,h=>h.elim
 |.tn,_,_,h=>h.elim
 |.tp _ _,_,_,h=>h.elim
 |.v t x,_,_,h=>⟨h.1,Rep.plain hs _ h.1 h.2⟩
 | .pr a b,_,hm,h=>by
   obtain⟨c1,c2,rfl,h1,h2⟩:=h;exact⟨c1,c2,rfl,AVc.wk hs hp hq hm.1 h1,AVc.wk hs hp hq hm.2 h2⟩
 |.hole _,_,_,h=>h
 | .cl f a,_,hm,h=>by
   obtain⟨vs,rfl,h⟩:=h;exact⟨vs,rfl,AVc.wk hs hp hq (a:=a) hm h⟩
 | .ref o,_,hm,h=>by
   simp only[Pv.wk]at h⊢;cases e:p' o
   . exact h.one_hole (by cases p o<;>rfl)
   . rw[(hp o hm e).1]at h;simp only[nif,AVc]at h⊢;rw[(hp o hm e).2];exact h
 | .hs o _ _,_,hm,h=>by
   simp only[Pv.wk]at h⊢;cases e:p' o
   . exact h.one_hole (by cases p o<;>rfl)
   . rw[(hp o hm e).1]at h;simp only[nif,AVc]at h⊢;rw[(hp o hm e).2];exact h
 | .p o _ _,_,hm,h=>by
   simp only[Pv.wk]at h⊢;cases e:p' o
   . exact h.one_hole (by cases p o<;>rfl)
   . rw[(hp o hm e).1]at h;simp only[nif,AVc]at h⊢;rw[(hp o hm e).2];exact h
 | .e o _ _ _,_,hm,h=>by
   simp only[Pv.wk]at h⊢;cases e:p' o
   . exact h.one_hole (by cases p o<;>rfl)
   . rw[(hp o hm e).1]at h;simp only[nif,AVc]at h⊢;rw[(hp o hm e).2];exact h
 | .ap o _,_,hm,h=>by
   simp only[Pv.wk]at h⊢;cases e:p' o
   . exact h.one_hole (by cases p o<;>rfl)
   . rw[(hp o hm e).1]at h;simp only[nif,AVc]at h⊢;rw[(hp o hm e).2];exact h
 | .s o i k,_,hm,h=>by
   simp only[Pv.wk]at h⊢;cases e:q' o
   . exact h.one_hole (by cases q o<;>rfl)
   . obtain⟨h1,h2,h3⟩:=hq o hm e;rw[h1]at h;simp only[nif]at h⊢;exact AVc.keep (a:=.s o i k) hs (P:=fun j=>j=o) (fun j hj=>by subst hj;exact⟨h2,h3⟩) rfl h
theorem AVv.wk(hs:Sealed own w own' w'){P:Id->Prop}{p q p' q':Id->Bool}(hp:∀o,P o->p' o=true->p o=true/\G' o=G o)
   (hq:∀o,P o->q' o=true->q o=true/\G' o=G o/\((G o).nest=true->Z30 w w' (G o).v)):∀{a:AV}{v:Value},a.men P->AVv own w G (wk p q a) v->AVv own' w' G' (Pv.wk p' q' a) v
 |.dead,_,_,_=>trivial
 |.tn,_,_,h=>h
 | .tp a b,_,hm,h=>by
   obtain⟨u,vs,rfl,h1,h2⟩:=h;exact⟨u,vs,rfl,AVv.wk hs hp hq hm.1 h1,AVv.wk hs hp hq hm.2 h2⟩
 |.v t x,v,hm,h=>go (a:=.v t x) rfl hm h
 |.pr a b,v,hm,h=>go (a:=.pr a b) rfl hm h
 |.hole n,v,hm,h=>go (a:=.hole n) rfl hm h
 |.cl f a,v,hm,h=>go (a:=.cl f a) rfl hm h
 |.ref o,v,hm,h=>go (a:=.ref o) rfl hm h
 |.hs o x y,v,hm,h=>go (a:=.hs o x y) rfl hm h
 |.p o x y,v,hm,h=>go (a:=.p o x y) rfl hm h
 |.e o x y z,v,hm,h=>go (a:=.e o x y z) rfl hm h
 |.ap o x,v,hm,h=>go (a:=.ap o x) rfl hm h
 |.s o x y,v,hm,h=>go (a:=.s o x y) rfl hm h
where
 go {a:AV} {v:Value} (hc:a.cel=true) (hm:a.men P) (h:AVv own w G (Pv.wk p q a) v):AVv own' w' G' (Pv.wk p' q' a) v:=by
   obtain⟨cs,h1,h2⟩:=h.cells (Zi1 p q hc);exact .of (AVc.wk hs hp hq hm h1) (by rw[Zi0]at h2⊢;exact h2)
def notI(ids:List Id):Id->Bool:=fun o=>nif (inI ids o) false true
theorem Z48(ids:List Id):∀(a:AV){ρ:Type}(K:AV->ρ),Z4w ids a K=K (wk tt (notI ids) a)
 |.s o i _,_,K=>by simp only[Z4w,wk,notI];cases inI ids o<;>rfl
 |.pr a b,_,K=>by simp only[Z4w,Z48 ids a,Z48 ids b,wk]
 |.tp a b,_,K=>by simp only[Z4w,Z48 ids a,Z48 ids b,wk]
 |.cl f a,_,K=>by simp only[Z4w,Z48 ids a,wk]
 |.dead,_,_=>rfl
 |.v _ _,_,_=>rfl
 |.hole _,_,_=>rfl
 |.ref _,_,_=>rfl
 |.hs _ _ _,_,_=>rfl
 |.p _ _ _,_,_=>rfl
 |.e _ _ _ _,_,_=>rfl
 |.ap _ _,_,_=>rfl
 |.tn,_,_=>rfl
theorem Zdb(ids:List Id):∀(l:List AV){ρ:Type}(K:List AV->ρ),Zcb ids l K=K (l.map (wk tt (notI ids)))
 |[],_,_=>rfl
 |a::l,_,K=>by simp only[Zcb,Z48,Zdb ids l];rfl
theorem inI_iff:∀{l:List Id}{o:Id},inI l o=true↔o∈l
 |[],o=>by simp[inI]
 | j ::l,o=>by
   simp only[inI,List.mem_cons];cases e:idEq j o
   . simp only[nif,inI_iff];constructor
     . exact .inr
     . rintro(h|h)
       . subst h;rw[Z1m]at e;cases e
       . exact h
   . simp only[nif,true_iff];exact .inl (idEq_iff.1 e).symm
theorem notI_iff {l:List Id}{o:Id}:notI l o=true↔o∉l:=by
 unfold notI;rw[<-inI_iff];cases inI l o<;>simp[nif]
theorem allI_iff {p:Id->Bool}:∀{l:List Id},allI p l=true↔∀o∈l,p o=true
 |[]=>by simp[allI]
 | j::l=>by
   simp only[allI,List.mem_cons,forall_eq_or_imp];cases e:p j
   . simp[nif]
   . simp only[nif,true_and];exact allI_iff
theorem inN_iff:∀{l:List Nat}{o:Nat},inN l o=true↔o∈l
 |[],o=>by simp[inN]
 | j ::l,o=>by
   simp only[inN,List.mem_cons];cases e:Nat.beq j o
   . simp only[nif,inN_iff];have:=Nat.ne_of_beq_eq_false e;constructor
     . exact .inr
     . rintro(h|h)
       . exact absurd h.symm this
       . exact h
   . simp only[nif,true_iff];exact .inl (Nat.eq_of_beq_eq_true e).symm
def wkOb(p:Id->Bool):Ob->Ob
 |.box a=>.box (wk p p a)
 |.list t e xs=>.list t e xs
 |.map t k v es=>.map t k v es
theorem Z7p(fp:List Id):∀(a:AV){ρ:Type}(K:AV->ρ),wkK fp a K=K (wk (inI fp) (inI fp) a)
 |.pr a b,_,K=>by simp only[wkK,wk,Z7p fp a,Z7p fp b]
 |.tp a b,_,K=>by simp only[wkK,wk,Z7p fp a,Z7p fp b]
 |.cl f a,_,K=>by simp only[wkK,wk,Z7p fp a]
 |.ref o,_,K=>by simp only[wkK,wk];cases inI fp o<;>rfl
 |.hs o _ _,_,K=>by simp only[wkK,wk];cases inI fp o<;>rfl
 |.p o _ _,_,K=>by simp only[wkK,wk];cases inI fp o<;>rfl
 |.e o _ _ _,_,K=>by simp only[wkK,wk];cases inI fp o<;>rfl
 |.ap o _,_,K=>by simp only[wkK,wk];cases inI fp o<;>rfl
 |.s o _ _,_,K=>by simp only[wkK,wk];cases inI fp o<;>rfl
 |.dead,_,_=>rfl
 |.v _ _,_,_=>rfl
 |.hole _,_,_=>rfl
 |.tn,_,_=>rfl
def Zz(O:Obs)(fp:List Id):List Id->Obs
 |[]=>[]
 | o::l=>match look O o with
   |some b=>(o,wkOb (inI fp) b)::Zz O fp l
   |none=>Zz O fp l
theorem Zar(O:Obs)(fp:List Id):∀(l:List Id){ρ:Type}(K:Obs->ρ),Zb8 O fp l K=K (Zz O fp l)
 |[],_,_=>rfl
 | o ::l,_,K=>by
   simp only[Zb8,Zz];rw[Zar O fp l];cases look O o with
   |none=>rfl
   | some b=>cases b with
     |box a=>simp only[Z7p];rfl
     | _=>rfl
theorem Z2r {O:Obs}{fp:List Id}{o:Id}:∀{l:List Id},look (Zz O fp l) o=if o∈l then(look O o).map (wkOb (inI fp))else none
 |[]=>rfl
 | q ::l=>by
   simp only[Zz];by_cases e:o=q
   . subst e;rw[if_pos List.mem_cons_self];cases h:look O o with
     | none=>
       simp only;rw[Z2r];split
       . rw[h]
       . rfl
     |some b=>simp only;rw[Z9,if_pos rfl];rfl
   . have h1:look (Zz O fp (q::l)) o=look (Zz O fp l) o:=by
       simp only[Zz];cases look O q with
       |none=>rfl
       |some b=>simp only;rw[Z9,if_neg e]
     simp only[Zz]at h1;rw[h1,Z2r];simp only[List.mem_cons,e,false_or]
def Z7q(O:Obs)(fp l:List Id):List Id:=Z3r O fp l id
theorem Z2y(O:Obs)(fp:List Id):∀(l:List Id){ρ:Type}(K:List Id->ρ),Z3r O fp l K=K (Z7q O fp l)
 |[],_,_=>rfl
 | o ::l,_,K=>by
   simp only[Z7q,Z3r];rw[Z2y O fp l,Z2y O fp l];cases look O o with
   |none=>rfl
   | some b=>cases b with
     |box a=>simp only;cases allI (inI fp) (Zq a [])<;>rfl
     | _=>rfl
theorem Z38 {O:Obs}{fp:List Id}{o:Id}:∀{l:List Id},o∈Z7q O fp l->o∈l
 |[],h=>by cases h
 | q :: l,h=>by
   have h:o∈Z3r O fp (q::l) id:=h;simp only[Z3r,Z2y]at h;have h2:o∈Z7q O fp l\/o=q:=by
     cases e:look O q with
     |none=>rw[e]at h;exact .inl h
     | some b=>
       rw[e]at h;cases b with
       | box a=>
         simp only at h;cases e2:allI (inI fp) (Zq a [])<;>rw[e2]at h<;>simp only[nif,id,List.mem_cons]at h
         . exact h.symm
         . exact .inl h
       | _=>exact .inl h
   rcases h2 with h2|h2
   . exact List.mem_cons_of_mem _ (Z38 h2)
   . rw[h2];exact List.mem_cons_self
theorem Z9h {O:Obs}{fp:List Id}{o:Id}{a:AV}(hl:look O o=some (.box a))(hp:allI (inI fp) (Zq a [])=false):∀{l:List Id},o∈l->o∈Z7q O fp l
 |[],h=>by cases h
 | q :: l,h=>by
   show o∈Z3r O fp (q::l) id
   simp only[Z3r,Z2y];by_cases hq:o=q
   . subst hq;rw[hl];simp only[hp,nif,id];exact List.mem_cons_self
   . have h1:=Z9h hl hp (l:=l) (by rcases List.mem_cons.1 h with h|h<;>first|exact absurd h hq|exact h);cases look O q with
     |none=>exact h1
     | some b=>cases b with
       | box a'=>
         simp only;cases allI (inI fp) (Zq a' [])
         . exact List.mem_cons_of_mem _ h1
         . exact h1
       | _=>exact h1
def Z39(O:Obs):List Id->Obs
 |[]=>[]
 | o::l=>match look O o with
   |some b=>(o,b)::Z39 O l
   |none=>Z39 O l
theorem Zas(O:Obs):∀(l:List Id){ρ:Type}(K:Obs->ρ),Zb7 O l K=K (Z39 O l)
 |[],_,_=>rfl
 | o::l,_,K=>by
   simp only[Zb7,Z39];rw[Zas O l];cases look O o with
   |none=>rfl
   |some b=>cases b<;>rfl
theorem Z3a {O:Obs}{o:Id}:∀{l:List Id},look (Z39 O l) o=if o∈l then look O o else none
 |[]=>rfl
 | q ::l=>by
   simp only[Z39];by_cases e:o=q
   . subst e;rw[if_pos List.mem_cons_self];cases h:look O o with
     | none=>
       simp only;rw[Z3a];split
       . exact h
       . rfl
     |some b=>simp only;rw[Z9,if_pos rfl]
   . have h1:look (Z39 O (q::l)) o=look (Z39 O l) o:=by
       simp only[Z39];cases look O q with
       |none=>rfl
       |some b=>simp only;rw[Z9,if_neg e]
     simp only[Z39]at h1;rw[h1,Z3a];simp only[List.mem_cons,e,false_or]
def Z6z(fp:List Id)(O:Obs):Obs:=Z7x fp O id
theorem Z9i(fp:List Id)(O:Obs)(K:Obs->ρ):Z7x fp O K=K (Z6z fp O):=by
 unfold Z6z
 induction O generalizing ρ with
 |nil=>rfl
 | cons x l ih=>
   obtain⟨j,b⟩:=x;simp only[Z7x];rw[ih];conv=>rhs;rw[ih]
   cases inI fp j<;>rfl
theorem Zfx(fp:List Id)(O:Obs)(o:Id):look (Z6z fp O) o=if o∈fp then none else look O o:=by
 unfold Z6z
 induction O with
 |nil=>simp[Z7x,look]
 | cons x l ih=>
   obtain⟨j,b⟩:=x;simp only[Z7x];rw[Z9i];unfold Z6z;cases e:inI fp j
   . simp only[nif,id];rw[Z9,Z9,ih];by_cases h:o=j
     . subst h;have:¬o∈fp:=fun h=>by rw[inI_iff.2 h]at e;cases e
       simp[this]
     . simp[h]
   . simp only[nif,id];rw[Z9,ih];have:=inI_iff.1 e;by_cases h:o=j
     . subst h;simp[this]
     . simp[h]
theorem Zey:∀(O' O:Obs){ρ:Type}(K:Obs->ρ),appK O' O K=K (O'++O)
 |[],O,_,K=>rfl
 |(j,b)::O',O,_,K=>by simp only[appK,Zey O'];rfl
theorem Zh4(O' O:Obs)(o:Id):look (O'++O) o=if has O' o=true then look O' o else look O o:=by
 induction O' with
 |nil=>simp[has]
 | cons x l ih=>
   obtain⟨j,b⟩:=x;rw[List.cons_append,Z9,Z9,ih];by_cases h:o=j
   . subst h;have:has ((o,b)::l) o=true:=(Zp l o o b).2 (.inl rfl);simp[this]
   . have:has ((j,b)::l) o=has l o:=by
       simp only[has,Z2s (Ne.symm h)];rfl
     simp[h,this]
def Zat(wr:List Id)(O' O:Obs):Obs:=Z39 O' wr++Z6z wr O
theorem Zh5(wr:List Id)(O' O:Obs)(K:Obs->ρ):Zeg wr O' O K=K (Zat wr O' O):=by
 simp only[Zeg,Zas,Z9i,Zey];rfl
theorem Zau:∀O:Obs,Z6z [] O=O
 |[]=>rfl
 | (j,b)::O=>by
   have ih:=Zau O;unfold Z6z at ih⊢;simp only[Z7x,inI,nif];rw[Z9i];unfold Z6z;rw[ih];rfl
theorem Zfy(O' O:Obs):Zat [] O' O=O:=by
 unfold Zat;rw[Zau];rfl
theorem Zfz(wr:List Id)(O' O:Obs)(o:Id):look (Zat wr O' O) o=if o∈wr then look O' o else look O o:=by
 unfold Zat;rw[Zh4,Zfx,Z3a];by_cases h:o∈wr
 . rw[if_pos h,if_pos h,if_pos h];split
   . rfl
   . rename_i hn;cases e:look O' o with
     |none=>rfl
     |some b=>exact absurd (Z1 (b:=b) (by rw[Z3a,if_pos h];exact e)) hn
 . rw[if_neg h,if_neg h,if_neg h];split
   . rename_i hy;obtain⟨b,hb⟩:=has_look.1 hy;rw[Z3a,if_neg h]at hb;cases hb
   . rfl
def newA(fp:List Id)(O:Obs):List Id:=newI fp O id
theorem Z8j(fp:List Id):∀(O:Obs){ρ:Type}(K:List Id->ρ),newI fp O K=K (newA fp O)
 |[],_,_=>rfl
 | (j,b)::O,_,K=>by
   simp only[newA,newI];rw[Z8j fp O,Z8j fp O];cases inI fp j<;>rfl
theorem newA_mem {fp:List Id}{o:Id}:∀{O:Obs},o∈newA fp O↔has O o=true/\o∉fp
 |[]=>by simp[newA,newI,has]
 | (j, b)::O=>by
   have ih:=newA_mem (fp:=fp) (o:=o) (O:=O);have e1:newA fp ((j,b)::O)=nif (inI fp j) (newA fp O) (j::newA fp O):=by
     simp only[newA,newI];rw[Z8j fp O];cases inI fp j<;>rfl
   rw[e1,Zp];cases e:inI fp j
   . have hj:j∉fp:=fun h=>by rw[inI_iff.2 h]at e;cases e
     simp only[nif,List.mem_cons,ih];constructor
     . rintro(rfl|⟨h1,h2⟩)
       . exact⟨.inl rfl,hj⟩
       . exact⟨.inr h1,h2⟩
     . rintro⟨rfl|h1,h2⟩
       . exact .inl rfl
       . exact .inr ⟨h1,h2⟩
   . have hj:=inI_iff.1 e;simp only[nif,ih];constructor
     . rintro⟨h1,h2⟩;exact⟨.inr h1,h2⟩
     . rintro⟨rfl|h1,h2⟩
       . exact absurd hj h2
       . exact⟨h1,h2⟩
theorem Z3l:∀(l m:List Id){ρ:Type}(K:List Id->ρ),appI l m K=K (l++m)
 |[],_,_,_=>rfl
 |i::l,m,_,K=>by simp only[appI,Z3l l];rfl
def Zdc(O:Obs)(l:List Id):List Id:=Z5s O l id
theorem Z49(O:Obs):∀(l:List Id){ρ:Type}(K:List Id->ρ),Z5s O l K=K (Zdc O l)
 |[],_,_=>rfl
 | o ::l,_,K=>by
   simp only[Zdc,Z5s];rw[Z49 O l,Z49 O l];cases look O o with
   |none=>rfl
   | some b=>cases b with
     |list t e xs=>simp only;cases e.plain<;>rfl
     |map t k v es=>simp only;cases v.flat<;>rfl
     |box _=>rfl
theorem Z7r {O:Obs}{o:Id}:∀{l:List Id},o∈Zdc O l->o∈l
 |[],h=>by cases h
 | q :: l,h=>by
   have h:o∈Z5s O (q::l) id:=h;simp only[Z5s,Z49]at h;have h2:o∈Zdc O l\/o=q:=by
     cases e:look O q with
     |none=>rw[e]at h;exact .inl h
     | some b=>
       rw[e]at h;cases b with
       | list t e' xs=>
         simp only at h;cases e2:e'.plain<;>rw[e2]at h<;>simp only[nif,id,List.mem_cons]at h
         . exact h.symm
         . exact .inl h
       | map t k v es=>
         simp only at h;cases e2:v.flat<;>rw[e2]at h<;>simp only[nif,id,List.mem_cons]at h
         . exact h.symm
         . exact .inl h
       |box _=>exact .inl h
   rcases h2 with h2|h2
   . exact List.mem_cons_of_mem _ (Z7r h2)
   . rw[h2];exact List.mem_cons_self
def Ob.nested:Ob->Bool
 |.list _ e _=>!e.plain
 |.map _ _ v _=>!v.flat
 |.box _=>false
theorem Z7s {O:Obs}{o:Id}{bb:Ob}(hl:look O o=some bb)(hp:bb.nested=true):∀{l:List Id},o∈l->o∈Zdc O l
 |[],h=>by cases h
 | q :: l,h=>by
   show o∈Z5s O (q::l) id
   simp only[Z5s,Z49];by_cases hq:o=q
   . subst hq;rw[hl];cases bb with
     |box a=>cases hp
     | list t e xs=>
       have hp:e.plain=false:=by simpa[Ob.nested]using hp
       simp only[hp,nif,id];exact List.mem_cons_self
     | map t k v es=>
       have hp:v.flat=false:=by simpa[Ob.nested]using hp
       simp only[hp,nif,id];exact List.mem_cons_self
   . have h1:=Z7s hl hp (l:=l) (by rcases List.mem_cons.1 h with h|h<;>first|exact absurd h hq|exact h);cases look O q with
     |none=>exact h1
     | some b=>cases b with
       | list t e' xs=>
         simp only;cases e'.plain
         . exact List.mem_cons_of_mem _ h1
         . exact h1
       | map t k v es=>
         simp only;cases v.flat
         . exact List.mem_cons_of_mem _ h1
         . exact h1
       |box _=>exact h1
theorem Zav:∀(l:List Id){ρ:Type}(K:List Id->ρ),Zba l K=K l
 |[],_,_=>rfl
 |i::l,_,K=>by simp only[Zba,Zav l]
theorem Zaw:∀(l:List Nat){ρ:Type}(K:List Nat->ρ),Zbb l K=K l
 |[],_,_=>rfl
 |i::l,_,K=>by simp only[Zbb,Zaw l]
theorem Zax {p:Id->Bool}:∀a:AV,(wk p p a).men fun o=>p o=true
 |.pr a b=>⟨Zax a,Zax b⟩
 |.tp a b=>⟨Zax a,Zax b⟩
 |.cl f a=>Zax a
 |.ref o=>by simp only[wk];cases e:p o<;>first|trivial|exact e
 |.hs o _ _=>by simp only[wk];cases e:p o<;>first|trivial|exact e
 |.p o _ _=>by simp only[wk];cases e:p o<;>first|trivial|exact e
 |.e o _ _ _=>by simp only[wk];cases e:p o<;>first|trivial|exact e
 |.ap o _=>by simp only[wk];cases e:p o<;>first|trivial|exact e
 |.s o _ _=>by simp only[wk];cases e:p o<;>first|trivial|exact e
 |.dead=>trivial
 |.v _ _=>trivial
 |.hole _=>trivial
 |.tn=>trivial
theorem Z58 {O:Obs}:∀{k:Nat}{l fp:List Id}{K:List Id->Option ρ}{r:ρ},Z5y O k l fp K=some r->∃fp',K fp'=some r
 |0,l,fp,K,r,h=>⟨fp,by cases l<;>exact h⟩
 |k+1,[],fp,K,r,h=>⟨fp,h⟩
 | k+1,o::l,fp,K,r,h=>by
   simp only[Z5y]at h;rcases Z8 h with⟨_,h⟩|⟨_,h⟩
   . exact Z58 h
   . split at h<;>exact Z58 h
theorem Ze9 {o:Oper}{O:Obs}{ms:List Id}{K:List Id->Option ρ}{r:ρ}(h:Zga o O ms K=some r):∃fp,K fp=some r:=by
 unfold Zga at h;split at h
 all_goals first|exact⟨_,h⟩|exact Z58 h
theorem mensA_iff {P:Id->Prop}:∀{a:AV}{l:List Id},(∀o∈Zq a l,P o)↔a.men P/\∀o∈l,P o
 | .pr a b,l=>by
   simp only[Zq,AV.men];rw[mensA_iff (a:=a),mensA_iff (a:=b),and_assoc]
 | .tp a b,l=>by
   simp only[Zq,AV.men];rw[mensA_iff (a:=a),mensA_iff (a:=b),and_assoc]
 |.cl f a,l=>by simp only[Zq,AV.men];exact mensA_iff (a:=a)
 |.ref o,l=>by simp[Zq,AV.men]
 |.hs o _ _,l=>by simp[Zq,AV.men]
 |.p o _ _,l=>by simp[Zq,AV.men]
 |.e o _ _ _,l=>by simp[Zq,AV.men]
 |.ap o _,l=>by simp[Zq,AV.men]
 |.s o _ _,l=>by simp[Zq,AV.men]
 |.dead,l=>by simp[Zq,AV.men]
 |.v _ _,l=>by simp[Zq,AV.men]
 |.hole _,l=>by simp[Zq,AV.men]
 |.tn,l=>by simp[Zq,AV.men]
theorem mensL_iff {P:Id->Prop}:∀{l:List AV},(∀o∈Zca l,P o)↔∀a∈l,a.men P
 |[]=>by simp[Zca]
 |a::l=>by simp only[Zca,List.mem_cons,forall_eq_or_imp];rw[mensA_iff,mensL_iff]
structure Rc where
 o:Oper
 j:Nat
 run:Bool
 loud:Bool
 b:Bool
 fp:List Id
 wr:List Id
 O0:Obs
 O1:Obs
 ls:List Nat
 lt:List Nat
 pr:List Nat
 ev:Operand->AV
 a:AV
def Rc.lg(x:Rc):Lg:=⟨x.j,x.fp,x.wr,x.pr,x.o.dst,x.ls⟩
def Rc.ids(x:Rc):List Id:=x.fp++x.wr
theorem Rc.mem_ids {x:Rc}{i:Id}:i∈x.ids↔i∈x.fp\/i∈x.wr:=List.mem_append
def Rc.kills(x:Rc)(s:List AV):List AV:=nif (x.loud&&x.b) (s.map (wk tt (notI x.wr))) s
def Rc.store(x:Rc)(O:Obs):Obs:=Zat x.wr x.O1 O
def Zi(x:Rc)(σ:St):St:=(⟨x.kills σ.s,x.store σ.o⟩:St).set x.o.dst x.a
def AV.sm(P:Id->Prop):AV->Prop
 |.pr a b=>a.sm P/\b.sm P
 |.tp a b=>a.sm P/\b.sm P
 |.s o _ _=>P o
 |.cl _ a=>a.sm P
 | _=>True
theorem AV.men.sm {P:Id->Prop}:∀{a:AV},a.men P->a.sm P
 |.pr _ _,h=>⟨h.1.sm,h.2.sm⟩
 |.tp _ _,h=>⟨h.1.sm,h.2.sm⟩
 |.cl _ a,h=>AV.men.sm (a:=a) h
 |.s _ _ _,h=>h
 |.dead,_=>trivial
 |.v _ _,_=>trivial
 |.hole _,_=>trivial
 |.ref _,_=>trivial
 |.hs _ _ _,_=>trivial
 |.p _ _ _,_=>trivial
 |.e _ _ _ _,_=>trivial
 |.ap _ _,_=>trivial
 |.tn,_=>trivial
theorem Z7t {P:Id->Prop}:∀{a:AV},noS a=true->a.sm P
 | .pr a b,h=>by
   simp only[noS]at h;cases e:noS a<;>rw[e]at h
   . cases h
   . exact⟨Z7t e,Z7t h⟩
 | .tp a b,h=>by
   simp only[noS]at h;cases e:noS a<;>rw[e]at h
   . cases h
   . exact⟨Z7t e,Z7t h⟩
 |.cl _ a,h=>Z7t (a:=a) h
 |.s _ _ _,h=>by cases h
 |.dead,_=>trivial
 |.v _ _,_=>trivial
 |.hole _,_=>trivial
 |.ref _,_=>trivial
 |.hs _ _ _,_=>trivial
 |.p _ _ _,_=>trivial
 |.e _ _ _ _,_=>trivial
 |.ap _ _,_=>trivial
 |.tn,_=>trivial
theorem Z9j {q:Id->Bool}:∀{a:AV},(a.sm fun o=>q o=true)->wk tt q a=a
 |.pr a b,h=>by simp only[wk,Z9j h.1,Z9j h.2]
 |.tp a b,h=>by simp only[wk,Z9j h.1,Z9j h.2]
 |.cl f a,h=>by simp only[wk,Z9j (a:=a) h]
 |.s o _ _,h=>by have h:q o=true:=h;simp only[wk,h,nif]
 |.ref o,_=>rfl
 |.hs o _ _,_=>rfl
 |.p o _ _,_=>rfl
 |.e o _ _ _,_=>rfl
 |.ap o _,_=>rfl
 |.dead,_=>rfl
 |.v _ _,_=>rfl
 |.hole _,_=>rfl
 |.tn,_=>rfl
theorem AV.sm.mono {P Q:Id->Prop}(h:∀o,P o->Q o):∀{a:AV},a.sm P->a.sm Q
 |.pr _ _,h1=>⟨AV.sm.mono h h1.1,AV.sm.mono h h1.2⟩
 |.tp _ _,h1=>⟨AV.sm.mono h h1.1,AV.sm.mono h h1.2⟩
 |.cl _ a,h1=>AV.sm.mono (a:=a) h h1
 |.s _ _ _,h1=>h _ h1
 |.dead,_=>trivial
 |.v _ _,_=>trivial
 |.hole _,_=>trivial
 |.ref _,_=>trivial
 |.hs _ _ _,_=>trivial
 |.p _ _ _,_=>trivial
 |.e _ _ _ _,_=>trivial
 |.ap _ _,_=>trivial
 |.tn,_=>trivial
structure Stat (x:Rc):Prop where
 res:x.a.sm fun i=>i∈x.ids
 sub:∀t∈x.lt,t∈x.ls
 ev:∀t∈x.lt,(x.ev (.tmp t)).sm fun i=>i∈x.fp
structure Pre (x:Rc) (σ:St):Prop where
 seen:∀i∈x.fp,∃p,look x.O0 i=(look σ.o i).map (wkOb p)
 same:x.loud=true->∀i∈x.fp,i∉x.wr->look σ.o i=look x.O0 i
 new:∀i∈x.wr,i∉x.fp->has σ.o i=false
 ev:∀t∈x.lt,∃p q,x.ev (.tmp t)=wk p q (σ.get t)
def Valid:St->List Rc->Prop
 | _,[]=>True
 |σ,x::L=>Pre x σ/\Valid (Zi x σ) L
def final(σ:St)(L:List Rc):St:=L.foldl (fun σ x=>Zi x σ) σ
structure Eqv (σ τ:St):Prop where
 s:σ.s=τ.s
 o:∀i,look σ.o i=look τ.o i
theorem Eqv.refl(σ:St):Eqv σ σ:=⟨rfl,fun _=>rfl⟩
theorem Eqv.symm {σ τ:St}(h:Eqv σ τ):Eqv τ σ:=⟨h.s.symm,fun i=>(h.o i).symm⟩
theorem Eqv.trans {σ τ υ:St}(h:Eqv σ τ)(h2:Eqv τ υ):Eqv σ υ:=⟨h.s.trans h2.s,fun i=>(h.o i).trans (h2.o i)⟩
theorem Eqv.has {σ τ:St}(h:Eqv σ τ)(i:Id):has σ.o i=has τ.o i:=Zh (h.o i)
theorem Z3b(x:Rc)(O:Obs)(i:Id):look (x.store O) i=if i∈x.wr then look x.O1 i else look O i:=Zfz _ _ _ _
theorem Z14 {x:Rc}{O:Obs}{i:Id}(h:i∉x.wr):look (x.store O) i=look O i:=by
 rw[Z3b,if_neg h]
theorem Z2f(x:Rc)(σ:St):(Zi x σ).o=x.store σ.o:=Z2k _ _ _
theorem Z59(x:Rc)(σ:St):(Zi x σ).s=match x.o.dst with|some d=>setA (x.kills σ.s) d x.a|none=>x.kills σ.s:=by
 unfold Zi;cases x.o.dst<;>rfl
theorem Z3c {x:Rc}{σ:St}(h1:x.wr=[])(h2:x.loud=false):Zi x σ=σ.set x.o.dst x.a:=by
 unfold Zi Rc.kills Rc.store;rw[h1,h2,Zfy];rfl
theorem Eqv.step {σ τ:St}(h:Eqv σ τ)(x:Rc):Eqv (Zi x σ) (Zi x τ):=by
 refine⟨by rw[Z59,Z59,h.s],fun i=>?_⟩;rw[Z2f,Z2f,Z3b,Z3b,h.o]
theorem Eqv.pre {σ τ:St}(h:Eqv σ τ){x:Rc}(hx:Pre x σ):Pre x τ:=by
 refine⟨fun i hi=>(by rw[<-h.o i];exact hx.seen i hi),fun hl i hi hn=>(h.o i).symm.trans (hx.same hl i hi hn),fun i hi hn=>(h.has i).symm.trans (hx.new i hi hn),fun t ht=>?_⟩;obtain⟨p,q,hq⟩:=hx.ev t ht;exact⟨p,q,by rw[hq];unfold St.get;rw[h.s]⟩
theorem Eqv.valid:∀{L:List Rc}{σ τ:St},Eqv σ τ->Valid σ L->Valid τ L
 |[],_,_,_,_=>trivial
 |x::_,_,_,h,hv=>⟨h.pre hv.1,Eqv.valid (h.step x) hv.2⟩
theorem Eqv.final:∀{L:List Rc}{σ τ:St},Eqv σ τ->Eqv (final σ L) (final τ L)
 |[],_,_,h=>h
 |x::L,_,_,h=>Eqv.final (L:=L) (h.step x)
structure IndL (x y:Lg):Prop where
 xy:∀d,x.d=some d->d∉y.ls
 yx:∀d,y.d=some d->d∉x.ls
 dd:∀d,x.d=some d->y.d≠some d
 wx:∀i∈x.wr,i∉y.rd/\i∉y.wr
 wy:∀i∈y.wr,i∉x.rd/\i∉x.wr
theorem IndL.symm {x y:Lg}(h:IndL x y):IndL y x:=⟨h.yx,h.xy,fun d h1 h2=>h.dd d h2 h1,h.wy,h.wx⟩
abbrev Ind(x y:Rc):Prop:=IndL x.lg y.lg
theorem Zg0(x:Rc)(s:List AV)(O:Obs)(t:Nat):∃q,(⟨x.kills s,O⟩:St).get t=wk tt q ((⟨s,O⟩:St).get t)/\(q=tt\/q=notI x.wr):=by
 unfold Rc.kills;cases e:(x.loud&&x.b)
 . exact⟨tt,(Z9g _).symm,.inl rfl⟩
 . refine⟨notI x.wr,?_,.inr rfl⟩;simp only[nif,St.get,Z6j];cases nth s t<;>rfl
theorem Zea {σ:St}{d:Option Nat}{a:AV}{t:Nat}(h:∀e,d=some e->e≠t):(σ.set d a).get t=σ.get t:=by
 cases d with
 |none=>rfl
 | some e=>
   have:=h e rfl;simp only[St.set,St.get,Z4z];rw[if_neg (fun hh=>this hh.1.symm)]
theorem Zdd {x:Rc}{σ:St}{t:Nat}(h:∀d,x.o.dst=some d->d≠t):∃q,(Zi x σ).get t=wk tt q (σ.get t)/\(q=tt\/q=notI x.wr):=by
 unfold Zi;rw[Zea h];have:=Zg0 x σ.s (x.store σ.o) t;exact this
theorem Pre.before {x y:Rc}{σ:St}(hy:Stat y)(hi:Ind x y)(h:Pre y (Zi x σ)):Pre y σ:=by
 have hfar:∀i∈y.fp,look (Zi x σ).o i=look σ.o i:=fun i hf=>by
   rw[Z2f];exact Z14 fun hx=>(hi.wx i hx).1 hf
 refine⟨fun i hf=>?_,fun hl i hf hn=>?_,fun i hw hn=>?_,fun t ht=>?_⟩
 . rw[<-hfar i hf];exact h.seen i hf
 . rw[<-hfar i hf];exact h.same hl i hf hn
 . rw[<-h.new i hw hn,Z2f];exact(Zh (Z14 fun hx=>(hi.wx i hx).2 hw)).symm
 . obtain⟨p,q,hq⟩:=h.ev t ht;obtain⟨q2,hq2,_⟩:=Zdd (x:=x) (σ:=σ) (t:=t) fun d hd e=>hi.xy d hd (hy.sub d (e▸ht))
   rw[hq2,Z47]at hq;exact⟨_,_,hq⟩
theorem Pre.after {x y:Rc}{σ:St}(hx:Stat x)(hi:Ind x y)(h:Pre x σ):Pre x (Zi y σ):=by
 have hfar:∀i∈x.fp,look (Zi y σ).o i=look σ.o i:=fun i hf=>by
   rw[Z2f];exact Z14 fun hy=>(hi.wy i hy).1 hf
 refine⟨fun i hf=>?_,fun hl i hf hn=>?_,fun i hw hn=>?_,fun t ht=>?_⟩
 . rw[hfar i hf];exact h.seen i hf
 . rw[hfar i hf];exact h.same hl i hf hn
 . rw[Z2f,Zh (Z14 fun hy=>(hi.wy i hy).2 hw)];exact h.new i hw hn
 . obtain⟨p,q,hq⟩:=h.ev t ht;obtain⟨q2,hq2,hq3⟩:=Zdd (x:=y) (σ:=σ) (t:=t) fun d hd e=>hi.yx d hd (hx.sub d (e▸ht))
   refine⟨p,q,?_⟩;rw[hq2,Zex,<-hq];refine(Z9j ((hx.ev t ht).mono fun i hif=>?_)).symm;rcases hq3 with rfl|rfl
   . rfl
   . exact notI_iff.2 fun hyi=>(hi.wy i hyi).1 hif
theorem Zay {α:Type}:∀(l:List α){i j:Nat}(a b:α),i≠j->setA (setA l i a) j b=setA (setA l j b) i a
 |[],_,_,_,_,_=>rfl
 | _::_,0,0,_,_,h=>absurd rfl h
 |c::l,0,j+1,a,b,_=>by rw[Z13];exact Z13 a l j b
 |c::l,i+1,0,a,b,_=>by rw[Z13];exact(Z13 b l i a).symm
 | c::l,i+1,j+1,a,b,h=>by
   simp only[Z13];rw[Zay l a b fun e=>h (by rw[e])]
theorem Zde {α β:Type}(f:α->β):∀(l:List α)(i:Nat)(a:α),(setA l i a).map f=setA (l.map f) i (f a)
 |[],_,_=>rfl
 | _::_,0,_=>rfl
 | c::l,i+1,a=>by
   simp only[Z13,List.map_cons];rw[Zde f l]
theorem Z3m(x y:Rc)(s:List AV):x.kills (y.kills s)=y.kills (x.kills s):=by
 unfold Rc.kills;cases(x.loud&&x.b)<;>cases(y.loud&&y.b)<;>simp only[nif];rw[List.map_map,List.map_map];refine List.map_congr_left fun a _=>?_
 exact Zex _ _ _ _ a
theorem Z5q {x y:Rc}(hy:Stat y)(hi:Ind x y)(s:List AV)(d:Nat):x.kills (setA s d y.a)=setA (x.kills s) d y.a:=by
 unfold Rc.kills;cases e:(x.loud&&x.b)
 . rfl
 . simp only[nif];have h1:wk tt (notI x.wr) y.a=y.a:=Z9j (hy.res.mono fun i hiy=>notI_iff.2 fun hix=>by
     rcases Rc.mem_ids.1 hiy with h|h
     . exact(hi.wx i hix).1 h
     . exact(hi.wx i hix).2 h)
   rw[Zde,h1]
theorem Zg1 {x y:Rc}(hx:Stat x)(hy:Stat y)(hi:Ind x y)(σ:St):Eqv (Zi y (Zi x σ)) (Zi x (Zi y σ)):=by
 constructor
 . rw [Z59,Z59,Z59,Z59];cases hdx:x.o.dst with
   | none=>
     cases hdy:y.o.dst with
     |none=>exact Z3m _ _ _
     |some e=>simp only;rw[Z5q hy hi,Z3m]
   | some d=>
     cases hdy:y.o.dst with
     |none=>simp only;rw[Z5q hx hi.symm,Z3m]
     | some e=>
       simp only;rw[Z5q hx hi.symm,Z5q hy hi,Z3m];exact Zay _ _ _ fun h=>hi.dd d hdx (show y.o.dst=some d by rw[hdy,h])
 . intro i;rw[Z2f,Z2f,Z2f,Z2f];simp only[Z3b];by_cases h1:i∈x.wr
   . rw[if_neg (show i∉y.wr from(hi.wx i h1).2),if_pos h1,if_pos h1]
   . rw[if_neg h1,if_neg h1]
theorem Valid.front {x:Rc}{L2:List Rc}(hx:Stat x):∀{L1:List Rc}{σ:St},(∀y∈L1,Stat y/\Ind y x)->Valid σ (L1++x::L2)->Pre x σ/\Valid (Zi x σ) (L1++L2)/\Eqv (final σ (L1++x::L2)) (final (Zi x σ) (L1++L2))
 |[],σ,_,h=>⟨h.1,h.2,.refl _⟩
 | y::L1,σ,hL,h=>by
   obtain⟨h1,h2⟩:=h;obtain⟨h3,h4,h5⟩:=Valid.front (L2:=L2) hx (L1:=L1) (σ:=Zi y σ) (fun z hz=>hL z (List.mem_cons_of_mem _ hz)) h2;obtain⟨hy,hi⟩:=hL y List.mem_cons_self;have e:=Zg1 hy hx hi σ;exact⟨h3.before hx hi,⟨h1.after hy hi,e.valid h4⟩,h5.trans (Eqv.final e)⟩
end Go.Pv
namespace Go.Pv
open Go Go.Great
variable {own own' own1 own2:Own}{w w' w1 w2:World}{G G' G1 G2:Gs}{ρ:Type}{E:Env}[Base]
def Ob.ok:Ob->Prop
 |.box a=>a.ok=true
 | _=>True
def Ob.men(P:Id->Prop):Ob->Prop
 |.box a=>AV.men P a
 | _=>True
structure WR (own:Own) (w:World) (G:Gs) (tm:Array Value) (σ:St):Prop where
 len:σ.s.length=tm.size
 slot:∀i a,nth σ.s i=some a->AVv own w G (wk (has σ.o) (has σ.o) a) (tm.getD i undef)
 objs:∀o b,look σ.o o=some b->ObR own w G o (wkOb (has σ.o) b)/\b.ok
 bound:∀g,w.heap.size<=g->own g=.out
 base:Base.B own w
structure EvS (P:Id->Prop) (σ:St):Prop where
 slot:∀a∈σ.s,a.men P
 box:∀o b,look σ.o o=some b->b.men P
 live:∀o,has σ.o o=true->P o
theorem SR.wr {tm:Array Value}{σ:St}(h:SR own w G tm σ):WR own w G tm σ where
 len:=h.len
 slot:=fun i a ha=>by
   rw[Z37 ((h.closed.1 a (Z3g ha)).mono fun o ho=>⟨ho,ho⟩)];exact h.slot i a ha
 objs:=fun o b hb=>by
   cases b with
   | box a=>
     simp only[wkOb];rw[Z37 ((h.closed.2 o a hb).mono fun o ho=>⟨ho,ho⟩)];exact⟨h.objs o _ hb,(h.objs o _ hb).1.2⟩
   |list t e xs=>exact⟨h.objs o _ hb,trivial⟩
   |map t k v es=>exact⟨h.objs o _ hb,trivial⟩
 bound:=h.bound
 base:=h.base
theorem SR.evs {tm:Array Value}{σ:St}(h:SR own w G tm σ):EvS (fun o=>has σ.o o=true) σ where
 slot:=h.closed.1
 box:=fun o b hb=>by
   cases b with
   |box a=>exact h.closed.2 o a hb
   |list t e xs=>trivial
   |map t k v es=>trivial
 live:=fun _ h=>h
theorem Z4n(O:Obs):∀a:AV,swAA O (wk (has O) (has O) a)=swAA O a
 |.pr a b=>by simp only[wk,Z5h,Z4n O a,Z4n O b]
 |.tp a b=>by simp only[wk,Z6h,Z4n O a,Z4n O b]
 |.cl f a=>by simp only[wk,Z5g,Z4n O a]
 |.ref o=>by simp only[swAA,wk,swA];cases e:has O o<;>simp[nif,swA,e]
 |.hs o _ _=>by simp only[swAA,wk,swA];cases e:has O o<;>simp[nif,swA,e]
 |.p o _ _=>by simp only[swAA,wk,swA];cases e:has O o<;>simp[nif,swA,e]
 |.e o _ _ _=>by simp only[swAA,wk,swA];cases e:has O o<;>simp[nif,swA,e]
 |.ap o _=>by simp only[swAA,wk,swA];cases e:has O o<;>simp[nif,swA,e]
 |.s o _ _=>by simp only[swAA,wk,swA];cases e:has O o<;>simp[nif,swA]
 |.dead=>rfl
 |.v _ _=>rfl
 |.hole _=>rfl
 |.tn=>rfl
theorem Z1z {O O':Obs}(h:∀i,has O i=has O' i):∀a:AV,swAA O a=swAA O' a
 |.pr a b=>by simp only[Z5h,Z1z h a,Z1z h b]
 |.tp a b=>by simp only[Z6h,Z1z h a,Z1z h b]
 |.cl f a=>by simp only[Z5g,Z1z h a]
 |.ref o=>by simp only[swAA,swA,h]
 |.hs o _ _=>by simp only[swAA,swA,h]
 |.p o _ _=>by simp only[swAA,swA,h]
 |.e o _ _ _=>by simp only[swAA,swA,h]
 |.ap o _=>by simp only[swAA,swA,h]
 |.s o _ _=>rfl
 |.dead=>rfl
 |.v _ _=>rfl
 |.hole _=>rfl
 |.tn=>rfl
theorem WR.sw {tm:Array Value}{σ τ:St}(h:WR own w G tm σ)(he:Eqv σ τ):SR own w G tm τ.sw where
 len:=by simp only[St.sw,List.length_map];rw[<-he.s];exact h.len
 slot:=by
   intro i c hc;simp only[St.sw,Z6j,Option.map_eq_some_iff]at hc;obtain⟨c0,hc0,rfl⟩:=hc;rw[<-he.s]at hc0;have h1:=AVv.sweep (O:=σ.o) (Sealed.refl _ _) (P:=fun _=>True) (fun _ _ _=>rfl) (vwK_some.AV.men.all _) (h.slot i c0 hc0);rw[Z4n]at h1;rw[<-Z1z he.has];exact h1
 objs:=by
   intro o ob hob;simp only[St.sw]at hob⊢;rw[Z5i,<-he.o]at hob;obtain⟨b0,hb0,rfl⟩:=Option.map_eq_some_iff.1 hob;have h0:=h.objs o b0 hb0;cases b0 with
   |list t e xs=>exact h0.1
   |map t k v es=>exact h0.1
   | box c=>
     obtain⟨⟨hn,g,cur,T,h1,h2,h3,h4⟩,h5⟩:=h0;refine⟨⟨hn.1,Z6i _ _ h5⟩,g,cur,T,h1,h2,h3,?_⟩;have h6:=AVc.sweep (O:=σ.o) (Sealed.refl _ _) (P:=fun _=>True) (fun _ _ _=>rfl) (vwK_some.AV.men.all _) h4;rw[Z4n]at h6;rw[<-Z1z he.has];exact h6
 closed:=St.sw_closed _
 bound:=h.bound
 base:=h.base
theorem WR.world {tm:Array Value}{σ:St}(h:WR own w G tm σ)(hh:w'.heap=w.heap):WR own w' G tm σ:=by
 have hs:Sealed own w own w':=fun g hg=>⟨hg,by rw[hh]⟩
 refine⟨h.len,fun i a ha=>?_,fun o b hb=>⟨?_,(h.objs o b hb).2⟩,fun g hg=>h.bound g (by rw[<-hh];exact hg),Base.keep h.base fun g hg=>⟨hg,by rw[hh]⟩⟩
 . exact AVv.wk hs (P:=fun _=>True) (fun o _ ho=>⟨ho,rfl⟩) (fun o _ ho=>⟨ho,rfl,fun _ k _=>by rw[hh]⟩) (vwK_some.AV.men.all _) (h.slot i a ha)
 . exact(h.objs o b hb).1.stay (P:=fun _=>True) hs (fun g s hg=>⟨hg,by rw[hh]⟩) rfl (fun a _=>vwK_some.AV.men.all a) (fun _ _=>rfl)
structure Opn (E:Env) (call:Z42) (f:Nat) (all:List Oper) (x:Rc):Prop extends Stat x where
 kind:((x.a.men fun i=>i∈x.ids)/\∀t∈x.lt,(x.ev (.tmp t)).men fun i=>i∈x.fp)\/
   (x.loud=false/\∃t,(x.o.op=.move (.tmp t)\/x.o.op=.assign (.tmp t))/\t∈x.lt/\x.a=x.ev (.tmp t))
 ls:x.ls=Zy all x.o
 other:∀v,(∀t,v≠.tmp t)->x.ev v=(⟨[],[]⟩:St).ev v
 near:∀i,has x.O0 i=true↔i∈x.fp
 box:∀o a,look x.O0 o=some (.box a)->a.men fun i=>i∈x.fp
 quiet:x.loud=false->x.O1=x.O0/\x.wr=[]
 old:∀i∈x.fp,i∉x.wr->look x.O1 i=look x.O0 i
 made:∀i,has x.O1 i=true->i∈x.fp\/i∈x.wr
 new1:∀i∈x.wr,i∉x.fp->has x.O1 i=true
 nst:x.b=true->∀i∈x.fp,i∉x.wr->∀bb,look x.O0 i=some bb->bb.nested=false
theorem Z70(σ:St)(v:Operand)(h:∀t,v≠.tmp t):σ.ev v=(⟨[],[]⟩:St).ev v:=by
 cases v with
 |tmp t=>exact absurd rfl (h t)
 |const c=>cases c<;>rfl
 | _=>rfl
def Zt(fp:List Id)(own:Own):Own:=fun g=>match own g with
 |.ob o s=>nif (inI fp o) (.ob o s) .out
 |l=>l
def Z4o(fp:List Id)(own own1:Own):Own:=fun g=>match own g with
 |.ob o s=>nif (inI fp o) (own1 g) (.ob o s)
 | _=>own1 g
theorem Z3n(fp:List Id)(own:Own)(w:World):Sealed own w (Zt fp own) w:=fun g hg=>⟨by simp only[Zt,hg],rfl⟩
theorem Zhm {fp:List Id}{o:Id}{g:Nat}{s:List Nat}(h:o∈fp)(hg:own g=.ob o s):Zt fp own g=.ob o s:=by
 simp only[Zt,hg,inI_iff.2 h];rfl
theorem Zh6 {fp:List Id}{o:Id}{g:Nat}{s:List Nat}(h:o∉fp)(hg:own g=.ob o s):Zt fp own g=.out:=by
 have:inI fp o=false:=by cases e:inI fp o<;>first|rfl|exact absurd (inI_iff.1 e) h
 simp only[Zt,hg,this];rfl
theorem Z9k {fp:List Id}{g:Nat}(h:∀o s,own g≠.ob o s):Zt fp own g=own g:=by
 unfold Zt;cases e:own g with
 |ob o s=>exact absurd e (h o s)
 |out=>rfl
 |sh=>rfl
section
variable {tm:Array Value}{σ:St}{x:Rc}{call:Z42}{f:Nat}{all:List Oper}
theorem Pre.live {i:Id}(hx:Opn E call f all x)(hp:Pre x σ)(hi:i∈x.fp):has σ.o i=true:=by
 obtain⟨b,hb⟩:=has_look.1 ((hx.near i).2 hi);obtain⟨p,hp⟩:=hp.seen i hi;rw[hb]at hp;cases e:look σ.o i with
 |none=>rw[e]at hp;cases hp
 |some b'=>exact Z1 e
theorem WR.objs0(h:WR own w G tm σ)(hx:Opn E call f all x)(hp:Pre x σ):Mem (Zt x.fp own) w G x.O0 fun i=>has x.O0 i=true where
 objs := fun o b hb=>by
   have hof:=(hx.near o).1 (Z1 hb);obtain⟨p,hpo⟩:=hp.seen o hof;rw[hb]at hpo;obtain⟨b',hb',rfl⟩:=Option.map_eq_some_iff.1 hpo.symm;obtain⟨h1,h2⟩:=h.objs o b' hb';have h3:ObR own w G o (wkOb p b'):=by
     cases b' with
     |list t e xs=>exact h1
     |map t k v es=>exact h1
     | box a=>
       have h2:a.ok=true:=h2;obtain⟨hn,g,cur,T,e1,e2,e3,e4⟩:=h1;refine⟨⟨hn.1,Zaq _ _ h2⟩,g,cur,T,e1,e2,e3,?_⟩;have hm:(wk p p a).men fun i=>i∈x.fp:=hx.box o _ hb
       have e5:wk p p a=wk (fun i=>has σ.o i&&p i) (fun i=>has σ.o i&&p i) a:=by
         have:wk (has σ.o) (has σ.o) (wk p p a)=wk p p a:=Z37 (hm.mono fun i hi=>⟨hp.live hx hi,hp.live hx hi⟩);rw[<-this,Z47]
       rw[e5];exact AVc.wk (Sealed.refl _ _) (P:=fun _=>True) (fun i _ hi=>⟨by simp only[Bool.and_eq_true]at hi;exact hi.1,rfl⟩) (fun i _ hi=>⟨by simp only[Bool.and_eq_true]at hi;exact hi.1,rfl,fun _ _ _=>rfl⟩) (vwK_some.AV.men.all _) e4
   exact h3.stay (P:=fun _=>True) (Z3n _ _ _) (fun g s hg=>⟨Zhm hof hg,rfl⟩) rfl (fun a _=>vwK_some.AV.men.all a) (fun _ _=>rfl)
 box:=fun o c hc=>(hx.box o c hc).mono fun i hi=>(hx.near i).2 hi
 live:=fun _ h=>h
 bound:=fun g hg=>by
   have:=h.bound g hg;rw[Z9k (fun o s e=>by rw[this]at e;cases e)];exact this
 base:=Base.keep h.base (Z3n _ _ _)
theorem WR.evs {act:Act}(h:WR own w G act.tmps σ)(hx:Opn E call f all x)(hxe:∀t∈x.lt,(x.ev (.tmp t)).men fun i=>i∈x.fp)(hp:Pre x σ)(v:Operand)(hv:∀t,v=.tmp t->t∈x.lt):
   AVv (Zt x.fp own) w G (x.ev v) (act.eval v)/\(x.ev v).men fun o=>has x.O0 o=true:=by
 by_cases ht:∃t,v=.tmp t
 . obtain⟨t,rfl⟩:=ht;have ht:=hv t rfl;have hm:=hxe t ht;refine⟨?_,hm.mono fun i hi=>(hx.near i).2 hi⟩;obtain⟨p,q,hq⟩:=hp.ev t ht;have hl:∀i∈x.fp,has σ.o i=true:=fun i hi=>hp.live hx hi
   have e1:x.ev (.tmp t)=wk (fun o=>has σ.o o&&p o) (fun o=>has σ.o o&&q o) (σ.get t):=by
     have:wk (has σ.o) (has σ.o) (x.ev (.tmp t))=x.ev (.tmp t):=Z37 (hm.mono fun i hi=>⟨hl i hi,hl i hi⟩);rw[<-this,hq,Z47]
   have e2:act.eval (.tmp t)=act.tmps.getD t undef:=rfl;rw[e1,e2];unfold St.get;cases e:nth σ.s t with
   |none=>trivial
   | some a=>
     exact AVv.wk (Z3n _ _ _) (P:=fun _=>True) (p:=has σ.o) (q:=has σ.o) (fun o _ ho=>⟨by simp only[Bool.and_eq_true]at ho;exact ho.1,rfl⟩) (fun o _ ho=>⟨by simp only[Bool.and_eq_true]at ho;exact ho.1,rfl,fun _ _ _=>rfl⟩) (vwK_some.AV.men.all _) (h.slot t a e)
 . have ht:∀t,v≠.tmp t:=fun t e=>ht ⟨t,e⟩
   rw[hx.other v ht];have hsr:SR (Zt x.fp own) w G #[] ⟨[],[]⟩:=⟨rfl,fun i a h=>(by cases i<;>cases h),fun o b h=>(by cases h),⟨fun a h=>(by cases h),fun o a h=>(by cases h)⟩,(h.objs0 hx hp).bound,(h.objs0 hx hp).base⟩;have:=SR.ev (act:=⟨#[],[]⟩) hsr v;refine⟨?_,this.2.mono fun o ho=>by cases ho⟩;have e:act.eval v=(⟨#[],[]⟩:Act).eval v:=by
     cases v<;>first|rfl|exact absurd rfl (ht _)
   rw[e];exact this.1
structure Rn (E:Env) (call:Z42) (f:Nat) (x:Rc):Prop where
 w:x.loud=true->isW x.o=true/\opW E call f x.o x.ev x.O0 (fun a O b=>some (a,O,b))=some (x.a,x.O1,x.b)/\∀e,x.o.dst=some e->∀i,pre [e] i=true->has x.O0 i=false
 lt:x.lt=x.ls
 q:x.loud=false->isW x.o=false/\x.b=false/\opQ E x.o x.ev x.O0 some=some x.a
theorem Zg2 {op:Op}{v:Operand}(h:v∈op.operands.toList):v∈Zm op:=by
 cases op with
 | call c=>
   obtain⟨callee,args,at'⟩:=c;cases callee with
   |value f=>simpa[Zm,Op.operands,Call.operands]using h
   |builtin b=>simpa[Zm,Op.operands,Call.operands]using h
   |invoke r m=>exact h
 |buildSlice t n ps=>simpa[Zm,Op.operands]using h
 |build t ps=>simpa[Zm,Op.operands]using h
 |makeFunc g a b=>simpa[Zm,Op.operands]using h
 |slice t x l u m=>cases m<;>cases l<;>cases u<;>simpa[Zm,Op.operands]using h
 | makeMap t r=>cases r with
   |none=>simp[Op.operands]at h
   |some x=>exact h
 | _=>exact h
theorem Zh7 {x:Rc}(hl:x.ls=Zy all x.o){v:Operand}(hv:v∈x.o.op.operands.toList):∀t,v=.tmp t->t∈x.ls:=by
 have hv:=Zg2 hv;rintro t rfl;have h1:∀{l:List Operand},Operand.tmp t∈l->t∈Z25 l:=by
   intro l
   induction l with
   |nil=>intro h;cases h
   | cons a l ih=>
     intro h;rcases List.mem_cons.1 h with h1|h1
     . rw[<-h1];simp only[Z25];exact List.mem_cons_self
     . cases a<;>simp only[Z25]<;>first|exact ih h1|exact List.mem_cons_of_mem _ (ih h1)
 rw[hl];unfold Zy;split
 . split
   . exact List.mem_cons_of_mem _ (h1 hv)
   . exact h1 hv
 . exact h1 hv
theorem WR.comes(hE:EnvOk E)(hcall:Z1v E call){act:Act}(h:WR own w G act.tmps σ)(hx:Opn E call f all x)(hxe:∀t∈x.lt,(x.ev (.tmp t)).men fun i=>i∈x.fp)(hn:Rn E call f x)(hp:Pre x σ):
   ∀R:Value->World->Prop,(∀own' w' G' v,Made (Zt x.fp own) w G x.O0 own' w' G' x.O1 x.b x.a v->R v w')->Does E.P act.eval x.o w R:=by
 have hM:=h.objs0 hx hp;have hv:∀v∈x.o.op.operands.toList,AVv (Zt x.fp own) w G (x.ev v) (act.eval v)/\(x.ev v).men fun o=>has x.O0 o=true:=fun v hv=>h.evs hx hxe hp v fun t ht=>by rw[hn.lt];exact Zh7 hx.ls hv t ht
 have fin:Comes1 E act.eval x.o (Zt x.fp own) w G x.O0 (fun a O b=>some (a,O,b)) (x.a,x.O1,x.b)->∀R:Value->World->Prop,(∀own' w' G' v,Made (Zt x.fp own) w G x.O0 own' w' G' x.O1 x.b x.a v->R v w')->Does E.P act.eval x.o w R:=fun⟨a,O',b,hK,hR⟩=>by
   simp only[Option.some.injEq,Prod.mk.injEq]at hK;obtain⟨rfl,rfl,rfl⟩:=hK;exact hR
 cases hl:x.loud with
 | true=>
   obtain⟨h1,h2,h3⟩:=hn.w hl;refine fin (Zcy hE hcall hM h3 hv (fun _=>rfl) (f:=f) ?_);unfold opA;rw[h1];exact h2
 | false=>
   obtain⟨h1,h2,h3⟩:=hn.q hl;refine fin ?_;rw[(hx.quiet hl).1,h2];obtain⟨a,v,hK,hrun,ha,hm⟩:=Z8z hE (V:=act.eval) hM.objs hM.box ⟨hv,fun _=>rfl⟩ h3;simp only[Option.some.injEq]at hK;subst hK;exact .val rfl hrun ⟨ha,hm,.refl hM.objs hM.bound⟩
theorem Z71 {act:Act}{s:List AV}{O:Obs}(hlen:s.length=act.tmps.size){d:Option Nat}{a:AV}{v:Value}:
   ∀i c,nth ((⟨s,O⟩:St).set d a).s i=some c->(c=a/\(act.put d v).tmps.getD i undef=v)\/(nth s i=some c/\(act.put d v).tmps.getD i undef=act.tmps.getD i undef):=by
 intro i c hc;cases d with
 |none=>exact .inr ⟨hc,rfl⟩
 | some d=>
   simp only[St.set,Z4z]at hc;simp only[Act.put];split at hc
   . rename_i hi;cases hc;left;refine⟨rfl,?_⟩;have:d<act.tmps.size:=by rw[<-hlen];exact hi.2
     rw[hi.1];simp[Array.getD_eq_getD_getElem?,this]
   . rename_i hi;right;refine⟨hc,?_⟩;by_cases hid:i=d
     . subst hid;have:¬i<act.tmps.size:=by rw[<-hlen];exact fun hlt=>hi ⟨rfl,hlt⟩
       simp[Array.getD_eq_getD_getElem?,this]
     . simp[Array.getD_eq_getD_getElem?,Array.getElem?_setIfInBounds_ne (Ne.symm hid)]
theorem Zg3(x:Rc)(s:List AV):(x.kills s).length=s.length:=by
 unfold Rc.kills;cases(x.loud&&x.b)<;>simp[nif]
theorem Zg4 {x:Rc}{s:List AV}{i:Nat}{c:AV}(h:nth (x.kills s) i=some c):∃c0 q,nth s i=some c0/\c=wk tt q c0/\((x.loud&&x.b)=true->q=notI x.wr):=by
 unfold Rc.kills at h;cases e:(x.loud&&x.b)
 . rw[e]at h;exact⟨c,tt,h,(Z37 (AV.men.mono (fun o _=>⟨rfl,rfl⟩) (vwK_some.AV.men.all _))).symm,fun h=>by cases h⟩
 . rw[e]at h;simp only[nif,Z6j,Option.map_eq_some_iff]at h;obtain⟨c0,h1,h2⟩:=h;exact⟨c0,_,h1,h2.symm,fun _=>rfl⟩
theorem Zdf {x:Rc}{σ:St}{a:AV}(h:a∈(Zi x σ).s):a=x.a\/∃c0 q,c0∈σ.s/\a=wk tt q c0:=by
 have h1:a=x.a\/a∈x.kills σ.s:=by
   rw[Z59]at h;split at h
   . exact Z40 h
   . exact .inr h
 rcases h1 with h1|h1
 . exact .inl h1
 . right;unfold Rc.kills at h1;cases e:(x.loud&&x.b)
   . rw[e]at h1;exact⟨a,tt,h1,(Z37 (AV.men.mono (fun o _=>⟨rfl,rfl⟩) (vwK_some.AV.men.all _))).symm⟩
   . rw[e]at h1;simp only[nif,List.mem_map]at h1;obtain⟨c0,h2,h3⟩:=h1;exact⟨c0,_,h2,h3.symm⟩
theorem Z9l(p q q':Id->Bool):∀{a:AV},a.ok=true->wk p q a=wk p q' a
 |.pr a b,h=>by simp only[wk];rw[Z9l p q q' (ok_pr.1 h).1,Z9l p q q' (ok_pr.1 h).2]
 |.tp a b,h=>by cases h
 |.cl f a,h=>by simp only[wk];rw[Z9l p q q' (a:=a) h]
 |.ref o,h=>rfl
 |.hs o _ _,h=>rfl
 |.p o _ _,h=>rfl
 |.e o _ _ _,h=>rfl
 |.ap o _,h=>rfl
 |.s o _ _,h=>by cases h
 |.dead,h=>rfl
 |.v _ _,_=>rfl
 |.hole _,_=>rfl
 |.tn,h=>rfl
theorem ObR.wk {o:Id}{b:Ob}{p:Id->Bool}(h:ObR own w G o b):ObR own w G o (wkOb p b):=by
 cases b with
 | box a=>
   obtain⟨hn,g,cur,T,h1,h2,h3,h4⟩:=h;refine⟨⟨hn.1,Zaq _ _ hn.2⟩,g,cur,T,h1,h2,h3,?_⟩;rw[Z9l p p (fun _=>false) hn.2];refine AVc.wk (Sealed.refl _ _) (P:=fun _=>True) (p:=tt) (q:=tt) (fun _ _ _=>⟨rfl,rfl⟩) (fun _ _ h=>by cases h) (vwK_some.AV.men.all _) ?_;rw[Z9g];exact h4
 |list t e xs=>exact h
 |map t k v es=>exact h
theorem WR.stepL(hE:EnvOk E)(hcall:Z1v E call){act:Act}{P:Id->Prop}(h:WR own w G act.tmps σ)(hev:EvS P σ)(hx:Opn E call f all x)(hn:Rn E call f x)(hp:Pre x σ)(hnew:∀i∈x.wr,i∉x.fp->¬P i)(hl:x.loud=true):
   ∀R:Value->World->Prop,(∀own' w' G' v,WR own' w' G' (act.put x.o.dst v).tmps (Zi x σ)->EvS (fun i=>P i\/i∈x.ids) (Zi x σ)->Keeps own own' w w'->R v w')->Does E.P act.eval x.o w R:=by
 intro R hR;have hids:∀i,i∈x.ids↔has x.O1 i=true\/i∈x.fp:=by
   intro i;rw[Rc.mem_ids];constructor
   . rintro(h1|h1)
     . exact .inr h1
     . by_cases hf:i∈x.fp
       . exact .inr hf
       . exact .inl (hx.new1 i h1 hf)
   . rintro(h1|h1)
     . exact hx.made i h1
     . exact .inl h1
 obtain⟨hxr,hxe⟩:=hx.kind.resolve_right fun h=>by rw[hl]at h;cases h.1
 refine h.comes hE hcall hx hxe hn hp R fun own1 w' G' v hm=>?_
 have hM:=h.objs0 hx hp;have hpo:=hm.post;have hfar:∀g o s,own g=.ob o s->o∉x.fp->own1 g=.out/\w'.heap[g]?=w.heap[g]?/\Z4o x.fp own own1 g=.ob o s:=by
   intro g o s hg ho;have hlt:g<w.heap.size:=by
     rcases Nat.lt_or_ge g w.heap.size with h'|h'
     . exact h'
     . rw[h.bound g h']at hg;cases hg
   have h1:=hpo.outs g hlt (Zh6 ho hg);have:inI x.fp o=false:=by cases e:inI x.fp o<;>first|rfl|exact absurd (inI_iff.1 e) ho
   exact⟨h1.1,h1.2,by simp only[Z4o,hg,this];rfl⟩
 have hback:∀g,own1 g≠.out->Z4o x.fp own own1 g=own1 g:=by
   intro g hg;unfold Z4o;split
   . rename_i o s ho;cases e:inI x.fp o
     . exact absurd (hfar g o s ho fun hf=>by rw[inI_iff.2 hf]at e;cases e).1 hg
     . rfl
   . rfl
 have hplain:∀g,(∀o s,own g≠.ob o s)->Z4o x.fp own own1 g=own1 g:=by
   intro g hg;unfold Z4o;split
   . rename_i o s ho;exact absurd ho (hg o s)
   . rfl
 have hs12:Sealed own1 w' (Z4o x.fp own own1) w':=fun g hg=>⟨by rw[hback g (by rw[hg];intro e;cases e)];exact hg,rfl⟩
 have hsealed:Sealed own w (Z4o x.fp own own1) w':=fun g hg=>by
   have h1:=hpo.sealed g ((Z3n x.fp own w) g hg).1;exact⟨by rw[hplain g fun o s e=>by rw[hg]at e;cases e];exact h1.1,h1.2⟩
 have hlook:∀i,look (Zi x σ).o i=if has x.O1 i=true then look x.O1 i else if i∈x.fp then none else look σ.o i:=by
   intro i;rw[Z2f,Z3b];by_cases hw:i∈x.wr
   . rw[if_pos hw];by_cases h1:has x.O1 i=true
     . rw[if_pos h1]
     . rw[if_neg h1,Z5f (by simpa using h1)];by_cases hf:i∈x.fp
       . rw[if_pos hf]
       . exact absurd (hx.new1 i hw hf) h1
   . rw[if_neg hw];by_cases hf:i∈x.fp
     . rw[hp.same hl i hf hw,<-hx.old i hf hw];by_cases h1:has x.O1 i=true
       . rw[if_pos h1]
       . rw[if_neg h1,if_pos hf,Z5f (by simpa using h1)]
     . have h1:¬has x.O1 i=true:=fun h1=>(hx.made i h1).elim hf hw
       rw[if_neg h1,if_neg hf]
 have hhas:∀i,has (Zi x σ).o i=true->has x.O1 i=true\/(i∉x.fp/\has x.O1 i=false/\has σ.o i=true):=by
   intro i hi;obtain⟨b,hb⟩:=has_look.1 hi;rw[hlook]at hb;split at hb
   . rename_i h1;exact .inl h1
   . rename_i h1;split at hb
     . cases hb
     . rename_i h2;exact .inr ⟨h2,by simpa using h1,Z1 hb⟩
 have hid:∀{i},i∉x.fp->has x.O1 i=false->i∉x.ids:=fun hf ho hi=>by
   rcases(hids _).1 hi with h1|h1
   . rw[h1]at ho;cases ho
   . exact hf h1
 have hG2:∀{i},i∈x.ids->nif (inI x.ids i) (G' i) (G i)=G' i:=fun hi=>by rw[inI_iff.2 hi];rfl
 have hG1:∀{i},i∉x.ids->nif (inI x.ids i) (G' i) (G i)=G i:=fun {i} hi=>by
   have:inI x.ids i=false:=by cases e:inI x.ids i<;>first|rfl|exact absurd (inI_iff.1 e) hi
   rw[this];rfl
 have hP:∀o,P o->has (Zi x σ).o o=true->has σ.o o=true/\nif (inI x.ids o) (G' o) (G o)=G o:=by
   intro o hPo ho;rcases hhas o ho with h1|⟨h1,h2,h3⟩
   . have hi:=(hids o).2 (.inl h1);by_cases hf:o∈x.fp
     . have h0:=(hx.near o).2 hf;exact⟨hp.live hx hf,by rw[hG2 hi];exact hpo.same o h0 h1⟩
     . exact absurd hPo (hnew o ((Rc.mem_ids.1 hi).resolve_left hf) hf)
   . exact⟨h3,hG1 (hid h1 h2)⟩
 have hSame:∀o,P o->has (Zi x σ).o o=true->((x.loud&&x.b)=true->o∉x.wr)->(G o).nest=true->Z30 w w' (G o).v:=by
   intro o hPo ho hk hne;by_cases hf:o∈x.fp
   . have h0:=(hx.near o).2 hf;cases hb:x.b with
     |false=>exact hpo.nest hb o h0 hne
     | true=>
       have hw:=hk (by rw[hl,hb];rfl);obtain⟨ob,hob⟩:=has_look.1 h0;have hobr:=hM.objs o ob hob;cases ob with
       |box a=>obtain⟨⟨h1,_⟩,_⟩:=hobr;rw[h1]at hne;cases hne
       | map tid k v es=>
         obtain⟨h2,_⟩:=hobr;rw[h2]at hne;have:=hx.nst hb o hf hw _ hob;simp only[Ob.nested]at this;rw[this]at hne;cases hne
       | list tid e xs=>
         obtain⟨_,h2,_⟩:=hobr;rw[h2]at hne;have:=hx.nst hb o hf hw _ hob;simp only[Ob.nested]at this;rw[this]at hne;cases hne
   . intro k hv;obtain⟨b,hb⟩:=has_look.1 (hP o hPo ho).1;have hob:=(h.objs o b hb).1;cases b with
     |box a=>obtain⟨⟨h1,_⟩,_⟩:=hob;rw[h1]at hne;cases hne
     | map t k v es=>
       obtain⟨_,h3⟩:=hob;simp only[Rep,List.cons.injEq,and_true]at h3;obtain⟨_,_,⟨h3,_⟩|⟨g,en,c,l,_,h3,ho,_⟩⟩:=h3
       . rw[h3]at hv;cases hv
       . rw[h3]at hv;cases hv;exact(hfar _ o [] ho hf).2.1
     | list tid e xs=>
       obtain⟨_,_,h3⟩:=hob;simp only[Rep,List.cons.injEq,and_true]at h3;rcases h3 with⟨h3,_⟩|⟨g,cap,cur,h3,ho,_⟩
       . rw[h3]at hv;cases hv
       . rw[h3]at hv;cases hv;exact(hfar _ o [] ho hf).2.1
 have hlen:(x.kills σ.s).length=act.tmps.size:=by rw[Zg3];exact h.len
 refine hR (Z4o x.fp own own1) w' (fun o=>nif (inI x.ids o) (G' o) (G o)) v ⟨?_,?_,?_,?_,Base.keep h.base hsealed⟩ ⟨?_,?_,?_⟩ ⟨hsealed,?_,hpo.size,hpo.os,hpo.tape,hpo.output⟩
 . unfold Zi;rw[Z4f,Z41];exact hlen
 . intro i c hc;rcases Z71 hlen (v:=v) i c hc with⟨rfl,hv⟩|⟨hn0,hv⟩
   . rw [hv];have hin:x.a.men fun o=>has (Zi x σ).o o=true/\has (Zi x σ).o o=true:=hm.men.mono fun o ho=>by
       have:has (Zi x σ).o o=true:=by
         obtain⟨b,hb⟩:=has_look.1 ho;exact Z1 (b:=b) (by rw[hlook,if_pos ho];exact hb)
       exact⟨this,this⟩
     rw[Z37 hin];exact AVv.keep hs12 (P:=fun o=>has x.O1 o=true) (fun o ho=>⟨hG2 ((hids o).2 (.inl ho)),fun _ _ _=>rfl⟩) hm.men hm.val
   . rw[hv];obtain⟨c0,q,h1,rfl,hq⟩:=Zg4 hn0;rw[Z47];refine AVv.wk hsealed (P:=P) (fun o hPo ho=>hP o hPo (by simp only[Bool.and_eq_true]at ho;exact ho.1)) (fun o hPo ho=>?_) (hev.slot c0 (Z3g h1)) (h.slot i c0 h1);simp only[Bool.and_eq_true]at ho;refine⟨(hP o hPo ho.1).1,(hP o hPo ho.1).2,hSame o hPo ho.1 fun hk=>?_⟩;rw[hq hk]at ho;exact notI_iff.1 ho.2
 . intro o b hb;rw[hlook]at hb;split at hb
   . rename_i h1;have hob:=hpo.objs o b hb;refine⟨ObR.wk (hob.stay (P:=fun i=>i∈x.ids) hs12 (fun g s hg=>⟨by rw[hback g (by rw[hg];intro e;cases e)];exact hg,rfl⟩) (hG2 ((hids o).2 (.inl h1))) (fun a ha=>?_) (fun i hi=>hG2 hi)),?_⟩
     . subst ha;exact(hpo.box _ hM.box o a hb).mono fun i hi=>(hids i).2 (hi.symm.imp id (hx.near i).1)
     . cases b with
       |box a=>exact hob.1.2
       |list t e xs=>trivial
       |map t k v es=>trivial
   . rename_i h1;split at hb
     . cases hb
     . rename_i h2;have hni:=hid h2 (by simpa using h1);obtain⟨hob,hok⟩:=h.objs o b hb;refine⟨?_,hok⟩;cases b with
       |list t e xs=>exact hob.stay (P:=fun _=>False) hsealed (fun g s hg=>⟨(hfar g o s hg h2).2.2,(hfar g o s hg h2).2.1⟩) (hG1 hni) (fun a e=>by cases e) (fun _ h=>h.elim)
       |map t k v es=>exact hob.stay (P:=fun _=>False) hsealed (fun g s hg=>⟨(hfar g o s hg h2).2.2,(hfar g o s hg h2).2.1⟩) (hG1 hni) (fun a e=>by cases e) (fun _ h=>h.elim)
       | box a=>
         obtain⟨hn,g,cur,T,h3,h4,h5,h6⟩:=hob;have hg:=hfar g o [] h4 h2;have hGo:=hG1 hni;refine⟨⟨by show(nif (inI x.ids o) (G' o) (G o)).nest=false;rw[hGo];exact hn.1,Zaq _ _ hok⟩,g,cur,T,by show(nif (inI x.ids o) (G' o) (G o)).v=_;rw[hGo];exact h3,hg.2.2,hg.2.1.trans h5,?_⟩;rw[Z9l _ _ (fun _=>false) hok];exact AVc.wk hsealed (P:=P) (fun i hPi hi=>hP i hPi hi) (fun _ _ h=>by cases h) (hev.box o _ hb) h6
 . intro g hg;have hg':w.heap.size<=g:=Nat.le_trans hpo.size hg;rw[hplain g fun o s e=>by rw[h.bound g hg']at e;cases e];exact hpo.bound g hg
 . intro a ha;rcases Zdf ha with rfl|⟨c0,q,h1,rfl⟩
   . exact hxr.mono fun i hi=>.inr hi
   . exact Z4m _ _ ((hev.slot c0 h1).mono fun i hi=>.inl hi)
 . intro o b hb;rw[hlook]at hb;split at hb
   . cases b with
     |box a=>exact(hpo.box _ hM.box o a hb).mono fun i hi=>.inr ((hids i).2 (hi.symm.imp id (hx.near i).1))
     |list t e xs=>trivial
     |map t k v es=>trivial
   . split at hb
     . cases hb
     . have:=hev.box o b hb;cases b with
       |box a=>exact AV.men.mono (fun i hi=>.inl hi) this
       |list t e xs=>trivial
       |map t k v es=>trivial
 . intro o ho;rcases hhas o ho with h1|⟨h1,h2,h3⟩
   . exact .inr ((hids o).2 (.inl h1))
   . exact .inl (hev.live o h3)
 . intro g hl hg;have hno:∀o s,own g≠.ob o s:=fun o s e=>by rw[hg]at e;cases e
   have:=hpo.outs g hl (by rw[Z9k hno];exact hg);exact⟨by rw[hplain g hno];exact this.1,this.2⟩
theorem WR.stepQ(hE:EnvOk E){act:Act}{P:Id->Prop}(h:WR own w G act.tmps σ)(hev:EvS P σ)(hx:Opn E call f all x)(hn:Rn E call f x)(hp:Pre x σ)(hl:x.loud=false):
   ∀R:Value->World->Prop,(∀own' w' G' v,WR own' w' G' (act.put x.o.dst v).tmps (Zi x σ)->EvS (fun i=>P i\/i∈x.ids) (Zi x σ)->Keeps own own' w w'->R v w')->Does E.P act.eval x.o w R:=by
 intro R hR;rcases hx.kind with⟨hxr,hxe⟩|⟨_,t,hop,ht,hxa⟩
 rotate_left
 . have hrun:(execOp act.eval x.o).run E.P w=.ok (.value (act.eval (.tmp t))) w:=by
     rcases hop with e|e<;>(unfold execOp;rw[e];rfl)
   have hst:Zi x σ=σ.set x.o.dst x.a:=Z3c (hx.quiet hl).2 hl;obtain⟨p,q,hpq⟩:=hp.ev t ht;refine .value hrun (hR own w G _ ?_ ?_ (.refl _ _))
   all_goals rw[hst]
   . refine⟨by rw[Z4f,Z41];exact h.len,fun i c hc=>?_,fun o b hb=>by rw[Z2k]at hb⊢;exact h.objs o b hb,h.bound,h.base⟩;rw[Z2k];rcases Z71 (O:=σ.o) h.len (v:=act.eval (.tmp t)) i c hc with⟨rfl,hv⟩|⟨hn0,hv⟩
     . rw[hv,hxa,hpq];show AVv own w G _ (act.tmps.getD t undef)
       unfold St.get;cases e:nth σ.s t with
       |none=>trivial
       | some a=>
         rw[Z47];exact AVv.wk (Sealed.refl _ _) (P:=fun _=>True) (p:=has σ.o) (q:=has σ.o) (fun o _ ho=>⟨by simp only[Bool.and_eq_true]at ho;exact ho.1,rfl⟩) (fun o _ ho=>⟨by simp only[Bool.and_eq_true]at ho;exact ho.1,rfl,fun _ _ _=>rfl⟩) (vwK_some.AV.men.all _) (h.slot t a e)
     . rw[hv];exact h.slot i c hn0
   . refine⟨fun a' ha'=>?_,fun o b hb=>by rw[Z2k]at hb;exact(by have:=hev.box o b hb;cases b<;>first|exact AV.men.mono (fun i hi=>.inl hi) this|trivial),fun o ho=>by rw[Z2k]at ho;exact .inl (hev.live o ho)⟩;have:a'=x.a\/a'∈σ.s:=by
       cases hd:x.o.dst with
       |none=>rw[hd]at ha';exact .inr ha'
       |some d=>rw[hd]at ha';exact Z40 ha'
     rcases this with rfl|h'
     . rw[hxa,hpq];unfold St.get;cases e:nth σ.s t with
       |none=>trivial
       |some a=>exact(Z4m p q (hev.slot a (Z3g e))).mono fun i hi=>.inl hi
     . exact(hev.slot a' h').mono fun i hi=>.inl hi
 have hM:=h.objs0 hx hp;have hv:∀v∈x.o.op.operands.toList,AVv (Zt x.fp own) w G (x.ev v) (act.eval v)/\(x.ev v).men fun o=>has x.O0 o=true:=fun v hv=>h.evs hx hxe hp v fun t ht=>by rw[hn.lt];exact Zh7 hx.ls hv t ht
 obtain⟨h1,h2,h3⟩:=hn.q hl;obtain⟨a,v,hK,hrun,ha,hm⟩:=Z8z hE (V:=act.eval) hM.objs hM.box ⟨hv,fun _=>rfl⟩ h3;simp only[Option.some.injEq]at hK;subst hK;refine .value hrun (hR own w G v ?_ ?_ (.refl _ _))
 all_goals rw[Z3c (hx.quiet hl).2 hl]
 . refine⟨by rw[Z4f,Z41];exact h.len,fun i c hc=>?_,fun o b hb=>by rw[Z2k]at hb⊢;exact h.objs o b hb,h.bound,h.base⟩;rw[Z2k];rcases Z71 (O:=σ.o) h.len (v:=v) i c hc with⟨rfl,hv⟩|⟨hn0,hv⟩
   . rw[hv];refine AVv.wk (Sealed.refl _ _) (P:=fun _=>True) (p:=tt) (q:=tt) (fun _ _ _=>⟨rfl,rfl⟩) (fun _ _ _=>⟨rfl,rfl,fun _ _ _=>rfl⟩) (vwK_some.AV.men.all _) ?_;rw[Z9g];refine AVv.keep (own:=Zt x.fp own) (w:=w) (G:=G) (P:=fun _=>True) (fun g hg=>⟨?_,rfl⟩) (fun _ _=>⟨rfl,fun _ _ _=>rfl⟩) (vwK_some.AV.men.all _) ha;cases e:own g with
     |sh=>rfl
     |out=>simp only[Zt,e]at hg;cases hg
     |ob o s=>simp only[Zt,e]at hg;cases e2:inI x.fp o<;>rw[e2]at hg<;>cases hg
   . rw[hv];exact h.slot i c hn0
 . refine⟨fun a' ha'=>?_,fun o b hb=>by rw[Z2k]at hb;exact(by have:=hev.box o b hb;cases b<;>first|exact AV.men.mono (fun i hi=>.inl hi) this|trivial),fun o ho=>by rw[Z2k]at ho;exact .inl (hev.live o ho)⟩;have:a'=x.a\/a'∈σ.s:=by
     cases hd:x.o.dst with
     |none=>rw[hd]at ha';exact .inr ha'
     |some d=>rw[hd]at ha';exact Z40 ha'
   rcases this with rfl|h'
   . exact hxr.mono fun i hi=>.inr hi
   . exact(hev.slot a' h').mono fun i hi=>.inl hi
theorem WR.step(hE:EnvOk E)(hcall:Z1v E call){act:Act}{P:Id->Prop}(h:WR own w G act.tmps σ)(hev:EvS P σ)(hx:Opn E call f all x)(hn:Rn E call f x)(hp:Pre x σ)(hnew:∀i∈x.wr,i∉x.fp->¬P i):
   ∀R:Value->World->Prop,(∀own' w' G' v,WR own' w' G' (act.put x.o.dst v).tmps (Zi x σ)->EvS (fun i=>P i\/i∈x.ids) (Zi x σ)->Keeps own own' w w'->R v w')->Does E.P act.eval x.o w R:=by
 cases hl:x.loud with
 |true=>exact h.stepL hE hcall hev hx hn hp hnew hl
 |false=>exact h.stepQ hE hev hx hn hp hl
theorem WR.skip {act:Act}{P:Id->Prop}(h:WR own w G act.tmps σ)(hev:EvS P σ)(hl:x.loud=false)(ha:x.a=.tn)(hwr:x.wr=[]):WR own w G (act.put x.o.dst undef).tmps (Zi x σ)/\EvS P (Zi x σ):=by
 have hk:x.kills σ.s=σ.s:=by simp only[Rc.kills,hl];rfl
 have ho:∀i,look (Zi x σ).o i=look σ.o i:=fun i=>by rw[Z2f];exact Z14 (by rw[hwr];exact List.not_mem_nil)
 have hh:has (Zi x σ).o=has σ.o:=funext fun i=>Zh (ho i)
 have hs:(Zi x σ).s=((⟨σ.s,σ.o⟩:St).set x.o.dst .tn).s:=by rw[Z59,hk,ha];cases x.o.dst<;>rfl
 refine⟨⟨by rw[hs,Z4f,Z41];exact h.len,fun i c hc=>?_,fun o b hb=>(by rw[ho]at hb;rw[hh];exact h.objs o b hb),h.bound,h.base⟩,⟨fun a hm=>?_,fun o b hb=>(by rw[ho]at hb;exact hev.box o b hb),fun o hho=>(by rw[hh]at hho;exact hev.live o hho)⟩⟩
 . rw[hs]at hc;rw[hh];rcases Z71 h.len (v:=undef) i c hc with⟨rfl,hv⟩|⟨hn0,hv⟩
   . rw[hv];exact rfl
   . rw[hv];exact h.slot i c hn0
 . rcases Zdf hm with h1|⟨c0,q,h1,rfl⟩
   . rw[h1,ha];trivial
   . exact Z4m _ _ (hev.slot c0 h1)
end
end Go.Pv
namespace Go.Pv
open Go Go.Great
variable {own own' own1 own2:Own}{w w' w1 w2:World}{G G' G1 G2:Gs}{ρ:Type}{E:Env}{call:Z42}{f:Nat}{all:List Oper}[Base]
structure PW (e:Lg) (y:Rc):Prop where
 ind:e.j∈y.pr\/IndL e y.lg
 new:∀i∈y.wr,i∉y.fp->i∉e.rd/\i∉e.wr
def Z9m(all:List Oper)(x:Rc):Prop:=match x.o.guard with
 |none=>x.run=true
 |some (g,b)=>∃o d v,nth all g=some o/\o.dst=some d/\d∈x.lt/\((x.ev (.tmp d)=.v .bool v/\x.run=(v==b))\/(x.ev (.tmp d)=.tn/\x.run=false))
structure Good (E:Env) (call:Z42) (f:Nat) (all:List Oper) (x:Rc):Prop where
 op:Opn E call f all x
 rn:x.run=true->Rn E call f x
 no:x.run=false->x.loud=false/\x.a=.tn
 asked:Z9m all x
 back:∀e∈x.o.after,Region.binds .any e=true->e.on<x.j
theorem Z4p {d:Option Nat}{ls pr:List Nat}:∀{lg:List Lg},Z7y d ls pr lg=true->∀e∈lg,e.j∈pr\/((∀a,e.d=some a->a∉ls)/\(∀a,d=some a->a∉e.ls)/\∀a,e.d=some a->d≠some a)
 |[],_,e,he=>by cases he
 | e :: l,h,e',he=>by
   simp only[Z7y]at h;have h0:nif (inN pr e.j) true (Zb9 e.d e.ls d ls)=true/\Z7y d ls pr l=true:=by
     revert h;cases nif (inN pr e.j) true (Zb9 e.d e.ls d ls)<;>simp[nif]
   rcases List.mem_cons.1 he with rfl|he
   . have h1:=h0.1;cases e1:inN pr e'.j with
     |true=>exact .inl (inN_iff.1 e1)
     | false=>
       right;rw[e1]at h1;simp only[nif,Zb9]at h1;have hd1:∀{d:Option Nat}{l:List Nat},Za4 d l=false->∀a,d=some a->a∉l:=by
         rintro d l h a rfl hl;simp only[Za4]at h;rw[inN_iff.2 hl]at h;cases h
       cases e2:Za4 e'.d ls<;>rw[e2]at h1<;>try cases h1
       cases e3:Za4 d e'.ls<;>rw[e3]at h1<;>try cases h1
       refine⟨hd1 e2,hd1 e3,fun a ha hb=>?_⟩;rw[ha,hb]at h1;simp only[Nat.beq_refl]at h1;cases h1
   . exact Z4p h0.2 e' he
theorem Z2g {l m:List Id}(h:Z6c l m=true):∀i∈l,i∉m:=fun i hi=>notI_iff.1 (allI_iff.1 h i hi)
theorem freeL_some {rd wr:List Id}{pr:List Nat}:∀{lg:List Lg},freeL rd wr pr lg=true->∀e∈lg,e.j∈pr\/((∀i∈wr,i∉e.rd/\i∉e.wr)/\∀i∈e.wr,i∉rd/\i∉wr)
 |[],_,e,he=>by cases he
 | e ::l,h,e',he=>by
   simp only[freeL]at h;obtain⟨h0,h1⟩:=both_n h;rcases List.mem_cons.1 he with rfl|he
   . cases e1:inN pr e'.j with
     |true=>exact .inl (inN_iff.1 e1)
     | false=>
       right;rw[e1]at h0;obtain⟨h2,h0⟩:=both_n (show nif (Z6c wr e'.rd) (nif (Z6c wr e'.wr) (Z6c e'.wr rd) false) false=true from h0);obtain⟨h3,h4⟩:=both_n h0;exact⟨fun i hi=>⟨Z2g h2 i hi,Z2g h3 i hi⟩,fun i hi=>⟨Z2g h4 i hi,fun hw=>Z2g h3 i hw hi⟩⟩
   . exact freeL_some h1 e' he
where
 both_n {a b:Bool} (h:nif a b false=true):a=true/\b=true:=by
   cases a<;>simp_all[nif]
theorem Zaz {ids:List Id}:∀{lg:List Lg},newL ids lg=true->∀e∈lg,∀i∈ids,i∉e.rd/\i∉e.wr
 |[],_,e,he=>by cases he
 | e::l,h,e',he=>by
   simp only[newL]at h;obtain⟨h0,h1⟩:=freeL_some.both_n h;rcases List.mem_cons.1 he with rfl|he
   . obtain⟨h2,h3⟩:=freeL_some.both_n h0;exact fun i hi=>⟨Z2g h2 i hi,Z2g h3 i hi⟩
   . exact Zaz h1 e' he
theorem Z9n {j:Nat}:∀{l:List Edge},Z8m j l=true->∀e∈l,Region.binds .any e=true->e.on<j
 |[],_,e,he=>by cases he
 | e ::l,h,e',he=>by
   simp only[Z8m]at h;intro hb;have h0:nif (Region.binds .any e) (Nat.blt e.on j) true=true/\Z8m j l=true:=by
     revert h;cases nif (Region.binds .any e) (Nat.blt e.on j) true<;>simp[nif]
   rcases List.mem_cons.1 he with rfl|he
   . have h1:=h0.1;rw[hb]at h1;exact(show(Nat.blt e'.on j=true)=(e'.on<j)from Nat.blt_eq)▸h1
   . exact Z9n h0.2 e' he hb
def addA:List Nat->List Nat->List Nat
 |[],a=>a
 |n::l,a=>nif (inN a n) (addA l a) (addA l (n::a))
theorem Zc2:∀(l a:List Nat){ρ:Type}(K:List Nat->ρ),addK l a K=K (addA l a)
 |[],_,_,_=>rfl
 | n::l,a,_,K=>by
   simp only[addK,addA];rw[Zc2 l a,Zc2 l (n::a)];cases inN a n<;>rfl
theorem Z9o {k:Nat}:∀{l a:List Nat},k∈addA l a->k∈l\/k∈a
 |[],_,h=>.inr h
 | n ::l,a,h=>by
   simp only[addA]at h;cases e:inN a n<;>rw[e]at h<;>simp only[nif]at h
   . rcases Z9o h with h|h
     . exact .inl (List.mem_cons_of_mem _ h)
     . rcases List.mem_cons.1 h with rfl|h
       . exact .inl List.mem_cons_self
       . exact .inr h
   . exact(Z9o h).imp (List.mem_cons_of_mem _) id
def Z3d(lg:List Lg):List Edge->List Nat->List Nat
 |[],a=>a
 |e::l,a=>nif (nif (Region.binds .any e) (nif (inN a e.on) false true) false) (Z3d lg l (addA (prOf e.on lg) (e.on::a))) (Z3d lg l a)
theorem Z7u(lg:List Lg):∀(l:List Edge)(a:List Nat){ρ:Type}(K:List Nat->ρ),Z8l lg l a K=K (Z3d lg l a)
 |[],_,_,_=>rfl
 | e::l,a,_,K=>by
   simp only[Z8l,Z3d,Zc2];rw[Z7u lg l,Z7u lg l];cases nif (Region.binds .any e) (nif (inN a e.on) false true) false<;>rfl
theorem Zdg {j k:Nat}:∀{lg:List Lg},k∈prOf j lg->∃z∈lg,z.j=j/\k∈z.pr
 |[],h=>by cases h
 | e::l,h=>by
   simp only[prOf]at h;cases e1:Nat.beq e.j j
   . rw[e1]at h;obtain⟨z,h1,h2⟩:=Zdg (lg:=l) h;exact⟨z,List.mem_cons_of_mem _ h1,h2⟩
   . rw[e1]at h;exact⟨e,List.mem_cons_self,Nat.eq_of_beq_eq_true e1,h⟩
theorem Z69 {lg:List Lg}{k:Nat}:∀{l:List Edge}{a:List Nat},k∈Z3d lg l a->k∈a\/∃e∈l,Region.binds .any e=true/\(k=e.on\/∃z∈lg,z.j=e.on/\k∈z.pr)
 |[],_,h=>.inl h
 | e :: l,a,h=>by
   simp only[Z3d]at h;cases e1:nif (Region.binds .any e) (nif (inN a e.on) false true) false<;>rw[e1]at h<;>simp only[nif]at h
   . exact(Z69 h).imp id fun⟨e',h1,h2⟩=>⟨e',List.mem_cons_of_mem _ h1,h2⟩
   . have hb:Region.binds .any e=true:=by cases hb:Region.binds .any e<;>rw[hb]at e1<;>first|rfl|cases e1
     rcases Z69 h with h|⟨e',h1,h2⟩
     . rcases Z9o h with h|h
       . exact .inr ⟨e,List.mem_cons_self,hb,.inr (Zdg h)⟩
       . rcases List.mem_cons.1 h with h|h
         . exact .inr ⟨e,List.mem_cons_self,hb,.inl h⟩
         . exact .inl h
     . exact .inr ⟨e',List.mem_cons_of_mem _ h1,h2⟩
theorem Zez {ls:List Nat}{σ:St}{t:Nat}(h:t∈ls):σ.evT ls (.tmp t)=σ.get t:=by
 simp only[St.evT,inN_iff.2 h];rfl
theorem Zf0 {o:Oper}{ls:List Nat}{σ:St}{t:Nat}(h:t∈ls):∃p q,σ.evD o ls (.tmp t)=wk p q (σ.get t):=by
 have e:∃p q,σ.evT ls (.tmp t)=wk p q (σ.get t):=⟨tt,tt,by rw[Zez h,Z9g]⟩
 unfold St.evD;generalize o.op=op;cases op with
 | extract x i=>
   dsimp only;cases Zg9 (opQ.tupAt (σ.evT ls x) i fun a=>some a)with
   |true=>exact⟨fun _=>false,fun _=>false,by show wkN (σ.evT ls (.tmp t))=_;rw[Zez h];rfl⟩
   |false=>exact e
 | _=>exact e
theorem Zf1 {o:Oper}{ls:List Nat}{σ:St}{v:Operand}(h:∀t,v≠.tmp t):σ.evD o ls v=σ.evT ls v:=by
 unfold St.evD;generalize o.op=op;cases op with
 | extract x i=>
   dsimp only;cases Zg9 (opQ.tupAt (σ.evT ls x) i fun a=>some a)with
   |true=>cases v<;>first|rfl|exact absurd rfl (h _)
   |false=>rfl
 | _=>rfl
theorem Zb0 {ls:List Nat}{σ:St}{v:Operand}(h:∀t,v≠.tmp t):σ.evT ls v=σ.ev v:=by
 cases v<;>first|rfl|exact absurd rfl (h _)
def Keepy(O O':Obs):Prop:=∀i,has O i=true->look O' i=look O i
theorem Keepy.refl(O:Obs):Keepy O O:=fun _ _=>rfl
theorem Keepy.trans {O O1 O2:Obs}(h1:Keepy O O1)(h2:Keepy O1 O2):Keepy O O2:=fun i hi=>by
 have e:=h1 i hi;exact(h2 i (by rw[Zh e];exact hi)).trans e
theorem Keepy.new {O:Obs}{i:Id}{b:Ob}(h:has O i=false):Keepy O ((i,b)::O):=fun j hj=>by
 rw[Z9,if_neg];rintro rfl;rw[h]at hj;cases hj
theorem Z4a:∀{t:Ty}{x:t.den}{q:Id}{O:Obs}{K:AV->Obs->Option ρ}{r:ρ},unpK t x q O K=some r->∃a O',K a O'=some r/\Keepy O O'
 |.int _,_,_,O,K,r,h=>⟨_,O,h,.refl O⟩
 |.bool,_,_,O,K,r,h=>⟨_,O,h,.refl O⟩
 |.str,_,_,O,K,r,h=>⟨_,O,h,.refl O⟩
 |.unit,_,_,O,K,r,h=>⟨_,O,h,.refl O⟩
 |.nilp,_,_,O,K,r,h=>⟨_,O,h,.refl O⟩
 |.fo,_,_,O,K,r,h=>⟨_,O,h,.refl O⟩
 |.hdr,_,_,O,K,r,h=>⟨_,O,h,.refl O⟩
 |.hole _,_,_,O,K,r,h=>⟨_,O,h,.refl O⟩
 | .slc e,_,_,O,K,r,h=>by
   simp only[unpK]at h;exact⟨_,O,(Z0 h).2,.refl O⟩
 | .sptr e,_,_,O,K,r,h=>by
   simp only[unpK]at h;exact⟨_,O,(Z0 h).2,.refl O⟩
 | .arr _ e,_,_,O,K,r,h=>by
   simp only[unpK]at h;exact⟨_,O,(Z0 h).2,.refl O⟩
 | .clo _ e,_,_,O,K,r,h=>by
   simp only[unpK]at h;exact⟨_,O,(Z0 h).2,.refl O⟩
 | .mp _ _ _,_,_,O,K,r,h=>by
   simp only[unpK]at h;obtain⟨h1,h2⟩:=Zb h;exact⟨_,_,h2,.new h1⟩
 | .own _ _,_,_,O,K,r,h=>by
   simp only[unpK]at h;obtain⟨h1,h2⟩:=Zb h;exact⟨_,_,h2,.new h1⟩
 | .bx t,_,_,O,K,r,h=>by
   simp only[unpK]at h;obtain⟨a,O1,h,k1⟩:=Z4a h;obtain⟨h1,h2⟩:=Zb h;exact⟨_,_,h2,k1.trans (.new h1)⟩
 | .pair a b,_,_,O,K,r,h=>by
   simp only[unpK]at h;obtain⟨a',O1,h,k1⟩:=Z4a h;obtain⟨b',O2,h,k2⟩:=Z4a h;rw[Zf]at h;exact⟨_,_,h,k1.trans k2⟩
theorem mkK_keep {f d:Nat}{i:Id}{O:Obs}{t:Ty}{x:t.den}{K:AV->Obs->Option ρ}{r:ρ}(h:mkK E f d i O t x K=some r):∃a O',K a O'=some r/\Keepy O O':=by
 unfold mkK at h;rcases Z8 h with⟨_,h⟩|⟨_,h⟩
 . exact⟨_,O,(Z0 h).2,.refl O⟩
 . exact Z4a h
theorem Zb1 {f d:Nat}:∀{rs:List Ty}{j:Nat}{l:(chain rs).den}{O:Obs}{K:AV->Obs->Option ρ}{r:ρ},tupK E f d O rs j l K=some r->∃a O',K a O'=some r/\Keepy O O'
 |[],_,_,O,K,r,h=>⟨_,O,h,.refl O⟩
 | t::rs,j,l,O,K,r,h=>by
   simp only[tupK]at h;obtain⟨a,O1,h,k1⟩:=mkK_keep h;obtain⟨b,O2,h,k2⟩:=Zb1 h;exact⟨_,_,h,k1.trans k2⟩
theorem Zg5 {f:Nat}{d:Option Nat}{O:Obs}{rs:List Ty}{l:(chain rs).den}{K:AV->Obs->Option ρ}{r:ρ}(h:resK E f d O rs l K=some r):∃a O',K a O'=some r/\Keepy O O':=by
 unfold resK at h;split at h
 . exact⟨_,O,h,.refl O⟩
 . exact mkK_keep h
 . exact Zb1 h
 . cases h
theorem Z9p:∀{ps:List (PM×Ty)}{as:List (Bool×AV)}{O:Obs}{K:(chain (Z23 ps)).den->Obs->Bool->Option ρ}{r:ρ},valB ps=true->Zc ps as O K=some r->∃l b,K l O b=some r
 |[],[],O,K,r,_,h=>⟨_,_,h⟩
 | (.val,t)::ps,(nil,a)::as,O,K,r,hv,h=>by
   simp only[Zc]at h;obtain⟨l,b,h⟩:=Z9p (by exact hv) h;obtain⟨_,h⟩:=Z0 h;rcases Z8 h with⟨_,h⟩|⟨_,h⟩
   . split at h
     . exact⟨_,_,h⟩
     . cases h
   . have h2:vwK 12 a O (fun u y c=>(some (⟨⟨u,y⟩,c⟩:(Σ u:Ty,u.den)×Bool)).bind fun q=>Ze q.1.1 t q.1.2 fun x=>K (x,l) O (nif b true q.2))=some r:=h;rw[Z46]at h2;obtain⟨q,_,h3⟩:=Option.bind_eq_some_iff.1 h2;obtain⟨_,h3⟩:=Z3 h3;exact⟨_,_,h3⟩
 |(.val,_)::_,[],_,_,_,_,h=>by simp only[Zc]at h;cases h
 |[],_::_,_,_,_,_,h=>by simp only[Zc]at h;cases h
 |(.mov,_)::_,_,_,_,_,hv,_=>by cases hv
 |(.lend,_)::_,_,_,_,_,hv,_=>by cases hv
 |(.lendv,_)::_,_,_,_,_,hv,_=>by cases hv
theorem Z9q {O0:Obs}:∀{ps:List (PM×Ty)}{as:List (Bool×AV)}{l:(chain (Zo ps)).den}{O:Obs}{K:Obs->Option ρ}{r:ρ},valB ps=true->Zl O0 ps as l O K=some r->K O=some r
 |[],_,_,O,K,r,_,h=>by simp only[Zl]at h;exact h
 | (.val,t)::ps,_::as,l,O,K,r,hv,h=>by
   simp only[Zl]at h;exact Z9q (by exact hv) h
 |(.val,_)::_,[],_,_,_,_,_,h=>by simp only[Zl]at h;cases h
 |(.mov,_)::_,_,_,_,_,_,hv,_=>by cases hv
 |(.lend,_)::_,_,_,_,_,_,hv,_=>by cases hv
 |(.lendv,_)::_,_,_,_,_,_,hv,_=>by cases hv
theorem Zeb {d:Option Nat}{O:Obs}{g:Nat}{s:Sg}{args:List (Bool×AV)}{K:AV->Obs->Option ρ}{r:ρ}(hs:E.sg g=some s)(hv:valB s.ps=true)(h:Z4q E call f d O g args K=some r):∃a O',K a O'=some r/\Keepy O O':=by
 unfold Z4q at h;rw[hs]at h;obtain⟨l,b,h⟩:=Z9p hv h;obtain⟨_,h⟩:=Zs h;obtain⟨res,_,h⟩:=bind_some h;exact Zg5 (Z9q hv h)
theorem Zdh {T:Nat}{ev:Operand->AV}:∀{l:List (Nat×Operand)}{a:AV}{K:AV->Option ρ}{r:ρ},Z3o E T ev a l K=some r->∃b,K b=some r:=by
 intro l a K r h;have h2:Z3o E T ev a l (fun b=>(some b).bind K)=some r:=h;rw[Z57]at h2;obtain⟨b,_,h3⟩:=Option.bind_eq_some_iff.1 h2;exact⟨b,h3⟩
theorem Z9r {g:Nat}{args:List (Bool×AV)}{K:Nat->Option ρ}{r:ρ}(h:keyK E g args K=some r):∃key,keyK E g args (fun key=>some key)=some key/\K key=some r:=by
 have h2:keyK E g args (fun key=>(some key).bind K)=some r:=h;rw[Z7n]at h2;obtain⟨key,h3,h4⟩:=Option.bind_eq_some_iff.1 h2;exact⟨key,h3,h4⟩
theorem Zec {a:AV}{K:List (Bool×AV)->Option ρ}{r:ρ}(h:capK a K=some r):∃cs,K cs=some r:=by
 have h2:capK a (fun cs=>(some cs).bind K)=some r:=h;rw[Zap]at h2;obtain⟨cs,_,h4⟩:=Option.bind_eq_some_iff.1 h2;exact⟨cs,h4⟩
theorem Zed {t:Ty}{x:t.den}{K:List (Bool×AV)->Option ρ}{r:ρ}(h:capT t x K=some r):∃cs,K cs=some r:=by
 have h2:capT t x (fun cs=>(some cs).bind K)=some r:=h;rw[Z7o]at h2;obtain⟨cs,_,h4⟩:=Option.bind_eq_some_iff.1 h2;exact⟨cs,h4⟩
theorem Z2u {T:Nat}{K:Nat->TI->Option ρ}{r:ρ}(h:Z1f E T K=some r):∃e j,K e j=some r:=by
 unfold Z1f at h;obtain⟨i,_,h⟩:=Z5 h;split at h
 . obtain⟨j,_,h⟩:=Z5 h;exact⟨_,_,h⟩
 . cases h
theorem Zdi {o:Oper}{ev:Operand->AV}{O:Obs}{K:AV->Obs->Bool->Option ρ}{r:ρ}(hb:Z78 E o ev=true)(h:opW E call f o ev O K=some r):∃a O' b,K a O' b=some r/\Keepy O O':=by
 obtain⟨dst,op,type,pos,after,guard⟩:=o;have nilc:∀d,nilK E f d [d] O type (fun a O'=>K a O' false)=some r->∃a O' b,K a O' b=some r/\Keepy O O':=by
   intro d h;unfold nilK at h;obtain⟨j,_,h⟩:=Z5 h;obtain⟨_,h⟩:=Z0 h;obtain⟨a,O',h,k⟩:=mkK_keep h;exact⟨a,O',_,h,k⟩
 cases op with
 | move x=>
   simp only[opW]at h;split at h
   . exact nilc _ h
   . cases h
 | assign x=>
   simp only[opW]at h;split at h
   . exact nilc _ h
   . cases h
 | alloc T=>
   simp only[opW]at h;split at h
   . unfold Z5w at h;obtain⟨i,_,h⟩:=Z5 h;split at h
     . obtain⟨_,h⟩:=Z0 h;obtain⟨_,h⟩:=Z0 h;obtain⟨h1,h⟩:=Zb h;exact⟨_,_,_,h,.new h1⟩
     . unfold Z9z at h;obtain⟨j,_,h⟩:=Z5 h;obtain⟨a,O',h,k⟩:=mkK_keep h;obtain⟨h1,h⟩:=Zb h;exact⟨_,_,_,h,k.trans (.new h1)⟩
   . cases h
 | box T x=>
   simp only[opW]at h;split at h
   . obtain⟨_,h⟩:=Zs h;obtain⟨i,_,h⟩:=Z5 h;obtain⟨_,h⟩:=Z0 h;obtain⟨_,h⟩:=Z0 h;obtain⟨_,h⟩:=Z0 h;unfold boxK at h;rcases Z8 h with⟨_,h⟩|⟨_,h⟩
     . split at h
       . obtain⟨_,h⟩:=Z0 h;obtain⟨a,O',h,k⟩:=mkK_keep h;exact⟨_,_,_,h,k⟩
       . cases h
     . obtain⟨h1,h⟩:=Zb h;exact⟨_,_,_,h,.new h1⟩
   . cases h
 | build T ps=>
   simp only[opW]at h;split at h
   . obtain⟨i,_,h⟩:=Z5 h;split at h
     . obtain⟨_,h⟩:=Z0 h;obtain⟨a,O',h,k⟩:=Z4a h;obtain⟨b,h⟩:=Zdh h;exact⟨_,_,_,h,k⟩
     . cases h
   . cases h
 | makeSlice T l c=>
   simp only[opW]at h;split at h
   . obtain⟨e,j,h⟩:=Z2u h;obtain⟨_,h⟩:=Z0 h;obtain⟨_,h⟩:=Zk h;obtain⟨a,O',h,k⟩:=mkK_keep h;exact⟨_,_,_,h,k⟩
   . cases h
 | makeMap T n=>
   cases n with
   |some n=>simp only[opW]at h;cases h
   | none=>
     simp only[opW]at h;split at h
     . unfold Z6a at h;obtain⟨i,_,h⟩:=Z5 h;split at h
       . obtain⟨_,_,h⟩:=Z5 h;obtain⟨_,_,h⟩:=Z5 h;obtain⟨_,h⟩:=Z0 h;obtain⟨_,h⟩:=Z0 h;obtain⟨h1,h⟩:=Zb h;exact⟨_,_,_,h,.new h1⟩
       . cases h
     . cases h
 | call c=>
   obtain⟨callee,args,at'⟩:=c;cases callee with
   | value g=>
     simp only[opW]at h;simp only[Z78]at hb;have fin:∀{key:Nat}{a:List (Bool×AV)},(match E.sg key with|some s=>valB s.ps|none=>false)=true->Z4q E call f dst O key a (fun a O'=>K a O' true)=some r->∃a O' b,K a O' b=some r/\Keepy O O':=by
       intro key a hk h;split at hk
       . rename_i s hs;obtain⟨a,O',h,k⟩:=Zeb hs hk h;exact⟨a,O',_,h,k⟩
       . cases hk
     split at h
     . rename_i g' c hc;rw[hc]at hb;obtain⟨cs,h⟩:=Zec h;obtain⟨key,hkey,h⟩:=Z9r h;simp only[hkey]at hb;exact fin hb h
     . rename_i g' t y hc;rw[hc]at hb;obtain⟨cs,h⟩:=Zed h;obtain⟨key,hkey,h⟩:=Z9r h;simp only[hkey]at hb;exact fin hb h
     . cases h
   |builtin b=>simp only[Z78]at hb;cases hb
   |invoke r m=>simp only[Z78]at hb;cases hb
 | _=>simp only[Z78]at hb;cases hb
theorem Zc3 {f d T T':Nat}{s x:Operand}{ev:Operand->AV}{O:Obs}{K:AV->Obs->Option ρ}{r:ρ}{q:Id}(hs:ev s=.ref q)(hx:∃o lo n,ev x=.hs o lo n)
   (h:Z3e E f d ev O T T' s x K=some r):∃a O',K a O'=some r/\∀i,has O i=true->i≠q->look O' i=look O i:=by
 obtain⟨o,lo,n,hx⟩:=hx;unfold Z3e at h;obtain⟨i,_,h⟩:=Z5 h;split at h
 . unfold Z4b at h;obtain⟨_,_,h⟩:=Z2u h;obtain⟨eT,j,h⟩:=Z2u h;have hb:∃tid e xs O2,(∀i,has O i=true->i≠q->look O2 i=look O i)/\(nif (Z1q x) none<|srcK e (ev x) O2 fun ys O2=>
     nif (Nat.beq tid eT) (nif (Nat.beq e.size j.size) (nif (nif (Nat.beq e.size 0) true (Nat.beq j.bytes 0)) none (bif decide ((xs.length+ys.length)*j.bytes<=140737488355328)then
     mkK E f d [d] O2 (.own tid e) (xs++ys) K else none)) none) none)=some r:=by
     unfold Z7w at h;rcases Z8 h with⟨_,h⟩|⟨_,h⟩
     . obtain⟨e,j',h⟩:=Z2u h;exact⟨_,_,_,O,fun _ _ _=>rfl,h⟩
     . rw[hs]at h;simp only at h;split at h
       case h_2=>cases h
       rw[Z4]at h;exact⟨_,_,_,_,fun i _ hi=>by rw[Za,if_neg hi],h⟩
   obtain⟨tid,e,xs,O2,hk,h⟩:=hb;obtain⟨_,h⟩:=Zs h;unfold srcK at h;rw[hx]at h;simp only at h;split at h
   case h_2=>cases h
   obtain⟨_,h⟩:=Z0 h;obtain⟨_,h⟩:=Z3 h;obtain⟨_,h⟩:=Z0 h;obtain⟨_,h⟩:=Z0 h;obtain⟨_,h⟩:=Zs h;obtain⟨_,h⟩:=Zk h;obtain⟨a,O',h,k⟩:=mkK_keep h;exact⟨a,O',h,fun i hi hq=>by rw[k i (by obtain⟨b,hb⟩:=has_look.1 hi;exact Z1 ((hk i hi hq).trans hb)),hk i hi hq]⟩
 . unfold Z5d at h;rw[hx]at h;cases h
 . cases h
theorem Zh8 {o:Oper}{ev:Operand->AV}{O O1:Obs}{a:AV}{b:Bool}{q:Id}{fp:List Id}(hop:opW E call f o ev O (fun a O' b=>some (a,O',b))=some (a,O1,b))(hq:stI o ev=some q)
   (hms:∀v∈(Zm o.op).map ev,v.men fun i=>i∈fp):q∈fp/\∀i,has O i=true->i≠q->look O1 i=look O i:=by
 obtain⟨dst,op,ty,af,gd,ex⟩:=o;cases op with
 | store T x y=>
   simp only[stI]at hq;split at hq
   case h_2=>cases hq
   rename_i q' fp' n hev;cases hq;have hm:=hms (ev x) (List.mem_map.2 ⟨x,by simp[Zm,Op.operands],rfl⟩);rw[hev]at hm;refine⟨hm,fun i _ hi=>?_⟩;simp only[opW]at hop;obtain⟨j,_,hop⟩:=Z5 hop;obtain⟨_,hop⟩:=Zs hop;unfold Z5v at hop;obtain⟨_,hop⟩:=Z0 hop;obtain⟨_,hop⟩:=Z0 hop;rw[hev]at hop;simp only at hop;split at hop
   case h_2=>cases hop
   rename_i c hc;obtain⟨_,hop⟩:=Z0 hop;obtain⟨c',hop,_⟩:=Z34 hop;rw[putK_eq]at hop;simp only[Option.some.injEq,Prod.mk.injEq]at hop;rw[<-hop.2.1,Z2i _ _ _ _ (Z1 hc),if_neg hi]
 | call c=>
   obtain⟨cal,args,ats⟩:=c;cases cal with
   | builtin b=>
     cases b with
     | append=>
       simp only[stI]at hq;split at hq
       case h_2=>cases hq
       rename_i s x hargs;split at hq
       case h_2=>cases hq
       rename_i o lo n hx;split at hq
       case h_2=>cases hq
       rename_i q' hs;cases hq;have hm:=hms (ev s) (List.mem_map.2 ⟨s,by simp[Zm,hargs],rfl⟩);rw[hs]at hm;refine⟨hm,?_⟩;simp only[opW]at hop;split at hop
       case h_2=>cases hop
       rename_i d s' x' T T' _ ha _;rw[hargs]at ha;cases ha;obtain⟨a',O',h1,h2⟩:=Zc3 hs ⟨_,_,_,hx⟩ hop;simp only[Option.some.injEq,Prod.mk.injEq]at h1;rw[<-h1.2.1];exact h2
     | _=>simp[stI]at hq
   | _=>simp[stI]at hq
 | _=>simp[stI]at hq
theorem Z72 {o :Oper}{j:Nat}{pr ls:List Nat}{lg:List Lg}{σ:St}{K:List Lg->St->Option ρ}{r:ρ}(h:Z8e E call f o j pr ls lg σ K=some r)(hls:ls=Zy all o)
   (hg:∀t∈ls,.tmp t∈Zm o.op\/(σ.get t).men fun _=>False) (hslot:Z7y o.dst ls pr lg=true):
   ∃x:Rc,x.o=o/\x.j=j/\x.pr=pr/\x.lt=ls/\x.run=true/\(∀t∈ls,∃p q,x.ev (.tmp t)=wk p q (σ.get t))/\Opn E call f all x/\Rn E call f x/\Pre x σ/\(∀e∈lg,PW e x)/\K (x.lg::lg) (Zi x σ)=some r:=by
 unfold Z8e at h;rw[Zav]at h;obtain⟨fp,h⟩:=Ze9 h;obtain⟨hms,h⟩:=Z0 h;rw[Zar]at h;obtain⟨hcl,h⟩:=Z0 h;have hms:=mensL_iff.1 fun i hi=>inI_iff.1 (allI_iff.1 hms i hi)
 have hlook:∀i∈fp,look (Zz σ.o fp fp) i=(look σ.o i).map (wkOb (inI fp)):=fun i hi=>by rw[Z2r,if_pos hi]
 have hcl:=allI_iff.1 hcl;have hnear:∀i,has (Zz σ.o fp fp) i=true↔i∈fp:=by
   intro i;constructor
   . intro h1;obtain⟨b,hb⟩:=has_look.1 h1;rw[Z2r]at hb;split at hb
     . assumption
     . cases hb
   . intro h1;obtain⟨b,hb⟩:=has_look.1 (hcl i h1);exact Z1 (b:=wkOb (inI fp) b) (by rw[hlook i h1,hb];rfl)
 have hbox:∀i a,look (Zz σ.o fp fp) i=some (.box a)->a.men fun i=>i∈fp:=by
   intro i a hb;rw[Z2r]at hb;split at hb
   . obtain⟨b,_,h2⟩:=Option.map_eq_some_iff.1 hb;cases b with
     | box c=>
       simp only[wkOb,Ob.box.injEq]at h2;rw[<-h2];exact(Zax c).mono fun i hi=>inI_iff.1 hi
     |list t e xs=>cases h2
     |map t k v es=>cases h2
   . cases hb
 have hev:∀t∈ls,(σ.evD o ls (.tmp t)).men fun i=>i∈fp:=by
   intro t ht;rcases hg t ht with h1|h1
   . exact hms _ (List.mem_map.2 ⟨_,h1,rfl⟩)
   . obtain⟨p,q,e⟩:=Zf0 (o:=o) (σ:=σ) ht;rw[e];exact Z4m p q (h1.mono fun _ h=>h.elim)
 have hpev:∀t∈ls,∃p q,σ.evD o ls (.tmp t)=wk p q (σ.get t):=fun t ht=>Zf0 ht
 have hslot:=Z4p hslot;rcases Z8 h with⟨hw,h⟩|⟨hw,h⟩
 . obtain ⟨hd, h⟩:=Zs h;obtain⟨a,O1,b,hop,h⟩:=Zhl h;rw[Zbh,Z8j]at h;have hst:∀i∈fp,i∉Z7q σ.o fp fp->look σ.o i=look (Zz σ.o fp fp) i:=fun i hi hn=>by
     rw[hlook i hi];cases e:look σ.o i with
     |none=>rfl
     | some b=>cases b with
       |list t e xs=>rfl
       |map t k v es=>rfl
       | box c=>
         simp only[Option.map_some,wkOb];cases e2:allI (inI fp) (Zq c [])
         . exact absurd (Z9h e e2 hi) hn
         . have hm:=(mensA_iff.1 fun i hi=>allI_iff.1 e2 i hi).1;rw[Z37 (hm.mono fun i hi=>⟨hi,hi⟩)]
   obtain ⟨wr, h,hwr1,hwr2,hold,hsm,hnst⟩:∃wr:List Id,(nif (allI (fun i=>nif (has σ.o i) false true) (newA fp O1)) (nif (newL (newA fp O1) lg) (nif (freeL fp wr pr lg) (nif (allI (fun i=>nif (inI fp i) true (inI (newA fp O1) i)) (Zq a []))
         (Zeg wr O1 σ.o fun O2=>nif b (Zcb wr σ.s fun s=>(⟨s,O2⟩:St).putK o.dst a fun σ'=>K (⟨j,fp,wr,pr,o.dst,ls⟩::lg) σ') ((⟨σ.s,O2⟩:St).putK o.dst a fun σ'=>K (⟨j,fp,wr,pr,o.dst,ls⟩::lg) σ')) none) none) none) none)=some r/\
       (∀i∈newA fp O1,i∈wr)/\(∀i∈wr,i∉fp->i∈newA fp O1)/\(∀i∈fp,i∉wr->look O1 i=look (Zz σ.o fp fp) i)/\(∀i∈fp,i∉wr->look σ.o i=look (Zz σ.o fp fp) i)/\(b=true->∀i∈fp,i∉wr->∀bb,look (Zz σ.o fp fp) i=some bb->bb.nested=false):=by
     unfold wrK at h;rcases Z8 h with⟨hm,h⟩|⟨hm,h⟩
     . have hkp:Keepy (Zz σ.o fp fp) O1:=by
         obtain⟨a',O',b',h1,h2⟩:=Zdi hm hop;simp only[Option.some.injEq,Prod.mk.injEq]at h1;obtain⟨_,rfl,_⟩:=h1;exact h2
       rw[Z2y]at h;rcases Z8 h with⟨hb,h⟩|⟨hb,h⟩
       . rw [Z49,Z3l,Z3l]at h;refine⟨_,h,fun i hi=>List.mem_append_right _ hi,fun i hi hf=>?_,fun i hi _=>hkp i ((hnear i).2 hi),fun i hi hn=>hst i hi fun e=>hn (List.mem_append_left _ (List.mem_append_right _ e)),fun _ i hi hn bb hl=>?_⟩
         . rcases List.mem_append.1 hi with h1|h1
           . rcases List.mem_append.1 h1 with h1|h1
             . exact absurd (Z7r h1) hf
             . exact absurd (Z38 h1) hf
           . exact h1
         . cases hp:bb.nested
           . rfl
           . exact absurd (List.mem_append_left _ (List.mem_append_left _ (Z7s hl hp hi))) hn
       . rw[Z3l]at h;refine⟨_,h,fun i hi=>List.mem_append_right _ hi,fun i hi hf=>?_,fun i hi _=>hkp i ((hnear i).2 hi),fun i hi hn=>hst i hi fun e=>hn (List.mem_append_left _ e),fun h=>(by rw[hb]at h;cases h)⟩;rcases List.mem_append.1 hi with h1|h1
         . exact absurd (Z38 h1) hf
         . exact h1
     . split at h
       case h_2=>
         rw[Z3l]at h;refine⟨_,h,fun i hi=>List.mem_append_right _ hi,fun i hi hf=>?_,fun i hi hn=>absurd (List.mem_append_left _ hi) hn,fun i hi hn=>absurd (List.mem_append_left _ hi) hn,fun _ i hi hn=>absurd (List.mem_append_left _ hi) hn⟩;rcases List.mem_append.1 hi with h1|h1
         . exact absurd h1 hf
         . exact h1
       rename_i q hq;obtain⟨hqf,hkp⟩:=Zh8 hop hq (fun v hv=>hms v hv);rw[Z2y]at h;rcases Z8 h with⟨hb,h⟩|⟨hb,h⟩
       . rw [Z49,Z3l,Z3l]at h;refine⟨_,h,fun i hi=>List.mem_cons_of_mem _ (List.mem_append_right _ hi),fun i hi hf=>?_,fun i hi hn=>hkp i ((hnear i).2 hi) fun e=>hn (e▸List.mem_cons_self ..),fun i hi hn=>hst i hi fun e=>hn (List.mem_cons_of_mem _ (List.mem_append_left _ (List.mem_append_right _ e))),fun _ i hi hn bb hl=>?_⟩
         . rcases List.mem_cons.1 hi with h1|h1
           . exact absurd (h1▸hqf) hf
           . rcases List.mem_append.1 h1 with h1|h1
             . rcases List.mem_append.1 h1 with h1|h1
               . exact absurd (Z7r h1) hf
               . exact absurd (Z38 h1) hf
             . exact h1
         . cases hp:bb.nested
           . rfl
           . exact absurd (List.mem_cons_of_mem _ (List.mem_append_left _ (List.mem_append_left _ (Z7s hl hp hi)))) hn
       . rw[Z3l]at h;refine⟨_,h,fun i hi=>List.mem_cons_of_mem _ (List.mem_append_right _ hi),fun i hi hf=>?_,fun i hi hn=>hkp i ((hnear i).2 hi) fun e=>hn (e▸List.mem_cons_self ..),fun i hi hn=>hst i hi fun e=>hn (List.mem_cons_of_mem _ (List.mem_append_left _ e)),fun h=>(by rw[hb]at h;cases h)⟩;rcases List.mem_cons.1 hi with h1|h1
         . exact absurd (h1▸hqf) hf
         . rcases List.mem_append.1 h1 with h1|h1
           . exact absurd (Z38 h1) hf
           . exact h1
   obtain⟨hnew,h⟩:=Z0 h;obtain⟨hnewL,h⟩:=Z0 h;obtain⟨hfree,h⟩:=Z0 h;obtain⟨hres,h⟩:=Z0 h;have hnew:∀i∈newA fp O1,has σ.o i=false:=fun i hi=>by
     have h1:=allI_iff.1 hnew i hi;cases e:has σ.o i
     . rfl
     . rw[e]at h1;cases h1
   have hfree:=freeL_some hfree;have hmen:a.men fun i=>i∈fp++wr:=by
     have hm:∀i∈Zq a [],i∈fp++wr:=fun i hi=>by
       have h1:=allI_iff.1 hres i hi;cases e:inI fp i
       . rw[e]at h1;exact List.mem_append_right _ (hwr1 i (inI_iff.1 h1))
       . exact List.mem_append_left _ (inI_iff.1 e)
     exact(mensA_iff.1 hm).1
   refine⟨⟨o,j,true,true,b,fp,wr,Zz σ.o fp fp,O1,ls,ls,pr,σ.evD o ls,a⟩,rfl,rfl,rfl,rfl,rfl,hpev,⟨⟨hmen.sm,fun _ h=>h,fun t ht=>(hev t ht).sm⟩,.inl ⟨hmen,hev⟩,hls,fun v hv=>?_,hnear,hbox,fun h=>(by cases h),hold,fun i hi=>?_,fun i hi hf=>(newA_mem.1 (hwr2 i hi hf)).1,hnst⟩,⟨fun _=>⟨hw,hop,?_⟩,rfl,fun h=>by cases h⟩,⟨fun i hi=>⟨_,hlook i hi⟩,fun _=>hsm,fun i hi hf=>hnew i (hwr2 i hi hf),hpev⟩,fun e he=>⟨?_,?_⟩,?_⟩
   . exact((Zf1 (o:=o) (ls:=ls) (σ:=σ) hv).trans (Zb0 (ls:=ls) (σ:=σ) hv)).trans (Z70 σ v hv)
   . by_cases hf:i∈fp
     . exact .inl hf
     . exact .inr (hwr1 i (newA_mem.2 ⟨hi,hf⟩))
   . intro d hd' i hi;dsimp only at hd'⊢;rw[hd']at hd;simp only at hd;cases e:has (Zz σ.o fp fp) i
     . rfl
     . rw[Z6g hi e]at hd;cases hd
   . rcases hslot e he with h1|⟨h1,h2,h3⟩
     . exact .inl h1
     . rcases hfree e he with h4|⟨h4,h5⟩
       . exact .inl h4
       . exact .inr ⟨h1,h2,h3,h5,h4⟩
   . intro i hi hf;exact Zaz hnewL e he i (hwr2 i hi hf)
   . rw[Zh5]at h;cases b with
     | true=>
       simp only[nif,Zdb,St.putK_eq]at h;exact h
     | false=>
       simp only[nif,St.putK_eq]at h;exact h
 . obtain⟨a,hop,h⟩:=Zhk h;rw[Zbh]at h;obtain⟨hfree,h⟩:=Z0 h;obtain⟨hres,h⟩:=Z0 h;have hfree:=freeL_some hfree;have hmen:a.men fun i=>i∈fp++[]:=(mensA_iff.1 fun i hi=>List.mem_append_left _ (inI_iff.1 (allI_iff.1 hres i hi))).1
   refine⟨⟨o,j,true,false,false,fp,[],Zz σ.o fp fp,Zz σ.o fp fp,ls,ls,pr,σ.evD o ls,a⟩,rfl,rfl,rfl,rfl,rfl,hpev,⟨⟨hmen.sm,fun _ h=>h,fun t ht=>(hev t ht).sm⟩,.inl ⟨hmen,hev⟩,hls,fun v hv=>?_,hnear,hbox,fun _=>⟨rfl,rfl⟩,fun _ _ _=>rfl,fun i hi=>.inl ((hnear i).1 hi),fun i hi=>(by cases hi),fun h=>(by cases h)⟩,⟨fun h=>(by cases h),rfl,fun _=>⟨hw,rfl,hop⟩⟩,⟨fun i hi=>⟨_,hlook i hi⟩,fun h=>(by cases h),fun i hi=>(by cases hi),hpev⟩,fun e he=>⟨?_,fun i hi=>(by cases hi)⟩,?_⟩
   . exact((Zf1 (o:=o) (ls:=ls) (σ:=σ) hv).trans (Zb0 (ls:=ls) (σ:=σ) hv)).trans (Z70 σ v hv)
   . rcases hslot e he with h1|⟨h1,h2,h3⟩
     . exact .inl h1
     . rcases hfree e he with h4|⟨h4,h5⟩
       . exact .inl h4
       . exact .inr ⟨h1,h2,h3,h5,h4⟩
   . rw[St.putK_eq]at h;rw[Z3c rfl rfl];exact h
theorem Zg6 {o:Oper}{t:Nat}(h:Zdl o=some t):o.op=.move (.tmp t)\/o.op=.assign (.tmp t):=by
 unfold Zdl at h;split at h
 . rename_i e;cases h;exact .inl e
 . rename_i e;cases h;exact .inr e
 . cases h
theorem Zdj {o:Oper}{j:Nat}{pr ls:List Nat}{lg:List Lg}{σ:St}{K:List Lg->St->Option ρ}{r:ρ}(h:Z79 E call f o j pr ls lg σ K=some r)(hls:ls=Zy all o)
   (hg:∀t∈ls,.tmp t∈Zm o.op\/(σ.get t).men fun _=>False) (hin:∀t,.tmp t∈Zm o.op->t∈ls) (hslot:Z7y o.dst ls pr lg=true):
   ∃x:Rc,x.o=o/\x.j=j/\x.pr=pr/\x.lt=ls/\x.run=true/\(∀t∈ls,∃p q,x.ev (.tmp t)=wk p q (σ.get t))/\Opn E call f all x/\Rn E call f x/\Pre x σ/\(∀e∈lg,PW e x)/\K (x.lg::lg) (Zi x σ)=some r:=by
 unfold Z79 at h;split at h
 . rename_i t hc;rcases Z8 h with⟨hs,h⟩|⟨_,h⟩
   . have hop:=Zg6 hc;have hops:Zm o.op=[.tmp t]:=by rcases hop with e|e<;>rw[e]<;>rfl
     have ht:t∈ls:=hin t (by rw[hops];exact List.mem_singleton.2 rfl);have hsm:∀u∈ls,(σ.get u).sm fun i=>i∈([]:List Id):=fun u hu=>by
       rcases hg u hu with h1|h1
       . rw[hops]at h1;cases List.mem_singleton.1 h1;exact Z7t hs
       . exact h1.sm.mono fun _ h=>h.elim
     rw[Zbh,St.putK_eq]at h;have hw:isW o=false:=by unfold isW;rcases hop with e|e<;>rw[e]<;>rfl
     refine⟨⟨o,j,true,false,false,[],[],[],[],ls,ls,pr,fun x=>match x with|.tmp t=>σ.get t|x=>σ.ev x,σ.get t⟩,rfl,rfl,rfl,rfl,rfl,fun u _=>⟨tt,tt,(Z9g _).symm⟩,
       ⟨⟨(hsm t ht).mono fun _ h=>(by cases h),fun _ h=>h,hsm⟩,.inr ⟨rfl,t,hop,ht,rfl⟩,hls,fun u hu=>?_,fun i=>?_,fun o a h=>(by cases h),fun _=>⟨rfl,rfl⟩,fun i hi=>(by cases hi),fun i hi=>(by cases hi),fun i hi=>(by cases hi),fun h=>(by cases h)⟩,
       ⟨fun h=>(by cases h),rfl,fun _=>⟨hw,rfl,?_⟩⟩,⟨fun i hi=>(by cases hi),fun h=>(by cases h),fun i hi=>(by cases hi),fun u _=>⟨tt,tt,(Z9g _).symm⟩⟩,fun e he=>⟨?_,fun i hi=>(by cases hi)⟩,by rw[Z3c rfl rfl];exact h⟩
     . cases u with
       |tmp t=>exact absurd rfl (hu t)
       | _=>exact Z70 σ _ hu
     . simp[has]
     . unfold opQ;rcases hop with e|e<;>rw[e]
     . rcases Z4p hslot e he with h1|⟨h1,h2,h3⟩
       . exact .inl h1
       . exact .inr ⟨h1,h2,h3,fun i _=>⟨fun hi=>(by cases hi),fun hi=>(by cases hi)⟩,fun i hi=>(by cases hi)⟩
   . exact Z72 h hls hg hslot
 . exact Z72 h hls hg hslot
theorem Zb2 {α:Type}:∀{l:List α}{i:Nat}{a:α},nth l i=some a->setA l i a=l
 |[],i,_,h=>by cases i<;>cases h
 | _::_,0,_,h=>by simp only[nth,Option.some.injEq]at h;subst h;rfl
 |c::l,n+1,a,h=>by rw[Z13,Zb2 (l:=l) h]
theorem Zb3 {σ:St}{d:Nat}{v:Bool}(h:σ.get d=.v .bool v)(K:St->ρ):σ.setK d (.v .bool v) K=K σ:=by
 obtain⟨s,O⟩:=σ;simp only[St.setK,Z33];rw[Zb2];unfold St.get at h;split at h
 . rename_i a ha;rw[ha,h]
 . cases h
structure Runs (E:Env) (call:Z42) (f:Nat) (all l:List Oper) (j:Nat) (lg:List Lg) (σ:St) (L:List Rc):Prop where
 valid:Valid σ L
 map:L.map (·.o)=l
 good:∀x∈L,Good E call f all x
 num:∀k x,L[k]?=some x->x.j=j+k
 pwl:∀y∈L,∀e∈lg,PW e y
 pw:L.Pairwise fun x y=>PW x.lg y
 pr:∀y∈L,∀k∈y.pr,∃e∈y.o.after,Region.binds .any e=true/\(k=e.on\/(∃z∈lg,z.j=e.on/\k∈z.pr)\/∃z∈L,z.j=e.on/\k∈z.pr)
theorem Z9s:∀{l:List Oper}{j:Nat}{lg:List Lg}{σ:St}{K:St->Option ρ}{r:ρ},Z3f E call f all l j lg σ K=some r->∃L,K (final σ L).sw=some r/\Runs E call f all l j lg σ L
 | [],j,lg,σ,K,r,h=>by
   simp only[Z3f,St.sweepK_eq]at h;exact⟨[],h,trivial,rfl,fun x h=>(by cases h),fun k x h=>(by cases h),fun x h=>(by cases h),.nil,fun x h=>by cases h⟩
 | o :: l, j,lg,σ,K,r,h=>by
   simp only[Z3f,Z7u,Zaw]at h;obtain⟨hc,h⟩:=Z0 h;have hc:Z8m j o.after.toList=true/\Z7y o.dst (Zy all o) (Z3d lg o.after.toList []) lg=true:=by
     revert hc;cases Z8m j o.after.toList<;>simp[nif]
   have hback:=Z9n hc.1;have cont:∀x:Rc,x.o=o->x.j=j->x.pr=Z3d lg o.after.toList []->Good E call f all x->Pre x σ->(∀e∈lg,PW e x)->Z3f E call f all l (Nat.succ j) (x.lg::lg) (Zi x σ) K=some r->∃L,K (final σ L).sw=some r/\Runs E call f all (o::l) j lg σ L:=by
     intro x ho hj hpr hgood hpre hpw h;obtain⟨L,hK,hR⟩:=Z9s h;refine⟨x::L,hK,⟨hpre,hR.valid⟩,by rw[List.map_cons,hR.map,ho],fun y hy=>?_,fun k y hk=>?_,fun y hy e he=>?_,?_,fun y hy k hk=>?_⟩
     . rcases List.mem_cons.1 hy with rfl|hy
       . exact hgood
       . exact hR.good y hy
     . cases k with
       |zero=>cases hk;rw[hj];rfl
       | succ k=>
         rw[hR.num k y (by simpa using hk)];omega
     . rcases List.mem_cons.1 hy with rfl|hy
       . exact hpw e he
       . exact hR.pwl y hy e (List.mem_cons_of_mem _ he)
     . exact List.pairwise_cons.2 ⟨fun y hy=>hR.pwl y hy x.lg List.mem_cons_self,hR.pw⟩
     . rcases List.mem_cons.1 hy with rfl|hy
       . rw[hpr]at hk;obtain⟨e,h1,h2,h3⟩:=(Z69 hk).resolve_left fun h=>by cases h
         refine⟨e,by rw[ho];exact Array.mem_toList_iff.1 h1,h2,?_⟩;rcases h3 with h3|h3
         . exact .inl h3
         . exact .inr (.inl h3)
       . obtain⟨e,h1,h2,h3⟩:=hR.pr y hy k hk;refine⟨e,h1,h2,?_⟩;rcases h3 with h3|⟨z,h3,h4⟩|⟨z,h3,h4⟩
         . exact .inl h3
         . rcases List.mem_cons.1 h3 with rfl|h3
           . exact .inr (.inr ⟨x,List.mem_cons_self,h4⟩)
           . exact .inr (.inl ⟨z,h3,h4⟩)
         . exact .inr (.inr ⟨z,List.mem_cons_of_mem _ h3,h4⟩)
   have hin:∀t,.tmp t∈Zm o.op->t∈Zy all o:=by
     have h1:∀{l:List Operand}{t:Nat},Operand.tmp t∈l->t∈Z25 l:=by
       intro l t
       induction l with
       |nil=>intro h;cases h
       | cons a l ih=>
         intro h;rcases List.mem_cons.1 h with h1|h1
         . rw[<-h1];simp only[Z25];exact List.mem_cons_self
         . cases a<;>simp only[Z25]<;>first|exact ih h1|exact List.mem_cons_of_mem _ (ih h1)
     intro t ht;unfold Zy;split
     . split
       . exact List.mem_cons_of_mem _ (h1 ht)
       . exact h1 ht
     . exact h1 ht
   have run:(∀t∈Zy all o,.tmp t∈Zm o.op\/(σ.get t).men fun _=>False)->(∀x:Rc,x.o=o->x.lt=Zy all o->x.run=true->(∀t∈Zy all o,∃p q,x.ev (.tmp t)=wk p q (σ.get t))->Z9m all x)->
       (Z79 E call f o j (Z3d lg o.after.toList []) (Zy all o) lg σ fun lg' σ'=>Z3f E call f all l (Nat.succ j) lg' σ' K)=some r->∃L,K (final σ L).sw=some r/\Runs E call f all (o::l) j lg σ L:=by
     intro hg ha h;obtain⟨x,h1,h2,h3,h4,h5,h6,h7,h8,h9,h10,h11⟩:=Zdj (all:=all) h rfl hg hin hc.2;refine cont x h1 h2 h3 ⟨h7,fun _=>h8,fun h=>(by rw[h5]at h;cases h),ha x h1 h4 h5 h6,fun e he hb=>?_⟩ h9 h10 h11;rw[h2];exact hback e (Array.mem_toList_iff.2 (by rw[<-h1];exact he)) hb
   have tmps:∀{t:Nat}{l:List Operand},t∈Z25 l->.tmp t∈l:=by
     intro t l
     induction l with
     |nil=>intro h;cases h
     | cons a l ih=>
       intro h;cases a<;>simp only[Z25]at h<;>first|exact List.mem_cons_of_mem _ (ih h)|skip
       rcases List.mem_cons.1 h with h|h
       . rw[h];exact List.mem_cons_self
       . exact List.mem_cons_of_mem _ (ih h)
   split at h
   . rename_i hgd;refine run (fun t ht=>?_) (fun x hx _ hr _=>?_) h
     . simp only[Zy,hgd]at ht;exact .inl (tmps ht)
     . unfold Z9m;rw[hx,hgd];exact hr
   . rename_i g b hgd;split at h
     . rename_i d op ty pos af gu hj;have hlk:Zy all o=d::Z25 (Zm o.op):=by simp only[Zy,hgd,hj]
       have hd:d∈Zy all o:=by rw[hlk];exact List.mem_cons_self
       have skip:∀v:Bool,((σ.get d=.v .bool v/\false=(v==b))\/(σ.get d=.tn/\false=false))->(σ.putK o.dst .tn fun σ'=>Z3f E call f all l (Nat.succ j) (⟨j,[],[],Z3d lg o.after.toList [],o.dst,Zy all o⟩::lg) σ' K)=some r->∃L,K (final σ L).sw=some r/\Runs E call f all (o::l) j lg σ L:=by
         intro v hvb h;rw[St.putK_eq]at h;have hsk:∀t∈[d],(σ.get t).men fun i=>i∈([]:List Id):=fun t ht=>by
           rw[List.mem_singleton.1 ht];rcases hvb with⟨hv,_⟩|⟨hv,_⟩<;>rw[hv]<;>trivial
         refine cont ⟨o,j,false,false,false,[],[],[],[],Zy all o,[d],Z3d lg o.after.toList [],fun x=>match x with|.tmp t=>σ.get t|x=>σ.ev x,.tn⟩ rfl rfl rfl ⟨⟨⟨trivial,fun t ht=>?_,fun t ht=>hsk t ht|>.sm⟩,.inl ⟨trivial,hsk⟩,rfl,fun u hu=>?_,fun i=>?_,fun o a h=>(by cases h),fun _=>⟨rfl,rfl⟩,fun i hi=>(by cases hi),fun i hi=>(by cases hi),fun i hi=>(by cases hi),fun h=>(by cases h)⟩,fun h=>(by cases h),fun _=>⟨rfl,rfl⟩,?_,fun e he hb=>hback e (Array.mem_toList_iff.2 he) hb⟩ ⟨fun i hi=>(by cases hi),fun h=>(by cases h),fun i hi=>(by cases hi),fun t ht=>?_⟩ (fun e he=>⟨?_,fun i hi=>(by cases hi)⟩) (by rw[Z3c rfl rfl];exact h)
         . rw[List.mem_singleton.1 ht];exact hd
         . cases u with
           |tmp t=>exact absurd rfl (hu t)
           | _=>exact Z70 σ _ hu
         . simp[has]
         . unfold Z9m;dsimp only;rw[hgd];exact⟨_,d,v,hj,rfl,List.mem_singleton.2 rfl,hvb⟩
         . exact⟨tt,tt,(Z9g _).symm⟩
         . rcases Z4p hc.2 e he with h1|⟨h1,h2,h3⟩
           . exact .inl h1
           . exact .inr ⟨h1,h2,h3,fun i _=>⟨fun hi=>(by cases hi),fun hi=>(by cases hi)⟩,fun i hi=>(by cases hi)⟩
       split at h
       . rename_i v hv;have hmen:∀t∈Zy all o,.tmp t∈Zm o.op\/(σ.get t).men fun _=>False:=fun t ht=>by
           rw[hlk]at ht;rcases List.mem_cons.1 ht with rfl|ht
           . right;rw[hv];trivial
           . exact .inl (tmps ht)
         have ask:∀x:Rc,x.o=o->x.lt=Zy all o->x.run=(v==b)->(∀t∈Zy all o,∃p q,x.ev (.tmp t)=wk p q (σ.get t))->Z9m all x:=fun x h1 h2 h3 h4=>by
           unfold Z9m;rw[h1,hgd];exact⟨_,d,v,hj,rfl,by rw[h2];exact hd,.inl ⟨by obtain⟨p,q,e⟩:=h4 d hd;rw[e,hv];rfl,h3⟩⟩
         cases v with
         | true=>
           simp only[cond_true,Zb3 hv]at h;cases b with
           |true=>exact run hmen (fun x h1 h2 h3 h4=>ask x h1 h2 h3 h4) h
           |false=>exact skip true (.inl ⟨hv,rfl⟩) h
         | false=>
           simp only[cond_false,Zb3 hv]at h;cases b with
           |false=>exact run hmen (fun x h1 h2 h3 h4=>ask x h1 h2 h3 h4) h
           |true=>exact skip false (.inl ⟨hv,rfl⟩) h
       . rename_i hv;exact skip true (.inr ⟨hv,rfl⟩) h
       . cases h
     . cases h
theorem WR.evg {act:Act}{σ:St}{x:Rc}{t:Nat}(h:WR own w G act.tmps σ)(hp:Pre x σ)(hm:(x.ev (.tmp t)).men fun _=>False)(ht:t∈x.lt):AVv own w G (x.ev (.tmp t)) (act.eval (.tmp t)):=by
 obtain⟨p,q,hq⟩:=hp.ev t ht;have e1:x.ev (.tmp t)=wk (fun o=>has σ.o o&&p o) (fun o=>has σ.o o&&q o) (σ.get t):=by
   have:wk (has σ.o) (has σ.o) (x.ev (.tmp t))=x.ev (.tmp t):=Z37 (hm.mono fun i hi=>hi.elim);rw[<-this,hq,Z47]
 have e2:act.eval (.tmp t)=act.tmps.getD t undef:=rfl;rw[e1,e2];unfold St.get;cases e:nth σ.s t with
 |none=>trivial
 | some a=>
   exact AVv.wk (Sealed.refl _ _) (P:=fun _=>True) (p:=has σ.o) (q:=has σ.o) (fun o _ ho=>⟨by simp only[Bool.and_eq_true]at ho;exact ho.1,rfl⟩) (fun o _ ho=>⟨by simp only[Bool.and_eq_true]at ho;exact ho.1,rfl,fun _ _ _=>rfl⟩) (vwK_some.AV.men.all _) (h.slot t a e)
theorem Zee {act:Act}{σ:St}{x:Rc}{ops:Array Oper}(h:WR own w G act.tmps σ)(hx:Good E call f ops.toList x)(hp:Pre x σ):Region.wanted x.o (yielded ops act.tmps)=x.run:=by
 have ha:=hx.asked;unfold Z9m at ha;cases hg:x.o.guard with
 | none=>
   rw[hg]at ha;simp[Region.wanted,hg,show x.run=true from ha]
 | some gb=>
   obtain⟨g,b⟩:=gb;rw[hg]at ha;obtain⟨o,d,v,h1,h2,h3,h4⟩:=ha;have h6:=h.evg hp (t:=d) (by rcases h4 with⟨h4,_⟩|⟨h4,_⟩<;>rw[h4]<;>trivial) h3;rw[Z97]at h1;simp only[Array.getElem?_toList]at h1;rcases h4 with⟨h4,h5⟩|⟨h4,h5⟩
   . rw[h4]at h6;obtain⟨cs,⟨_,hc⟩,hv⟩:=h6;have hc:cs=[.bool v]:=hc;subst hc;have hv:[Value.bool v]=[act.tmps.getD d undef]:=hv;have hv:act.tmps.getD d undef=.bool v:=by simpa using hv.symm
     have hb:act.tmps[d]?=some (.bool v):=by
       rw[Array.getD_eq_getD_getElem?]at hv;cases e:act.tmps[d]? with
       |none=>rw[e]at hv;cases hv
       |some u=>rw[e]at hv;simp only[Option.getD_some]at hv;rw[hv]
     have hy:yielded ops act.tmps g=some v:=by
       unfold yielded;simp[h1,h2,hb]
     rw[h5];simp only[Region.wanted,hg,hy];cases v<;>cases b<;>rfl
   . rw [h4]at h6;have h6:act.tmps.getD d undef=.tuple #[]:=h6;have hy:yielded ops act.tmps g=none:=by
       unfold yielded;rw[Array.getD_eq_getD_getElem?]at h6;cases e:act.tmps[d]? with
       |none=>simp[h1,h2,e]
       | some u=>
         rw[e]at h6;simp only[Option.getD_some]at h6;subst h6;simp[h1,h2,e]
     rw[h5];simp only[Region.wanted,hg,hy];cases b<;>rfl
theorem Z2v {tm:Array Value}:∀{l:List Oper}{σ:St}{K:St->Option ρ}{r:ρ},SR own w G tm σ->Z4c l σ K=some r->∃σ',SR own w G tm σ'/\K σ'=some r
 |[],σ,K,r,hS,h=>⟨σ,hS,h⟩
 | o ::l,σ,K,r,hS,h=>by
   simp only[Z4c]at h;rcases Z8 h with⟨_,h⟩|⟨_,h⟩
   . split at h
     . rename_i d hd;rw[St.clearK_eq]at h;exact Z2v (hS.clear d).1 h
     . exact Z2v hS h
   . exact Z2v hS h
section
variable {ops:Array Oper}{D:Act->Prop}{Lall:List Rc}{own0:Own}{w0:World}{K:St->Option ρ}{r:ρ}{Q:Exit->Act->World->Prop}{τ σ0:St}
theorem Zhn (hE:EnvOk E)(hcall:Z1v E call)(hst:Zcz D ops.toList)(hR:Runs E call f ops.toList ops.toList 0 [] σ0 Lall)
   (hQ:∀own' w' G' act' σ',K σ'=some r->SR own' w' G' act'.tmps σ'->Keeps own0 own' w0 w'->D act'->Q .normal act' w') (hK:K τ.sw=some r):
   ∀ (n:Nat)(L:List Rc)(listed:Array Bool)(own:Own)(w:World)(G:Gs)(act:Act)(σ:St)(P:Id->Prop),L.length=n->L.Sublist Lall->listed.size=ops.size->(∀i,i<ops.size->(listed.getD i true=false↔∃x∈L,x.j=i))->
     (∀z∈Lall,listed.getD z.j false=true->∀k∈z.pr,listed.getD k false=true)->WR own w G act.tmps σ->EvS P σ->(∀y∈L,∀i∈y.wr,i∉y.fp->¬P i)->Valid σ L->Eqv (final σ L) τ->Keeps own0 own w0 w->D act->
     wpAny E.P .any ops Q n listed act w:=by
 have hat:∀{x},x∈Lall->x.j<ops.size/\ops[x.j]?=some x.o:=by
   intro x hx;obtain⟨k,hk⟩:=List.getElem?_of_mem hx;have h1:=hR.num k x hk;have h2:ops.toList[k]?=some x.o:=by rw[<-hR.map,List.getElem?_map,hk];rfl
   have h3:x.j=k:=by omega
   rw[h3];rw[Array.getElem?_toList]at h2;exact⟨(Array.getElem?_eq_some_iff.1 h2).1,h2⟩
 have hlt:Lall.Pairwise fun x y=>x.j<y.j:=by
   rw[List.pairwise_iff_getElem];intro i j hi hj hij;have h1:=hR.num i _ (List.getElem?_eq_getElem hi);have h2:=hR.num j _ (List.getElem?_eq_getElem hj);omega
 have hone:∀{x y},x∈Lall->y∈Lall->x.j=y.j->x=y:=by
   intro x y hx hy e;obtain⟨k,hk⟩:=List.getElem?_of_mem hx;obtain⟨m,hm⟩:=List.getElem?_of_mem hy;have h1:=hR.num k x hk;have h2:=hR.num m y hm;have:k=m:=by omega
   subst this;rw[hk]at hm;exact Option.some.inj hm
 intro n
 induction n with
 | zero=>
   intro L listed own w G act σ P hn hsub hsz hli hcl hW hev hnew hv he hk hD;have hL:L=[]:=List.length_eq_zero_iff.1 hn;subst hL;refine⟨?_,hQ own w G act _ hK (hW.sw he) hk hD⟩;cases e:Region.ready .any ops listed with
   |nil=>rfl
   | cons i l=>
     have hi:i∈Region.ready .any ops listed:=by rw[e];exact List.mem_cons_self
     obtain⟨h0,o,ho,_⟩:=mem_ready.1 hi;obtain⟨x,hx,_⟩:=(hli i (Array.getElem?_eq_some_iff.1 ho).1).1 h0;cases hx
 | succ n ih =>
   intro L listed own w G act σ P hn hsub hsz hli hcl hW hev hnew hv he hk hD;have hgd:∀i,i<ops.size->(listed.getD i false=true↔¬listed.getD i true=false):=by
     intro i hi;have:i<listed.size:=by rw[hsz];exact hi
     simp[this]
   have hnl:∀x∈L,listed.getD x.j false≠true:=fun x hx h=>((hgd x.j (hat (hsub.subset hx)).1).1 h) ((hli x.j (hat (hsub.subset hx)).1).2 ⟨x,hx,rfl⟩)
   refine⟨fun hr=>?_,fun i hi=>?_⟩
   . cases L with
     |nil=>cases hn
     | cons x L=>
       have hx:x∈Lall:=hsub.subset List.mem_cons_self;have:x.j∈Region.ready .any ops listed:=by
         refine mem_ready.2 ⟨(hli x.j (hat hx).1).2 ⟨x,List.mem_cons_self,rfl⟩,x.o,(hat hx).2,fun e hee hb=>?_⟩;have h1:=(hR.good x hx).back e hee hb;have h2:e.on<ops.size:=Nat.lt_trans h1 (hat hx).1;refine(hgd e.on h2).2 fun h3=>?_
         obtain⟨z,hz,hzj⟩:=(hli e.on h2).1 h3;rcases List.mem_cons.1 hz with rfl|hz
         . omega
         . have:=(List.pairwise_cons.1 (hlt.sublist hsub)).1 z hz;omega
       rw[hr]at this;cases this
   . obtain ⟨h0,o,ho,hall⟩:=mem_ready.1 hi;have hisz:=(Array.getElem?_eq_some_iff.1 ho).1;obtain⟨x,hxL,hxj⟩:=(hli i hisz).1 h0;have hx:x∈Lall:=hsub.subset hxL;have hox:o=x.o:=by
       have:=(hat hx).2;rw[hxj,ho]at this;exact Option.some.inj this
     subst hox;have hgx:=hR.good x hx;have hprl:∀k∈x.pr,listed.getD k false=true:=by
       intro k hk;obtain⟨e,h1,h2,h3⟩:=hR.pr x hx k hk;have h4:=hall e h1 h2;rcases h3 with rfl|⟨z,h3,_⟩|⟨z,h3,h5,h6⟩
       . exact h4
       . cases h3
       . exact hcl z h3 (by rw[h5];exact h4) k h6
     obtain⟨L1,L2,hLL⟩:=List.append_of_mem hxL;subst hLL;have hpw:=hR.pw.sublist hsub;have hpw1:∀y∈L1,PW y.lg x:=fun y hy=>(List.pairwise_append.1 hpw).2.2 y hy x List.mem_cons_self
     have hpw2:∀y∈L2,PW x.lg y:=fun y hy=>(List.pairwise_cons.1 (List.pairwise_append.1 hpw).2.1).1 y hy
     have hlt':=hlt.sublist hsub;have hj1:∀y∈L1,y.j<x.j:=fun y hy=>(List.pairwise_append.1 hlt').2.2 y hy x List.mem_cons_self
     have hj2:∀y∈L2,x.j<y.j:=fun y hy=>(List.pairwise_cons.1 (List.pairwise_append.1 hlt').2.1).1 y hy
     have hind:∀y∈L1,Ind y x:=fun y hy=>by
       rcases(hpw1 y hy).ind with h1|h1
       . exact absurd (hprl _ h1) (hnl y (List.mem_append_left _ hy))
       . exact h1
     have hstat:∀y∈L1,Stat y/\Ind y x:=fun y hy=>⟨(hR.good y (hsub.subset (List.mem_append_left _ hy))).op.toStat,hind y hy⟩
     obtain⟨hpx,hv',he'⟩:=hv.front hgx.op.toStat hstat;have hsub':(L1++L2).Sublist (L1++x::L2):=(List.Sublist.refl L1).append (List.sublist_cons_self x L2);have hlen':(L1++L2).length=n:=by
       simp only[List.length_append,List.length_cons]at hn⊢;omega
     have hli':∀k,k<ops.size->((listed.setIfInBounds i true).getD k true=false↔∃y∈L1++L2,y.j=k):=by
       intro k hk;by_cases hki:i=k
       . subst hki;constructor
         . intro h;have:i<listed.size:=by rw[hsz];exact hisz
           simp[this]at h
         . rintro⟨y,hy,hyj⟩;rcases List.mem_append.1 hy with hy|hy
           . have:=hj1 y hy;omega
           . have:=hj2 y hy;omega
       . rw [getD_set_ne true hki,hli k hk];constructor
         . rintro⟨y,hy,hyj⟩;refine⟨y,?_,hyj⟩;rcases List.mem_append.1 hy with hy|hy
           . exact List.mem_append_left _ hy
           . rcases List.mem_cons.1 hy with rfl|hy
             . exact absurd (hxj.symm.trans hyj) hki
             . exact List.mem_append_right _ hy
         . rintro⟨y,hy,hyj⟩;exact⟨y,hsub'.subset hy,hyj⟩
     have hcl':∀z∈Lall,(listed.setIfInBounds i true).getD z.j false=true->∀k∈z.pr,(listed.setIfInBounds i true).getD k false=true:=by
       intro z hz hzl k hk;by_cases hzi:i=z.j
       . have:=hone hz hx (hzi.symm.trans hxj.symm);subst this;exact getD_set_true (hprl k hk)
       . rw[getD_set_ne false hzi]at hzl;exact getD_set_true (hcl z hz hzl k hk)
     have hnew':∀y∈L1++L2,∀i∈y.wr,i∉y.fp->¬(P i\/i∈x.ids):=by
       intro y hy i hi hf h;rcases h with h|h
       . exact hnew y (hsub'.subset hy) i hi hf h
       . rcases List.mem_append.1 hy with hy|hy
         . rcases Rc.mem_ids.1 h with h|h
           . exact((hind y hy).wx i hi).1 h
           . exact((hind y hy).wx i hi).2 h
         . have:=(hpw2 y hy).new i hi hf;rcases Rc.mem_ids.1 h with h|h
           . exact this.1 h
           . exact this.2 h
     have hmem:x.o∈ops.toList:=by rw[<-hR.map];exact List.mem_map.2 ⟨x,hx,rfl⟩
     unfold wpOp;rw[ho];simp only;have hw:=Zee (ops:=ops) hW hgx hpx;cases hrun:x.run with
     | true=>
       rw[if_pos (by rw[hw];exact hrun)];refine .inl (Does.wp (hW.step hE hcall hev hgx.op (hgx.rn hrun) hpx (hnew x hxL) _ fun own' w' G' v hW' hev' hk'=>?_));exact ih (L1++L2) _ own' w' G' (act.put x.o.dst v) _ _ hlen' (hsub'.trans hsub) (by simp[hsz]) hli' hcl' hW' hev' hnew' hv' (he'.symm.trans he) (hk.trans hk') (hst x.o hmem act v hD)
     | false=>
       rw[if_neg (by rw[hw,hrun];decide)];obtain⟨hl,ha⟩:=hgx.no hrun;obtain⟨hW',hev'⟩:=hW.skip hev hl ha (hgx.op.quiet hl).2;exact ih (L1++L2) _ own w G (act.put x.o.dst undef) _ P hlen' (hsub'.trans hsub) (by simp[hsz]) hli' hcl' hW' hev' (fun y hy i hi hf h=>hnew' y hy i hi hf (.inl h)) hv' (he'.symm.trans he) hk (hst x.o hmem act undef hD)
end
theorem Zb4 {i:Id}:∀{L:List Rc}{σ:St},L.Pairwise (fun x y=>PW x.lg y)->Valid σ L->∀y∈L,i∈y.wr->i∉y.fp->has σ.o i=false
 |[],σ,_,_,y,hy,_,_=>by cases hy
 | x::L,σ,hp,hv,y,hy,hi,hf=>by
   rcases List.mem_cons.1 hy with rfl|hy
   . exact hv.1.new i hi hf
   . have h1:=Zb4 (List.pairwise_cons.1 hp).2 hv.2 y hy hi hf;have h2:=((List.pairwise_cons.1 hp).1 y hy).new i hi hf;rw[<-h1,Z2f];exact(Zh (Z14 h2.2)).symm
theorem Zi2(hm:E.P.follows .mixedOrders=true)(hE:EnvOk E)(hcall:Z1v E call):Zbv E call f:=by
 intro ρ id ops D own w G act σ K r Q hst hD hS h hQ;obtain⟨σ',hS',h⟩:=Z2v hS h;obtain⟨L,hK,hR⟩:=Z9s h;refine wp_region_any hm ?_;have hlen:L.length=ops.size:=by
   have:=congrArg List.length hR.map;simpa using this
 rw[<-hlen];refine Zhn hE hcall hst hR hQ hK L.length L _ own _ G act σ' (fun o=>has σ'.o o=true) rfl (List.Sublist.refl _) (by simp[hlen]) (fun i hi=>?_) (fun z hz h=>?_) (hS'.wr.world rfl) hS'.evs (fun y hy i hi hf=>?_) hR.valid (.refl _) ⟨fun g h=>⟨h,rfl⟩,fun g _ h=>⟨h,rfl⟩,Nat.le_refl _,rfl,rfl,rfl⟩ hD
 . constructor
   . intro _;have hi':i<L.length:=by rw[hlen];exact hi
     exact⟨L[i],List.getElem_mem hi',by have:=hR.num i _ (List.getElem?_eq_getElem hi');omega⟩
   . intro _;simp[hlen,hi]
 . exfalso;simp at h;by_cases hz':z.j<L.length
   . simp[hz']at h
   . simp[hz']at h
 . rw[Zb4 hR.pw hR.valid y hy hi hf];decide
end Go.Pv
namespace Go.Pv
open Go
variable {P:Program}
def zOf(i:TI):Value:=match litC i.zero.t i.zero.x with
 |some cs=>nif i.agg (.agg cs.toArray) (cs.headD undef)
 |none=>undef
def tdB:TD->TypeDesc->Bool
 |.int k,.int k'=>Nat.beq (ikN k) (ikN k')
 |.bool,.bool=>true
 |.str,.string=>true
 |.slice e,.slice e'=>Nat.beq e e'
 |.array n e,.array n' e'=>nif (Nat.beq n n') (Nat.beq e e') false
 |.map k e,.map k' e'=>nif (Nat.beq k k') (Nat.beq e e') false
 |.ptr e,.pointer e'=>Nat.beq e e'
 |.struct fs,.struct fields=>decide ((fields.toList.map fun f=>(f.offset,f.type))=fs)
 |.other,_=>true
 | _,_=>false
theorem Zh9 {a b:Bool}(h:nif a b false=true):a=true/\b=true:=by
 cases a<;>simp_all[nif]
theorem Zi3:∀{d:TD}{t:TypeDesc},tdB d t=true->TDok d t
 |.int _,.int _,h=>congrArg _ (Z6l h).symm
 |.bool,.bool,_=>rfl
 |.str,.string,_=>rfl
 |.slice _,.slice _,h=>congrArg _ (Nat.eq_of_beq_eq_true h).symm
 | .array n e,.array n' e',h=>by
   obtain⟨h1,h2⟩:=Zh9 h;cases Nat.eq_of_beq_eq_true h1;cases Nat.eq_of_beq_eq_true h2;rfl
 | .map n e,.map n' e',h=>by
   obtain⟨h1,h2⟩:=Zh9 h;cases Nat.eq_of_beq_eq_true h1;cases Nat.eq_of_beq_eq_true h2;rfl
 |.ptr _,.pointer _,h=>congrArg _ (Nat.eq_of_beq_eq_true h).symm
 |.struct _,.struct _,h=>⟨_,rfl,of_decide_eq_true h⟩
 |.other,_,_=>trivial
def aggB:TypeDesc->Bool
 |.struct _=>true
 |.array _ _=>true
 | _=>false
def Zi4:Option TypeDesc->Bool
 |some (.struct fs)=>fs.toList.all fun f=>!(f.name== "_")
 | _=>true
def tiB(P:Program)(T:Nat)(i:TI):Bool:=
 (match litC i.zero.t i.zero.x with|some cs=>i.agg||Nat.beq (nlen cs) 1|none=>false)&&
 (Nat.beq i.zero.t.size i.size&&((i.zero.t.agg==i.agg)&&
 ((match P.underlying T with|some d=>tdB i.d d&&(i.agg==aggB d)|none=>false)&&
 (!i.eq||(!(P.eqGuardType P.depth T)&&(!(P.stoodInHeld T)&&Zi4 (P.underlying T)))))))
theorem tiOk {T:Nat}{i:TI}(h1:(P.info? T).map (fun inf=>(inf.size,inf.bytes,inf.zero))=some (i.size,i.bytes,some (zOf i)))(h2:tiB P T i=true):TIok P i T:=by
 simp only[tiB,Bool.and_eq_true]at h2;obtain⟨ha,hb,hc,hd,he⟩:=h2;obtain⟨inf,hi,hq⟩:=Option.map_eq_some_iff.1 h1;simp only[Prod.mk.injEq]at hq;cases hl:litC i.zero.t i.zero.x with
 |none=>rw[hl]at ha;cases ha
 | some cs=>
   rw[hl]at ha;refine⟨⟨inf,zOf i,cs,hi,hq.1,hq.2.1,hq.2.2,hl,?_⟩,Nat.eq_of_beq_eq_true hb,eq_of_beq hc,?_,?_⟩
   . unfold zOf;rw[hl];cases hg:i.agg with
     |true=>rfl
     | false=>
       rw[hg]at ha;simp only[Bool.false_or,Z3h]at ha;have:=Nat.eq_of_beq_eq_true ha
       match cs,this with
       |[c],_=>rfl
   . cases hu:P.underlying T with
     |none=>rw[hu]at hd;cases hd
     | some d=>
       rw[hu]at hd;simp only[Bool.and_eq_true]at hd;refine⟨d,rfl,Zi3 hd.1,?_⟩;rw[eq_of_beq hd.2];cases d<;>rfl
   . intro hq;rw[hq]at he;simp only[Bool.not_true,Bool.false_or,Bool.and_eq_true,Bool.not_eq_true']at he;refine⟨he.1,he.2.1,fun fs hfs f hf=>?_⟩;have:=he.2.2;rw[hfs]at this;have:=List.all_eq_true.1 this f hf;simpa using this
def AllP {α:Type}(p:α->Prop):List α->Prop
 |[]=>True
 |a::l=>p a/\AllP p l
theorem AllP.lk {α:Type}{p:Nat->α->Prop}:∀{l:List (Nat×α)},AllP (fun q=>p q.1 q.2) l->∀k a,Pv.lk l k=some a->p k a
 |[],_,k,a,h=>by cases h
 | (j,b)::l,hp,k,a,h=>by
   simp only[Pv.lk]at h;cases e:Nat.beq j k
   . rw[e]at h;exact AllP.lk hp.2 k a h
   . rw[e]at h;simp only[nif,Option.some.injEq]at h;subst h;cases Nat.eq_of_beq_eq_true e;exact hp.1
theorem Z9t {α β:Type}(g:α->β):∀(l:List (Nat×α))(k:Nat),lk (l.map fun q=>(q.1,g q.2)) k=(lk l k).map g
 |[],_=>rfl
 | (j,b)::l,k=>by
   simp only[List.map_cons,lk];cases Nat.beq j k
   . exact Z9t g l k
   . rfl
structure FnE (P:Program) (k:Nat) (e:Func×Sg):Prop where
 at':P.funcs[k % 100000]?=some e.1
 ok:nif e.1.body.isNone false (nif (e.1.name== "runtime.NumGoroutine") false (match e.1.body with|some c=>Z3t e.2.ps c|none=>true))=true
def cloB:List (Nat×Nat×Nat)->Bool
 |[]=>true
 |(a,_,c)::l=>nif (Nat.beq (Nat.mod c 100000) a) (cloB l) false
theorem Zc4 {g f key:Nat}:∀{l:List (Nat×Nat×Nat)},cloB l=true->lk2 l g f=some key->key % 100000=g
 |[],_,h=>by cases h
 | (a,b,c)::l,hc,h=>by
   simp only[cloB]at hc;have h0:Nat.beq (Nat.mod c 100000) a=true/\cloB l=true:=by
     revert hc;cases Nat.beq (Nat.mod c 100000) a<;>simp[nif]
   simp only[lk2]at h;cases e1:Nat.beq a g<;>rw[e1]at h<;>simp only[nif]at h
   . exact Zc4 h0.2 h
   . cases e2:Nat.beq b f<;>rw[e2]at h<;>simp only at h
     . exact Zc4 h0.2 h
     . cases h;exact(Nat.eq_of_beq_eq_true h0.1).trans (Nat.eq_of_beq_eq_true e1)
theorem envOk {E:Env}(L:List (Nat×Func×Sg))(hf:E.fnL=L.map fun q=>(q.1,q.2.1))(hs:E.sgL=L.map fun q=>(q.1,q.2.2))(hL:AllP (fun q=>FnE E.P q.1 q.2) L)(hT:AllP (fun q=>TIok E.P q.2 q.1) E.tiL)(hC:cloB E.cloL=true):EnvOk E where
 ti:=fun T i h=>AllP.lk (p:=fun T i=>TIok E.P i T) hT T i h
 fns :=fun key s h=>by
   unfold Env.sg at h;rw[hs,Z9t (fun e:Func×Sg=>e.2) L key]at h;obtain⟨e,h1,h2⟩:=Option.map_eq_some_iff.1 h;have:=AllP.lk (p:=fun k e=>FnE E.P k e) hL key e h1;refine⟨e.1,this.at',?_⟩;have:=this.ok;cases e1:e.1.body.isNone<;>rw[e1]at this<;>simp only[nif]at this
   . cases e2:(e.1.name== "runtime.NumGoroutine")<;>rw[e2]at this<;>simp only at this
     . exact⟨rfl,rfl⟩
     . cases this
   . cases this
 clo:=fun g f key h=>Zc4 hC h
 fnOk:=fun key fn h=>by
   unfold Env.fn at h;rw[hf,Z9t (fun e:Func×Sg=>e.1) L key]at h;obtain⟨e,h1,h2⟩:=Option.map_eq_some_iff.1 h;have:=AllP.lk (p:=fun k e=>FnE E.P k e) hL key e h1;rw[<-h2];exact this.at'
 spare:=fun key s fn c h h' hb=>by
   unfold Env.sg at h;unfold Env.fn at h';rw[hs,Z9t (fun e:Func×Sg=>e.2) L key]at h;rw[hf,Z9t (fun e:Func×Sg=>e.1) L key]at h';obtain⟨e,h1,h2⟩:=Option.map_eq_some_iff.1 h;rw[h1]at h';have h3:e.1=fn:=by simpa using h'
   have:=(AllP.lk (p:=fun k e=>FnE E.P k e) hL key e h1).ok;subst h2;subst h3;rw[hb]at this;cases e2:(e.1.name== "runtime.NumGoroutine")<;>rw[e2]at this<;>simp only[Option.isNone_some,nif]at this
   . exact this
   . cases this
end Go.Pv
namespace Go.Pv
open Go Go.Great
variable {own own':Own}{w w':World}{E:Env}{H:Type}{enc:TypeId×Value->H}
def allSh(w:World):Own:=fun g=>if g<w.heap.size then .sh else .out
theorem Zg7(w:World):∀g,w.heap.size<=g->allSh w g=.out:=fun g hg=>if_neg (Nat.not_lt.2 hg)
theorem Zdk {w:World}{g:Nat}(h:g<w.heap.size):allSh w g=.sh:=if_pos h
def tie(E:Env):Ty->(Nat->Bool)×(Nat->List (Nat×Nat)->Bool)
 |.int k=>(fun T=>match E.ti T with|some i=>(match i.d with|.int k'=>Nat.beq (ikN k) (ikN k')&&Nat.beq i.size 1| _=>false)|none=>false,fun _ _=>false)
 |.bool=>(fun T=>match E.ti T with|some i=>(match i.d with|.bool=>Nat.beq i.size 1| _=>false)|none=>false,fun _ _=>false)
 |.str=>(fun T=>match E.ti T with|some i=>(match i.d with|.str=>Nat.beq i.size 1| _=>false)|none=>false,fun _ _=>false)
 |.slc e=>(fun T=>match E.ti T with|some i=>(match i.d with|.slice T'=>Nat.beq i.size 1&&(e.plain&&(!(Nat.beq e.size 0)&&(tie E e).1 T'))| _=>false)|none=>false,fun _ _=>false)
 | .pair a b=>
   let f:=fun o l=>match l with
     |(p,T)::l=>Nat.beq o p&&((tie E a).1 T&&(tie E b).2 (Nat.add o a.size) l)
     |[]=>false
   (fun T=>match E.ti T with|some i=>(match i.d with|.struct fs=>Nat.beq i.size (Nat.add a.size b.size)&&f 0 fs| _=>false)|none=>false,f)
 |.unit=>(fun _=>false,fun _ l=>match l with|[]=>true| _=>false)
 | _=>(fun _=>false,fun _ _=>false)
theorem Z73(hE:EnvOk E){T:Nat}{i:TI}(h:E.ti T=some i):E.P.cellsOf T=i.size:=by
 obtain⟨inf,z,cs,h1,h2,_⟩:=(hE.ti T i h).info;simp[Program.cellsOf,h1,h2]
theorem Z9u(hE:EnvOk E):∀{t:Ty}{T:Nat},(tie E t).1 T=true->E.P.cellsOf T=t.size
 | .int k,T,h=>by
   simp only[tie]at h;split at h
   . rename_i i hi;split at h
     . simp only[Bool.and_eq_true]at h;rw[Z73 hE hi,Nat.eq_of_beq_eq_true h.2];rfl
     . cases h
   . cases h
 | .bool,T,h=>by
   simp only[tie]at h;split at h
   . rename_i i hi;split at h
     . rw[Z73 hE hi,Nat.eq_of_beq_eq_true h];rfl
     . cases h
   . cases h
 | .str,T,h=>by
   simp only[tie]at h;split at h
   . rename_i i hi;split at h
     . rw[Z73 hE hi,Nat.eq_of_beq_eq_true h];rfl
     . cases h
   . cases h
 | .slc e,T,h=>by
   simp only[tie]at h;split at h
   . rename_i i hi;split at h
     . simp only[Bool.and_eq_true]at h;rw[Z73 hE hi,Nat.eq_of_beq_eq_true h.1];rfl
     . cases h
   . cases h
 | .pair a b,T,h=>by
   simp only[tie]at h;split at h
   . rename_i i hi;split at h
     . simp only[Bool.and_eq_true]at h;rw[Z73 hE hi,Nat.eq_of_beq_eq_true h.1];rfl
     . cases h
   . cases h
 |.unit,T,h=>by cases h
 |.sptr _,T,h=>by cases h
 |.own _ _,T,h=>by cases h
 |.bx _,T,h=>by cases h
 |.hole _,T,h=>by cases h
 |.arr _ _,T,h=>by cases h
 |.mp _ _ _,T,h=>by cases h
 |.nilp,T,h=>by cases h
 |.fo,T,h=>by cases h
 |.hdr,T,h=>by cases h
 |.clo _ _,T,h=>by cases h
theorem Z8b {α:Type}{Q:Nat->α->Prop}:∀{n:Nat},(∀i,i<n->∃x,Q i x)->∃xs:List α,xs.length=n/\∀i x,xs[i]?=some x->Q i x
 |0,_=>⟨[],rfl,fun i x h=>by simp at h⟩
 | n + 1,h=>by
   obtain⟨xs,h1,h2⟩:=Z8b (n:=n) fun i hi=>h i (Nat.lt_succ_of_lt hi)
   obtain⟨y,hy⟩:=h n (Nat.lt_succ_self n);refine⟨xs++[y],by simp[h1],fun i x hx=>?_⟩;rw[List.getElem?_append]at hx;split at hx
   . exact h2 i x hx
   . have:i=n:=by
       have:=(List.getElem?_eq_some_iff.1 hx).1;simp at this;omega
     subst this;rw[h1,Nat.sub_self]at hx;simp only[List.getElem?_cons_zero,Option.some.injEq]at hx;exact hx▸hy
section
variable {W:World}{sp:Nat->Bool}{held:Bool}
theorem Z3v(hE:EnvOk E){T:Nat}{i:TI}(h:E.ti T=some i):∃d,E.P.underlying T=some d/\TDok i.d d:=by
 obtain⟨d,h1,h2,_⟩:=(hE.ti T i h).und;exact⟨d,h1,h2⟩
theorem Z74 (hE :EnvOk E):∀(t:Ty),(∀{T fuel:Nat}{cs:List Value}{x:DataW H×List MemPlace},(tie E t).1 T=true->DataW.trod enc E.P W 0 sp held fuel T cs=some x->∃y:t.den,∀p,Rep (allSh W) W t y p cs)/\
   (∀{o fuel:Nat}{l:List (Nat×Nat)}{cs:List Value},(tie E t).2 o l=true->(cs.drop o).length=t.size->(∀q∈l,∃x,DataW.trod enc E.P W 0 sp held fuel q.2 ((cs.drop q.1).take (E.P.cellsOf q.2))=some x)->∃y:t.den,∀p,Rep (allSh W) W t y p (cs.drop o))
 | .int k=>⟨fun {T fuel cs x} h hx=>by
     simp only[tie]at h;split at h
     . rename_i i hi;split at h
       . rename_i k' hd;simp only[Bool.and_eq_true]at h;obtain⟨d,h1,h2⟩:=Z3v hE hi;rw[hd]at h2;have h2:d=.int k':=h2;subst h2;cases Z6l h.1;obtain⟨n,rfl,_,hw⟩:=DataW.trod_int h1 hx;exact⟨n,fun p=>⟨rfl,hw⟩⟩
       . cases h
     . contradiction,fun h=>by cases h⟩
 |.bool=>⟨fun {T fuel cs x} h hx=>by
     simp only[tie]at h;split at h
     . rename_i i hi;split at h
       . rename_i hd;obtain⟨d,h1,h2⟩:=Z3v hE hi;rw[hd]at h2;have h2:d=.bool:=h2;subst h2;obtain⟨b,rfl,_⟩:=DataW.trod_bool h1 hx;exact⟨b,fun p=>rfl⟩
       . cases h
     . contradiction,fun h=>by cases h⟩
 | .str=>⟨fun {T fuel cs x} h hx=>by
     simp only[tie]at h;split at h
     . rename_i i hi;split at h
       . rename_i hd;obtain⟨d,h1,h2⟩:=Z3v hE hi;rw[hd]at h2;have h2:d=.string:=h2;subst h2;obtain⟨b,rfl,_,hs⟩:=DataW.trod_string h1 hx;exact⟨b,fun p=>⟨rfl,hs⟩⟩
       . cases h
     . contradiction,fun h=>by cases h⟩
 | .slc e => ⟨fun {T fuel cs x} h hx=>by
     simp only[tie]at h;split at h
     . rename_i i hi;split at h
       . rename_i T' hd;simp only[Bool.and_eq_true]at h;obtain⟨_,hpl,hnz,htie⟩:=h;obtain⟨d,h1,h2⟩:=Z3v hE hi;rw[hd]at h2;have h2:d=.slice T':=h2;subst h2;have hsz:=Z9u hE htie;have hpos:0<e.size:=by
           rcases Nat.eq_zero_or_pos e.size with h0|h0
           . rw[h0]at hnz;cases hnz
           . exact h0
         rcases DataW.trod_slice h1 hx with⟨rfl,_⟩|⟨a,len,cap,elems,rest,n,_,rfl,_,_,hl,hm,hlen,hel,_⟩
         . exact⟨[],fun p=>⟨hpl,none,0,rfl,Nat.le_refl _,Nat.zero_le _,fun i y hy=>by simp at hy⟩⟩
         . have key:∀i,i<len->∃y:e.den,(allSh W) a.block=.sh/\∃ys,CellsAt W (a.add (i*e.size)) ys/\∀p,Rep (allSh W) W e y p ys:=by
             intro i hil;have h3:=hel i hil;rw[List.getElem?_eq_getElem (by rw[hlen];exact hil)]at h3;obtain⟨ys,h4,h5⟩:=Option.bind_eq_some_iff.1 h3;rw[hsz]at h4;obtain⟨y,hy⟩:=(Z74 hE e).1 htie h5;obtain⟨_,h6,h7⟩:=World.cells?_some h4;have hblk:a.block<W.heap.size:=by
               have h8:=h7 0 hpos;rw[List.getElem?_eq_getElem (by omega)]at h8;have h9:W.heap[((a.add (i*e.size)).add 0).block]?≠none:=by
                 intro h0;simp[World.cell?,h0]at h8
               rw[Zw,Zw]at h9;rcases Nat.lt_or_ge a.block W.heap.size with hb|hb
               . exact hb
               . exact absurd (Array.getElem?_eq_none hb) h9
             refine⟨y,Zdk hblk,ys,fun j u hu=>?_,hy⟩;rw[h7 j (by rw[<-h6];exact(List.getElem?_eq_some_iff.1 hu).1)];exact hu
           obtain⟨xs,h8,h9⟩:=Z8b key;refine⟨xs,fun p=>⟨hpl,some a,cap,by rw[h8],by omega,hm,fun i y hy=>?_⟩⟩;obtain⟨h10,ys,h11,h12⟩:=h9 i y hy;exact⟨a,ys,rfl,h10,h11,h12 p⟩
       . cases h
     . contradiction,fun h=>by cases h⟩
 |.unit=>⟨fun h=>(by cases h),fun {o fuel l cs} h hl hx=>⟨(),fun p=>by
     simp only[Rep];exact List.length_eq_zero_iff.1 hl⟩⟩
 | .pair a b=>by
   have second:∀{o fuel:Nat}{l:List (Nat×Nat)}{cs:List Value},(tie E (.pair a b)).2 o l=true->(cs.drop o).length=(Ty.pair a b).size->(∀q∈l,∃x,DataW.trod enc E.P W 0 sp held fuel q.2 ((cs.drop q.1).take (E.P.cellsOf q.2))=some x)->∃y:(Ty.pair a b).den,∀p,Rep (allSh W) W (.pair a b) y p (cs.drop o):=by
     intro o fuel l cs h hl hx;simp only[tie]at h;split at h
     . rename_i p T l;simp only[Bool.and_eq_true]at h;cases Nat.eq_of_beq_eq_true h.1;have hsz:=Z9u hE h.2.1;obtain⟨x,hx1⟩:=hx (o,T) List.mem_cons_self;obtain⟨y,hy⟩:=(Z74 hE a).1 h.2.1 hx1;have hl:(cs.drop o).length=a.size+b.size:=hl;have h3:(cs.drop (o+a.size)).length=b.size:=by
         rw[List.length_drop]at hl⊢;omega
       obtain⟨z,hz⟩:=(Z74 hE b).2 (o:=o+a.size) (cs:=cs) h.2.2 h3 fun q hq=>hx q (List.mem_cons_of_mem _ hq)
       refine⟨(y,z),fun p=>⟨(cs.drop o).take a.size,cs.drop (o+a.size),?_,?_,hz _⟩⟩
       . rw[<-List.drop_drop,List.take_append_drop]
       . have:=hy (p.go 0);dsimp only at this;rw[hsz]at this;exact this
     . cases h
   refine⟨fun {T fuel cs x} h hx=>?_,second⟩;have h0:=h;simp only[tie]at h;split at h
   . rename_i i hi;split at h
     . rename_i fs hd;simp only[Bool.and_eq_true]at h;obtain⟨d,h1,h2⟩:=Z3v hE hi;rw[hd]at h2;obtain⟨fields,rfl,hfs⟩:=h2;obtain⟨xs,n,_,_,hl,hlx,hall⟩:=DataW.trod_struct h1 hx;have hsz:=Z9u hE h0;have:=second (o:=0) (fuel:=n) (l:=fs) (cs:=cs) (by simp only[tie];exact h.2) (by rw[List.drop_zero,hl,hsz]) fun q hq=>by
         rw[<-hfs]at hq;obtain⟨f,hf,rfl⟩:=List.mem_map.1 hq;obtain⟨i,hi⟩:=List.getElem?_of_mem hf;rw[Array.getElem?_toList]at hi;have:=hall i f hi;have hlt:i<xs.length:=by rw[hlx];exact(Array.getElem?_eq_some_iff.1 hi).1
         rw[List.getElem?_eq_getElem hlt]at this;exact⟨_,this⟩
       simpa using this
     . cases h
   . cases h
 |.sptr _=>⟨fun h=>(by cases h),fun h=>by cases h⟩
 |.own _ _=>⟨fun h=>(by cases h),fun h=>by cases h⟩
 |.bx _=>⟨fun h=>(by cases h),fun h=>by cases h⟩
 |.hole _=>⟨fun h=>(by cases h),fun h=>by cases h⟩
 |.arr _ _=>⟨fun h=>(by cases h),fun h=>by cases h⟩
 |.mp _ _ _=>⟨fun h=>(by cases h),fun h=>by cases h⟩
 |.nilp=>⟨fun h=>(by cases h),fun h=>by cases h⟩
 |.fo=>⟨fun h=>(by cases h),fun h=>by cases h⟩
 |.hdr=>⟨fun h=>(by cases h),fun h=>by cases h⟩
 |.clo _ _=>⟨fun h=>(by cases h),fun h=>by cases h⟩
theorem tie_plain:∀{t:Ty},(∀{T:Nat},(tie E t).1 T=true->t.plain=true)/\∀{o:Nat}{l:List (Nat×Nat)},(tie E t).2 o l=true->t.plain=true
 |.int k=>⟨fun _=>rfl,fun _=>rfl⟩
 |.bool=>⟨fun _=>rfl,fun _=>rfl⟩
 |.str=>⟨fun _=>rfl,fun _=>rfl⟩
 |.unit=>⟨fun _=>rfl,fun _=>rfl⟩
 | .slc e=>⟨fun {T} h=>by
     simp only[tie]at h;split at h
     . split at h
       . simp only[Bool.and_eq_true]at h;exact h.2.1
       . cases h
     . contradiction,fun h=>by cases h⟩
 | .pair a b=>by
   have second:∀{o:Nat}{l:List (Nat×Nat)},(tie E (.pair a b)).2 o l=true->(Ty.pair a b).plain=true:=by
     intro o l h;simp only[tie]at h;split at h
     . simp only[Bool.and_eq_true]at h;simp only[Ty.plain,(tie_plain (t:=a)).1 h.2.1,(tie_plain (t:=b)).2 h.2.2,Bool.and_self]
     . cases h
   refine⟨fun {T} h=>?_,second⟩;simp only[tie]at h;split at h
   . split at h
     . simp only[Bool.and_eq_true]at h;exact second (o:=0) (by simp only[tie];exact h.2)
     . cases h
   . cases h
 |.sptr _=>⟨fun h=>(by cases h),fun h=>by cases h⟩
 |.own _ _=>⟨fun h=>(by cases h),fun h=>by cases h⟩
 |.bx _=>⟨fun h=>(by cases h),fun h=>by cases h⟩
 |.hole _=>⟨fun h=>(by cases h),fun h=>by cases h⟩
 |.arr _ _=>⟨fun h=>(by cases h),fun h=>by cases h⟩
 |.mp _ _ _=>⟨fun h=>(by cases h),fun h=>by cases h⟩
 |.nilp=>⟨fun h=>(by cases h),fun h=>by cases h⟩
 |.fo=>⟨fun h=>(by cases h),fun h=>by cases h⟩
 |.hdr=>⟨fun h=>(by cases h),fun h=>by cases h⟩
 |.clo _ _=>⟨fun h=>(by cases h),fun h=>by cases h⟩
theorem arg_rep(hE:EnvOk E){t:Ty}{T:Nat}{v:Value}{d:DataW H}{ps:List MemPlace}{r:Reach}{base:Nat}(h:(tie E t).1 T=true)(hv:Value.okWide E.P W r base T v)(hd:DataW.Trod enc E.P W 0 sp held T v d ps):∃x:t.den,ArgR (allSh W) W .val t x 0 v:=by
 obtain⟨fuel,hf⟩:=hd;obtain⟨x,hx⟩:=(Z74 hE t).1 h hf;have hx:=hx ⟨[],[],true⟩;refine⟨x,tie_plain.1 h,v.cells.toList,?_,hx⟩;cases t with
 | int k=>
   simp only[tie]at h;split at h
   . rename_i i hi;split at h
     . rename_i k' hd;obtain⟨d,h1,h2⟩:=Z3v hE hi;rw[hd]at h2;have h2:d=.int k':=h2;subst h2;obtain⟨n,rfl⟩:=WideShapes.okWide_int h1 hv;rfl
     . cases h
   . cases h
 | bool=>
   simp only[tie]at h;split at h
   . rename_i i hi;split at h
     . rename_i hd;obtain⟨d,h1,h2⟩:=Z3v hE hi;rw[hd]at h2;have h2:d=.bool:=h2;subst h2;simp only[Value.okWide,h1,Cell.okWide]at hv;cases v<;>simp_all[Cell.ok];rfl
     . cases h
   . cases h
 | str=>
   simp only[tie]at h;split at h
   . rename_i i hi;split at h
     . rename_i hd;obtain⟨d,h1,h2⟩:=Z3v hE hi;rw[hd]at h2;have h2:d=.string:=h2;subst h2;obtain⟨s,rfl⟩:=WideShapes.okWide_string h1 hv;rfl
     . cases h
   . cases h
 | slc e=>
   simp only[tie]at h;split at h
   . rename_i i hi;split at h
     . rename_i T' hd;obtain⟨d,h1,h2⟩:=Z3v hE hi;rw[hd]at h2;have h2:d=.slice T':=h2;subst h2;obtain⟨a,len,cap,rfl⟩:=WideShapes.okWide_slice h1 hv;rfl
     . cases h
   . cases h
 | pair a b=>
   simp only[tie]at h;split at h
   . rename_i i hi;split at h
     . rename_i fs hd;obtain⟨d,h1,h2⟩:=Z3v hE hi;rw[hd]at h2;obtain⟨fields,rfl,_⟩:=h2;simp only[Value.okWide,h1]at hv;obtain⟨cs,rfl,_⟩:=hv;simp[IsVal,Ty.agg,Value.cells]
     . cases h
   . cases h
 | _=>cases h
end
def Fits:(t:Ty)->t.den->Prop
 |.int k,n=>k.min<=n/\n<=k.max
 |.str,s=>s.size<=maxLen
 |.pair a b,x=>Fits a x.1/\Fits b x.2
 |.slc e,xs=>xs.length<=maxLen/\∀y∈xs,Fits e y
 | _,_=>True
theorem Rep.fits:∀{t:Ty}{x:t.den}{p:Pos}{cs:List Value},Rep own w t x p cs->Fits t x
 | .int k,n,_,_,h=>by
   simp only[Rep]at h;have:=h.2;simp only[Lit.wf,Bool.and_eq_true,decide_eq_true_eq]at this;exact this
 |.bool,_,_,_,_=>trivial
 |.str,_,_,_,h=>by simp only[Rep]at h;exact h.2
 |.unit,_,_,_,_=>trivial
 | .pair a b,x,_,_,h=>by
   simp only[Rep]at h;obtain⟨c1,c2,_,h1,h2⟩:=h;exact⟨Rep.fits h1,Rep.fits h2⟩
 | .slc e,xs,p,_,h=>by
   simp only[Rep]at h;obtain⟨_,B,c,_,h1,h2,h3⟩:=h;refine⟨Nat.le_trans h1 h2,fun y hy=>?_⟩;obtain⟨i,hi⟩:=List.getElem?_of_mem hy;obtain⟨A,ys,_,_,_,h4⟩:=h3 i y hi;exact Rep.fits h4
 |.sptr _,_,_,_,_=>trivial
 |.own _ _,_,_,_,_=>trivial
 |.bx _,_,_,_,_=>trivial
 |.hole _,_,_,_,_=>trivial
 |.arr _ _,_,_,_,_=>trivial
 |.nilp,_,_,_,_=>trivial
 |.fo,_,_,_,_=>trivial
 |.hdr,_,_,_,_=>trivial
 |.clo _ _,_,_,_,_=>trivial
 |.mp _ _ _,_,_,_,_=>trivial
theorem law_callsB[Base]{ext:(g:Nat)->(s:Sg)->Option (s.A.den->Option s.R.den)}(hext:ExtOk E ext)(hm:E.P.follows .mixedOrders=true)(hE:EnvOk E){f:Nat}{ps:List (PM×Ty)}(hs:E.sg f=some ⟨ps,[.bool]⟩)(hf:f % 100000=f){l:(chain (Z23 ps)).den}{r:Sg.R ⟨ps,[.bool]⟩|>.den}{W:World}{vs:List Value}
   (hB:Base.B (allSh W) W) (h:∃k,sem E ext k f ⟨ps,[.bool]⟩ l=some r) (hr:r.1.1=true) (ha:ArgsR (allSh W) W ps l 0 vs):
   Calls E.P f vs.toArray W fun e W'=>e=.returned (.bool true)/\RowKit.Below W.heap.size W W':=by
 obtain⟨k,h⟩:=h;have h1:=Zh0 (E:=E) hE (fun call f hc=>Zi2 hm hE hc) hext k f _ hs;rw[hf]at h1;refine(h1 l r h (allSh W) W vs ha (Zg7 W) hB).mono fun e W'⟨us,own',he,hl,hres,_,hk,_⟩=>?_
 obtain⟨u,us',rfl,⟨cs,hv,hc⟩,hus⟩:=hres;have hus:us'=[]:=hus;subst hus;have hc:cs=[.bool r.1.1]:=hc;subst hc;have hv:[Value.bool r.1.1]=[u]:=hv;cases hv;refine⟨by rw[he,hr];rfl,hk.os,hk.tape,hk.output,hk.size,fun g hg=>(hk.sealed g (Zdk hg)).2⟩
theorem law_calls(hm:E.P.follows .mixedOrders=true)(hE:EnvOk E){f:Nat}{ps:List (PM×Ty)}(hs:E.sg f=some ⟨ps,[.bool]⟩)(hf:f % 100000=f){l:(chain (Z23 ps)).den}{r:Sg.R ⟨ps,[.bool]⟩|>.den}{W:World}{vs:List Value}
   (h:∃k,sem E (fun _ _=>none) k f ⟨ps,[.bool]⟩ l=some r) (hr:r.1.1=true) (ha:ArgsR (allSh W) W ps l 0 vs):
   Calls E.P f vs.toArray W fun e W'=>e=.returned (.bool true)/\RowKit.Below W.heap.size W W':=
 letI:=Zht
 law_callsB (ext:=fun _ _=>none) (fun _ _ _ h=>by cases h) hm hE hs hf trivial h hr ha
end Go.Pv
