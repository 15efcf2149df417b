/- How the pure reading lies in memory, and operations that only read. No condition. -/
import Derived.Test.YtjgfofcgmcnblaaGreatPvDef
import Derived.Laws.AppendOwn
import Derived.OneCell
import Derived.OpenShut
import Derived.DataElems
import Derived.ProofKit
import Derived.WalkKit
import Derived.Laws.Cells
set_option linter.unusedVariables false
set_option linter.unusedSectionVars false
namespace Go.Pv
open Go
inductive Lb where
 |out
 |sh
 |ob (id:Id) (sub:List Nat)
abbrev Own:=Nat->Lb
structure Pos where
 id:Id
 sub:List Nat
 top:Bool
def Pos.lb(p:Pos):Lb:=.ob p.id p.sub
def Pos.go(p:Pos)(i:Nat):Pos:=match p.top with|true=>⟨p.id++[i],p.sub,true⟩|false=>⟨p.id,p.sub++[i],false⟩
def Pos.el(p:Pos)(i:Nat):Pos:=⟨p.id,p.sub++[i],false⟩
def CellsAt(w:World)(a:Addr)(cs:List Value):Prop:=∀j u,cs[j]?=some u->w.cell? (a.add j)=some u
def IsVal(agg:Bool)(cs:List Value)(v:Value):Prop:=match agg with|true=>v=.agg cs.toArray|false=>cs=[v]
inductive FoR (own:Own) (w:World):List Tr->Value->Prop
 | mk (xs:List Tr) (B:Option Addr) (c:Nat) (vb vo:Nat->Value) (hc:xs.length<=c) (hm:c<=maxLen)
     (hw:∀(i:Nat)(y:Tr),xs[i]?=some y->(Lit.int .i64 y.n).wf=true)
     (ha:∀(i:Nat)(y:Tr),xs[i]?=some y->∃A,B=some A/\own A.block=.sh/\CellsAt w (A.add (i*3)) [.int .i64 y.n,vb i,vo i])
     (hb:∀(i:Nat)(y:Tr),xs[i]?=some y->FoR own w y.b (vb i))
     (ho:∀(i:Nat)(y:Tr),xs[i]?=some y->FoR own w y.o (vo i)):FoR own w xs (.slice B xs.length c)
def Rep(own:Own)(w:World):(t:Ty)->t.den->Pos->List Value->Prop
 |.int k,n,_,cs=>cs=[.int k n]/\(Lit.int k n).wf=true
 |.bool,b,_,cs=>cs=[.bool b]
 |.str,s,_,cs=>cs=[.string s]/\s.size<=maxLen
 |.unit,_,_,cs=>cs=[]
 |.pair a b,x,p,cs=>∃c1 c2,cs=c1++c2/\Rep own w a x.1 (p.go 0) c1/\Rep own w b x.2 (p.go 1) c2
 |.slc e,xs,p,cs=>e.plain=true/\∃B c,cs=[.slice B xs.length c]/\xs.length<=c/\c<=maxLen/\
     ∀(i:Nat)(y:e.den),xs[i]?=some y->∃A ys,B=some A/\own A.block=.sh/\CellsAt w (A.add (i*e.size)) ys/\Rep own w e y p ys
 |.sptr t,x,p,cs=>t.plain=true/\∃A ys,cs=[.pointer (some A)]/\own A.block=.sh/\CellsAt w A ys/\Rep own w t x p ys
 |.own tid e,xs,p,cs=>(cs=[.slice none 0 0]/\xs.length=0)\/∃g cap cur,cs=[.slice (some ⟨g,0,none⟩) xs.length cap]/\own g=p.lb/\
     w.heap[g]?=some (.cells cur tid (0,0))/\xs.length<=cap/\cap<=maxLen/\cur.size=cap*e.size/\
     ∀(i:Nat)(y:e.den),xs[i]?=some y->Rep own w e y (p.el i) ((cur.toList.drop (i*e.size)).take e.size)
 |.bx t,x,p,cs=>∃g cur T,cs=[.pointer (some ⟨g,0,none⟩)]/\own g=p.lb/\w.heap[g]?=some (.cells cur T (0,0))/\Rep own w t x (p.go 2) cur.toList
 |.hole n,_,_,cs=>cs.length=n/\∀u∈cs,u.oneCell'=true
 |.arr n e,xs,p,cs=>e.plain=true/\xs.length=n/\cs.length=n*e.size/\(∀u∈cs,u.oneCell'=true)/\
     ∀(i:Nat)(y:e.den),xs[i]?=some y->Rep own w e y p ((cs.drop (i*e.size)).take e.size)
 |.nilp,_,_,cs=>cs=[.pointer none]
 |.fo,xs,_,cs=>∃v,cs=[v]/\FoR own w xs v
 |.hdr,n,_,cs=>∃B c,cs=[.slice B n c]/\n<=c/\c<=maxLen
 |.clo f a,x,p,cs=>a.plain=true/\∃vs:List Value,cs=[.func (.func f) #[] vs.toArray]/\Rep own w a x p vs
 |.mp _ k v,es,p,cs=>k.flat=true/\v.mvOk=true/\((cs=[.map none]/\es=none)\/∃(g:Nat)(en:Array MapEntry)(clock:Nat)(l:List (k.den×v.den)),es=some l/\cs=[.map (some g)]/\own g=p.lb/\w.heap[g]?=some (.map en clock)/\en.size=l.length/\
     ∀(i:Nat)(m:MapEntry)(x:k.den×v.den),en[i]?=some m->l[i]?=some x->∃kc vc,IsVal k.agg kc m.key/\IsVal v.agg vc m.val/\Rep own w k x.1 p kc/\Rep own w v x.2 (p.el i) vc)
variable {own own':Own}{w w':World}
theorem Rep.length:∀{t:Ty}{x:t.den}{p:Pos}{cs:List Value},Rep own w t x p cs->cs.length=t.size
 |.int _,_,_,_,h=>by simp only[Rep]at h;rw[h.1];rfl
 |.bool,_,_,_,h=>by simp only[Rep]at h;rw[h];rfl
 |.str,_,_,_,h=>by simp only[Rep]at h;rw[h.1];rfl
 |.unit,_,_,_,h=>by simp only[Rep]at h;rw[h];rfl
 | .pair a b,_,_,_,h=>by
   simp only[Rep]at h;obtain⟨c1,c2,rfl,h1,h2⟩:=h;rw[List.length_append,h1.length,h2.length];rfl
 |.slc _,_,_,_,h=>by simp only[Rep]at h;obtain⟨_,_,_,rfl,_⟩:=h;rfl
 |.sptr _,_,_,_,h=>by simp only[Rep]at h;obtain⟨_,_,_,rfl,_⟩:=h;rfl
 | .own _ _,_,_,_,h=>by
   simp only[Rep]at h;rcases h with⟨rfl,_⟩|⟨_,_,_,rfl,_⟩<;>rfl
 |.bx _,_,_,_,h=>by simp only[Rep]at h;obtain⟨_,_,_,rfl,_⟩:=h;rfl
 |.hole _,_,_,_,h=>by simp only[Rep]at h;rw[h.1];rfl
 |.arr _ _,_,_,_,h=>by simp only[Rep]at h;exact h.2.2.1
 |.nilp,_,_,_,h=>by simp only[Rep]at h;rw[h];rfl
 |.fo,_,_,_,h=>by simp only[Rep]at h;obtain⟨_,rfl,_⟩:=h;rfl
 |.hdr,_,_,_,h=>by simp only[Rep]at h;obtain⟨_,_,rfl,_⟩:=h;rfl
 |.clo _ _,_,_,_,h=>by simp only[Rep]at h;obtain⟨_,_,rfl,_⟩:=h;rfl
 |.mp _ _ _,_,_,_,h=>by simp only[Rep]at h;obtain⟨_,_,⟨rfl,_⟩|⟨_,_,_,_,_,rfl,_⟩⟩:=h<;>rfl
theorem Rep.one:∀{t:Ty}{x:t.den}{p:Pos}{cs:List Value},Rep own w t x p cs->∀u∈cs,u.oneCell'=true
 |.int _,_,_,_,h=>by simp only[Rep]at h;rw[h.1];simp[Value.oneCell']
 |.bool,_,_,_,h=>by simp only[Rep]at h;rw[h];simp[Value.oneCell']
 |.str,_,_,_,h=>by simp only[Rep]at h;rw[h.1];simp[Value.oneCell']
 |.unit,_,_,_,h=>by simp only[Rep]at h;rw[h];simp
 | .pair a b,_,_,_,h=>by
   simp only[Rep]at h;obtain⟨c1,c2,rfl,h1,h2⟩:=h;intro u hu;rcases List.mem_append.1 hu with hu|hu
   . exact h1.one u hu
   . exact h2.one u hu
 |.slc _,_,_,_,h=>by simp only[Rep]at h;obtain⟨_,_,_,rfl,_⟩:=h;simp[Value.oneCell']
 |.sptr _,_,_,_,h=>by simp only[Rep]at h;obtain⟨_,_,_,rfl,_⟩:=h;simp[Value.oneCell']
 | .own _ _,_,_,_,h=>by
   simp only[Rep]at h;rcases h with⟨rfl,_⟩|⟨_,_,_,rfl,_⟩<;>simp[Value.oneCell']
 |.bx _,_,_,_,h=>by simp only[Rep]at h;obtain⟨_,_,_,rfl,_⟩:=h;simp[Value.oneCell']
 |.hole _,_,_,_,h=>by simp only[Rep]at h;exact h.2
 |.arr _ _,_,_,_,h=>by simp only[Rep]at h;exact h.2.2.2.1
 |.nilp,_,_,_,h=>by simp only[Rep]at h;rw[h];simp[Value.oneCell']
 |.fo,_,_,_,h=>by simp only[Rep]at h;obtain⟨_,rfl,⟨⟩⟩:=h;simp[Value.oneCell']
 |.hdr,_,_,_,h=>by simp only[Rep]at h;obtain⟨_,_,rfl,_⟩:=h;simp[Value.oneCell']
 |.clo _ _,_,_,_,h=>by simp only[Rep]at h;obtain⟨_,_,rfl,_⟩:=h;simp[Value.oneCell']
 |.mp _ _ _,_,_,_,h=>by simp only[Rep]at h;obtain⟨_,_,⟨rfl,_⟩|⟨_,_,_,_,_,rfl,_⟩⟩:=h<;>simp[Value.oneCell']
theorem Z12:∀{t:Ty},t.flat=true->t.plain=true
 |.int _,_=>rfl
 |.bool,_=>rfl
 |.str,_=>rfl
 |.unit,_=>rfl
 | .pair a b,h=>by
   simp only[Ty.flat]at h;cases ha:a.flat
   . rw[ha]at h;cases h
   . rw[ha]at h;simp only[Ty.plain,Z12 ha,Z12 (t:=b) h,Bool.and_self]
 |.slc _,h=>by cases h
 |.sptr _,h=>by cases h
 |.own _ _,h=>by cases h
 |.bx _,h=>by cases h
 |.hole _,h=>by cases h
 |.arr _ _,h=>by cases h
 |.mp _ _ _,h=>by cases h
 |.nilp,h=>by cases h
 |.fo,h=>by cases h
 |.hdr,h=>by cases h
 |.clo _ _,h=>by cases h
def Mv(own:Own)(w:World)(own':Own)(w':World):Ty->Pos->Pos->Prop
 |.pair a b,p,q=>Mv own w own' w' a (p.go 0) (q.go 0)/\Mv own w own' w' b (p.go 1) (q.go 1)
 |.own _ e,p,q=>(∀g,own g=p.lb->own' g=q.lb/\w'.heap[g]?=w.heap[g]?)/\∀i,Mv own w own' w' e (p.el i) (q.el i)
 |.bx t,p,q=>(∀g,own g=p.lb->own' g=q.lb/\w'.heap[g]?=w.heap[g]?)/\Mv own w own' w' t (p.go 2) (q.go 2)
 |.mp _ _ v,p,q=>(∀g,own g=p.lb->own' g=q.lb/\w'.heap[g]?=w.heap[g]?)/\∀i,Mv own w own' w' v (p.el i) (q.el i)
 | _,_,_=>True
def Sealed(own:Own)(w:World)(own':Own)(w':World):Prop:=∀g,own g=.sh->own' g=.sh/\w'.heap[g]?=w.heap[g]?
class Base where
 B:Own->World->Prop
 keep:∀{own own':Own}{w w':World},B own w->Sealed own w own' w'->B own' w'
@[reducible] def Zht:Base:=⟨fun _ _=>True,fun _ _=>trivial⟩
theorem CellsAt.keep {a:Addr}{cs:List Value}(h:w'.heap[a.block]?=w.heap[a.block]?)(hc:CellsAt w a cs):CellsAt w' a cs:=by
 intro j u hu;have hb:(a.add j).block=a.block:=by unfold Addr.add;split<;>rfl
 rw[World.cell?_of_block (w:=w) (by rw[hb];exact h)];exact hc j u hu
theorem Zw(a:Addr)(n:Nat):(a.add n).block=a.block:=by unfold Addr.add;split<;>rfl
theorem FoR.keep(hs:Sealed own w own' w'){xs:List Tr}{v:Value}(h:FoR own w xs v):FoR own' w' xs v:=by
 induction h with
 | mk xs B c vb vo hc hm hw ha hb ho ihb iho=>
   refine .mk xs B c vb vo hc hm hw (fun i y hy=>?_) ihb iho;obtain⟨A,rfl,h1,h2⟩:=ha i y hy;exact⟨A,rfl,(hs _ h1).1,h2.keep (by rw[Zw];exact(hs _ h1).2)⟩
theorem Rep.plain(hs:Sealed own w own' w'):∀{t:Ty}{x:t.den}{p:Pos}(q:Pos){cs:List Value},t.plain=true->Rep own w t x p cs->Rep own' w' t x q cs
 |.int _,_,_,_,_,_,h=>h
 |.bool,_,_,_,_,_,h=>h
 |.str,_,_,_,_,_,h=>h
 |.unit,_,_,_,_,_,h=>h
 | .pair a b,_,p,q,_,hp,h=>by
   simp only[Rep]at h⊢;simp only[Ty.plain,Bool.and_eq_true]at hp;obtain⟨c1,c2,rfl,h1,h2⟩:=h;exact⟨c1,c2,rfl,Rep.plain hs (q.go 0) hp.1 h1,Rep.plain hs (q.go 1) hp.2 h2⟩
 | .slc e,_,p,q,_,hp,h=>by
   simp only[Rep]at h⊢;obtain⟨h0,B,c,rfl,hc,hm,he⟩:=h;refine⟨h0,B,c,rfl,hc,hm,fun i y hy=>?_⟩;obtain⟨A,ys,rfl,ha,hy1,hy2⟩:=he i y hy;exact⟨A,ys,rfl,(hs _ ha).1,hy1.keep (by rw[Zw];exact(hs _ ha).2),Rep.plain hs q h0 hy2⟩
 | .sptr t,_,p,q,_,hp,h=>by
   simp only[Rep]at h⊢;obtain⟨h0,A,ys,rfl,ha,hy1,hy2⟩:=h;exact⟨h0,A,ys,rfl,(hs _ ha).1,hy1.keep (hs _ ha).2,Rep.plain hs q h0 hy2⟩
 |.own _ _,_,_,_,_,hp,_=>by cases hp
 |.bx _,_,_,_,_,hp,_=>by cases hp
 |.hole _,_,_,_,_,hp,_=>by cases hp
 |.mp _ _ _,_,_,_,_,hp,_=>by cases hp
 |.nilp,_,_,_,_,_,h=>h
 | .fo,_,_,_,_,_,h=>by
   simp only[Rep]at h⊢;obtain⟨v,rfl,h⟩:=h;exact⟨v,rfl,h.keep hs⟩
 |.hdr,_,_,_,_,_,h=>h
 | .arr _ e,_,p,q,_,hp,h=>by
   simp only[Rep]at h⊢;obtain⟨h0,h1,h2,h3,h4⟩:=h;exact⟨h0,h1,h2,h3,fun i y hy=>Rep.plain hs q h0 (h4 i y hy)⟩
 | .clo _ a,_,p,q,_,hp,h=>by
   simp only[Rep]at h⊢;obtain⟨h0,vs,rfl,h1⟩:=h;exact⟨h0,vs,rfl,Rep.plain hs q h0 h1⟩
theorem Rep.move(hs:Sealed own w own' w'):∀{t:Ty}{x:t.den}{p q:Pos}{cs:List Value},Mv own w own' w' t p q->Rep own w t x p cs->Rep own' w' t x q cs
 |.int _,_,_,_,_,_,h=>h
 |.bool,_,_,_,_,_,h=>h
 |.str,_,_,_,_,_,h=>h
 |.unit,_,_,_,_,_,h=>h
 |.hole _,_,_,_,_,_,h=>h
 |.nilp,_,_,_,_,_,h=>h
 | .fo,_,_,_,_,_,h=>by
   simp only[Rep]at h⊢;obtain⟨v,rfl,h⟩:=h;exact⟨v,rfl,h.keep hs⟩
 |.hdr,_,_,_,_,_,h=>h
 | .arr n e,_,p,q,_,hm,h=>by
   have h':=h;simp only[Rep]at h';exact Rep.plain hs q (t:=.arr n e) (by simp[Ty.plain,h'.1]) h
 | .clo f a,_,p,q,_,hm,h=>by
   have h':=h;simp only[Rep]at h';exact Rep.plain hs q (t:=.clo f a) (by simp[Ty.plain,h'.1]) h
 | .mp _ k v,_,p,q,_,hm,h=>by
   simp only[Rep]at h⊢;obtain⟨hk,hv,h|⟨g,en,clock,l,rfl,rfl,ho,hg,hl,he⟩⟩:=h
   . exact⟨hk,hv,.inl h⟩
   . refine⟨hk,hv,.inr ⟨g,en,clock,l,rfl,rfl,(hm.1 g ho).1,(hm.1 g ho).2.trans hg,hl,fun i m x h1 h2=>?_⟩⟩;obtain⟨kc,vc,i1,i2,r1,r2⟩:=he i m x h1 h2;exact⟨kc,vc,i1,i2,Rep.plain hs q (Z12 hk) r1,Rep.move hs (hm.2 i) r2⟩
 | .pair a b,_,p,q,_,hm,h=>by
   simp only[Rep]at h⊢;obtain⟨c1,c2,rfl,h1,h2⟩:=h;exact⟨c1,c2,rfl,Rep.move hs hm.1 h1,Rep.move hs hm.2 h2⟩
 | .slc e,_,p,q,_,hm,h=>by
   have h':=h;simp only[Rep]at h';exact Rep.plain hs q (t:=.slc e) (by simp[Ty.plain,h'.1]) h
 | .sptr t,_,p,q,_,hm,h=>by
   have h':=h;simp only[Rep]at h';exact Rep.plain hs q (t:=.sptr t) (by simp[Ty.plain,h'.1]) h
 | .own tid e,_,p,q,_,hm,h=>by
   simp only[Rep]at h⊢;rcases h with h|⟨g,cap,cur,rfl,ho,hg,hc,hl,hsz,he⟩
   . exact .inl h
   . exact .inr ⟨g,cap,cur,rfl,(hm.1 g ho).1,(hm.1 g ho).2.trans hg,hc,hl,hsz,fun i y hy=>Rep.move hs (hm.2 i) (he i y hy)⟩
 | .bx t,_,p,q,_,hm,h=>by
   simp only[Rep]at h⊢;obtain⟨g,cur,T,rfl,ho,hg,h1⟩:=h;exact⟨g,cur,T,rfl,(hm.1 g ho).1,(hm.1 g ho).2.trans hg,Rep.move hs hm.2 h1⟩
def Sl(own:Own)(w:World)(own':Own)(w':World):Ty->Pos->Prop
 |.pair a b,p=>Sl own w own' w' a (p.go 0)/\Sl own w own' w' b (p.go 1)
 |.own _ e,p=>(∀g,own g=p.lb->own' g=.sh/\w'.heap[g]?=w.heap[g]?)/\∀i,Sl own w own' w' e (p.el i)
 |.bx t,p=>(∀g,own g=p.lb->own' g=.sh/\w'.heap[g]?=w.heap[g]?)/\Sl own w own' w' t (p.go 2)
 | _,_=>True
theorem Za6 {α β:Type}(h:β=α)(xs:List α)(i:Nat):(cast (congrArg List h).symm xs)[i]?=(xs[i]?).map (cast h.symm):=by
 subst h;show xs[i]?=_
 cases xs[i]?<;>rfl
theorem Zcd {α β:Type}(h:β=α)(xs:List α):(cast (congrArg List h).symm xs).length=xs.length:=by
 subst h;rfl
theorem Zgb {α β γ δ:Type}(h:γ=α)(h':δ=β)(h2:(γ×δ)=(α×β))(x:α×β):cast h2.symm x=(cast h.symm x.1,cast h'.symm x.2):=by
 subst h;subst h';rfl
theorem Zf2(a b:Ty)(x:(Ty.pair a b).den):toSh (.pair a b) x=(toSh a x.1,toSh b x.2):=
 Zgb (Ty.den_sh a) (Ty.den_sh b) (Ty.den_sh (.pair a b)) x
theorem Zgc(tid:Nat)(e:Ty)(xs:List e.den)(i:Nat):(show List e.sh.den from toSh (.own tid e) xs)[i]?=(xs[i]?).map (toSh e):=
 Za6 (Ty.den_sh e) xs i
theorem Zbc(tid:Nat)(e:Ty)(xs:List e.den):(show List e.sh.den from toSh (.own tid e) xs).length=xs.length:=
 Zcd (Ty.den_sh e) xs
theorem Z3z {t:Ty}(x:t.den):HEq (toSh t x) x:=cast_heq _ _
theorem Z5e:∀t:Ty,t.sh.size=t.size
 |.int _=>rfl
 |.bool=>rfl
 |.str=>rfl
 |.unit=>rfl
 |.pair a b=>by simp only[Ty.sh,Ty.size];rw[Z5e a,Z5e b]
 |.slc e=>rfl
 |.sptr t=>rfl
 |.own _ e=>rfl
 |.bx t=>rfl
 |.hole _=>rfl
 |.arr _ e=>by simp only[Ty.sh,Ty.size];rw[Z5e e]
 |.nilp=>rfl
 |.fo=>rfl
 |.hdr=>rfl
 |.clo _ _=>rfl
 |.mp _ _ _=>rfl
theorem Zu:∀{t:Ty},t.plain=true->t.sh=t
 |.int _,_=>rfl
 |.bool,_=>rfl
 |.str,_=>rfl
 |.unit,_=>rfl
 | .pair a b,h=>by
   simp only[Ty.plain,Bool.and_eq_true]at h;simp only[Ty.sh];rw[Zu h.1,Zu h.2]
 |.slc e,h=>by simp only[Ty.plain]at h;simp only[Ty.sh];rw[Zu h]
 |.sptr t,h=>by simp only[Ty.plain]at h;simp only[Ty.sh];rw[Zu h]
 |.own _ e,h=>by cases h
 |.bx t,h=>by cases h
 |.hole _,h=>by cases h
 |.arr _ e,h=>by simp only[Ty.plain]at h;simp only[Ty.sh];rw[Zu h]
 |.nilp,_=>rfl
 |.fo,_=>rfl
 |.hdr,_=>rfl
 |.clo _ a,h=>by simp only[Ty.plain]at h;simp only[Ty.sh];rw[Zu h]
 |.mp _ _ _,h=>by cases h
theorem cell_row {w:World}{g o:Nat}{cur:Array Value}{T:TypeId}{f:Nat×Nat}(h:w.heap[g]?=some (.cells cur T f))(j:Nat):
   w.cell? ((⟨g,o,none⟩:Addr).add j)=cur[o+j]?:=by
 have:(⟨g,o,none⟩:Addr).add j=⟨g,o+j,none⟩:=by unfold Addr.add;split<;>simp_all
 rw[this];simp[World.cell?,h]
theorem CellsAt.row {w:World}{g o:Nat}{cur:Array Value}{T:TypeId}{f:Nat×Nat}(h:w.heap[g]?=some (.cells cur T f))(n:Nat):
   CellsAt w ⟨g,o,none⟩ ((cur.toList.drop o).take n):=by
 intro j u hu;rw[cell_row h];rw[List.getElem?_take]at hu;split at hu
 . simpa[List.getElem?_drop]using hu
 . cases hu
theorem Zx(g o n:Nat):(⟨g,o,none⟩:Addr).add n=⟨g,o+n,none⟩:=by unfold Addr.add;split<;>simp_all
theorem Rep.sealUp(hs:Sealed own w own' w'):∀{t:Ty}{x:t.den}{p:Pos}(q:Pos){cs:List Value},t.sh.plain=true->Sl own w own' w' t p->Rep own w t x p cs->
   Rep own' w' t.sh (toSh t x) q cs
 |.int _,_,_,_,_,_,_,h=>h
 |.bool,_,_,_,_,_,_,h=>h
 |.str,_,_,_,_,_,_,h=>h
 |.unit,_,_,_,_,_,_,h=>h
 |.hole _,_,_,_,_,hp,_,_=>by cases hp
 | .pair a b,x,p,q,_,hp,hm,h=>by
   rw[Zf2];simp only[Rep,Ty.sh]at h⊢;simp only[Ty.sh,Ty.plain,Bool.and_eq_true]at hp;obtain⟨c1,c2,rfl,h1,h2⟩:=h;exact⟨c1,c2,rfl,Rep.sealUp hs _ hp.1 hm.1 h1,Rep.sealUp hs _ hp.2 hm.2 h2⟩
 | .slc e,x,p,q,_,_,_,h=>by
   have h':=h;simp only[Rep]at h';have hp:(Ty.slc e).plain=true:=by simp[Ty.plain,h'.1]
   have:=Rep.plain hs q hp h;have he:=Zu hp;have hx:HEq (toSh (.slc e) x) x:=Z3z x;revert hx;generalize toSh (.slc e) x=y;revert y;rw[he];intro y hx;rw[eq_of_heq hx];exact this
 | .arr n e,x,p,q,_,_,_,h=>by
   have h':=h;simp only[Rep]at h';have hp:(Ty.arr n e).plain=true:=by simp[Ty.plain,h'.1]
   have:=Rep.plain hs q hp h;have he:=Zu hp;have hx:HEq (toSh (.arr n e) x) x:=Z3z x;revert hx;generalize toSh (.arr n e) x=y;revert y;rw[he];intro y hx;rw[eq_of_heq hx];exact this
 | .clo n e,x,p,q,_,_,_,h=>by
   have h':=h;simp only[Rep]at h';have hp:(Ty.clo n e).plain=true:=by simp[Ty.plain,h'.1]
   have:=Rep.plain hs q hp h;have he:=Zu hp;have hx:HEq (toSh (.clo n e) x) x:=Z3z x;revert hx;generalize toSh (.clo n e) x=y;revert y;rw[he];intro y hx;rw[eq_of_heq hx];exact this
 |.nilp,_,_,_,_,_,_,h=>h
 |.fo,x,p,q,_,_,_,h=>Rep.plain hs q (t:=.fo) rfl h
 |.hdr,_,_,_,_,_,_,h=>h
 |.mp _ _ _,_,_,_,_,hp,_,_=>by cases hp
 | .sptr t,x,p,q,_,_,_,h=>by
   have h':=h;simp only[Rep]at h';have hp:(Ty.sptr t).plain=true:=by simp[Ty.plain,h'.1]
   have:=Rep.plain hs q hp h;have he:=Zu hp;have hx:HEq (toSh (.sptr t) x) x:=Z3z x;revert hx;generalize toSh (.sptr t) x=y;revert y;rw[he];intro y hx;rw[eq_of_heq hx];exact this
 | .own tid e,x,p,q,_,hp,hm,h=>by
   simp only[Rep,Ty.sh]at h⊢;have hp':e.sh.plain=true:=hp;have hl:=Zbc tid e x;have hi:=Zgc tid e x;refine⟨hp',?_⟩;rcases h with⟨rfl,h0⟩|⟨g,cap,cur,rfl,ho,hg,hc,hl',hsz,he⟩
   . refine⟨none,0,by rw[hl,h0],by rw[hl,h0];exact Nat.le_refl _,by simp[maxLen],fun i y hy=>?_⟩;rw[hi]at hy;rw[List.getElem?_eq_none (by omega)]at hy;cases hy
   . refine⟨some ⟨g,0,none⟩,cap,by rw[hl],by rw[hl];exact hc,hl',fun i y hy=>?_⟩;rw[hi]at hy;obtain⟨z,hz,rfl⟩:=Option.map_eq_some_iff.1 hy;refine⟨⟨g,0,none⟩,_,rfl,(hm.1 g ho).1,?_,Rep.sealUp hs q hp' (hm.2 i) (he i z hz)⟩;rw[Z5e,Zx,Nat.zero_add];exact CellsAt.row ((hm.1 g ho).2.trans hg) _
 | .bx t,x,p,q,_,hp,hm,h=>by
   simp only[Rep,Ty.sh]at h⊢;have hp':t.sh.plain=true:=hp;obtain⟨g,cur,T,rfl,ho,hg,h1⟩:=h;refine⟨hp',⟨g,0,none⟩,cur.toList,rfl,(hm.1 g ho).1,?_,Rep.sealUp hs q hp' hm.2 h1⟩;have:=CellsAt.row (o:=0) ((hm.1 g ho).2.trans hg) cur.toList.length;rwa[List.drop_zero,List.take_length]at this
end Go.Pv
namespace Go.Pv
open Go
structure Gh where
 v:Value
 size:Nat
 nest:Bool
abbrev Gs:=Id->Gh
def blk:Value->Option Nat
 |.slice (some A) _ _=>some A.block
 |.map (some g)=>some g
 | _=>none
def SKc(w:World)(x:Gh)(i:Nat):SK->List Value->Prop
 |.hd _ off,cs=>∃A m c u,x.v=.slice (some A) m c/\i<m/\w.cell? ((A.add (i*x.size)).add off)=some u/\cs=[u]/\u.oneCell'=true
 |.el _ off j sz,cs=>∃A m c A2 m2 c2,x.v=.slice (some A) m c/\i<m/\w.cell? ((A.add (i*x.size)).add off)=some (.slice (some A2) m2 c2)/\j<m2/\cs=[.pointer (some (A2.add (j*sz)))]
 |.bx _ off,cs=>∃g en c m g2,x.v=.map (some g)/\w.heap[g]?=some (.map en c)/\en[i]?=some m/\m.val=.pointer (some ⟨g2,0,none⟩)/\cs=[.pointer (some ⟨g2,off,none⟩)]
def AVc(own:Own)(w:World)(G:Gs):AV->List Value->Prop
 |.dead,_=>False
 |.tn,_=>False
 |.tp _ _,_=>False
 |.v t x,cs=>t.plain=true/\Rep own w t x ⟨[],[],true⟩ cs
 |.pr a b,cs=>∃c1 c2,cs=c1++c2/\AVc own w G a c1/\AVc own w G b c2
 |.hole n,cs=>cs.length=n/\∀u∈cs,u.oneCell'=true
 |.ref o,cs=>cs=[(G o).v]/\(G o).v.oneCell'=true
 |.hs o lo n,cs=>∃B m c B' c',(G o).v=.slice B m c/\cs=[.slice B' n c']/\lo+n<=m/\n<=c'/\c'<=maxLen/\(lo=0->B'=B/\c'=c)/\
     (0<n->∃A,B=some A/\B'=some (A.add (lo*(G o).size)))
 |.p o _ off,cs=>∃g,(G o).v=.pointer (some ⟨g,0,none⟩)/\cs=[.pointer (some ⟨g,off,none⟩)]
 |.e o i _ off,cs=>∃A m c,(G o).v=.slice (some A) m c/\i<m/\cs=[.pointer (some ((A.add (i*(G o).size)).add off))]
 |.s o i k,cs=>(G o).nest=true/\SKc w (G o) i k cs
 |.ap o n,cs=>∃A c,(G o).v=.slice (some A) n c/\cs=[.pointer (some A)]
 |.cl f a,cs=>∃vs:List Value,cs=[.func (.func f) #[] vs.toArray]/\AVc own w G a vs
def AVv(own:Own)(w:World)(G:Gs):AV->Value->Prop
 |.dead,_=>True
 |.tn,v=>v=.tuple #[]
 |.tp a b,v=>∃u vs,v=.tuple (u::vs).toArray/\AVv own w G a u/\AVv own w G b (.tuple vs.toArray)
 |a,v=>∃cs,AVc own w G a cs/\IsVal a.agg cs v
def AV.men(P:Id->Prop):AV->Prop
 |.pr a b=>a.men P/\b.men P
 |.tp a b=>a.men P/\b.men P
 |.ref o=>P o
 |.hs o _ _=>P o
 |.p o _ _=>P o
 |.e o _ _ _=>P o
 |.s o _ _=>P o
 |.ap o _=>P o
 |.cl _ a=>a.men P
 | _=>True
theorem AV.men.mono {P Q:Id->Prop}(h:∀o,P o->Q o):∀{a:AV},a.men P->a.men Q
 |.dead,_=>trivial
 |.v _ _,_=>trivial
 |.pr _ _,⟨h1,h2⟩=>⟨AV.men.mono h h1,AV.men.mono h h2⟩
 |.hole _,_=>trivial
 |.ref _,h1=>h _ h1
 |.hs _ _ _,h1=>h _ h1
 |.p _ _ _,h1=>h _ h1
 |.e _ _ _ _,h1=>h _ h1
 |.s _ _ _,h1=>h _ h1
 |.ap _ _,h1=>h _ h1
 |.cl _ a,h1=>AV.men.mono (a:=a) h h1
 |.tn,_=>trivial
 |.tp _ _,⟨h1,h2⟩=>⟨AV.men.mono h h1,AV.men.mono h h2⟩
def Z30(w w':World)(v:Value):Prop:=∀g,blk v=some g->w'.heap[g]?=w.heap[g]?
variable {own own':Own}{w w':World}{G G':Gs}
theorem Zce(w w':World){A:Addr}{i n:Nat}(h:w'.heap[A.block]?=w.heap[A.block]?):w'.cell? ((A.add i).add n)=w.cell? ((A.add i).add n):=
 World.cell?_of_block (by rw[Zw,Zw];exact h)
theorem SKc.keep {x:Gh}{i:Nat}{k:SK}{cs:List Value}(hs:Z30 w w' x.v)(h:SKc w x i k cs):SKc w' x i k cs:=by
 cases k with
 | hd fp off=>
   obtain⟨A,m,c,u,hv,hi,hu,h⟩:=h;exact⟨A,m,c,u,hv,hi,by rw[Zce w w' (hs A.block (by rw[hv];rfl))];exact hu,h⟩
 | el fp off j sz=>
   obtain⟨A,m,c,A2,m2,c2,hv,hi,hu,h⟩:=h;exact⟨A,m,c,A2,m2,c2,hv,hi,by rw[Zce w w' (hs A.block (by rw[hv];rfl))];exact hu,h⟩
 | bx fp off=>
   obtain⟨g,en,c,m,g2,hv,hg,h⟩:=h;exact⟨g,en,c,m,g2,hv,(hs g (by rw[hv];rfl)).trans hg,h⟩
theorem SKc.length {x:Gh}{i:Nat}{k:SK}{cs:List Value}(h:SKc w x i k cs):cs.length=1:=by
 cases k with
 |hd fp off=>obtain⟨_,_,_,_,_,_,_,rfl,_⟩:=h;rfl
 |el fp off j sz=>obtain⟨_,_,_,_,_,_,_,_,_,_,rfl⟩:=h;rfl
 |bx fp off=>obtain⟨_,_,_,_,_,_,_,_,_,rfl⟩:=h;rfl
theorem SKc.one {x:Gh}{i:Nat}{k:SK}{cs:List Value}(h:SKc w x i k cs):∀u∈cs,u.oneCell'=true:=by
 cases k with
 |hd fp off=>obtain⟨_,_,_,_,_,_,_,rfl,h⟩:=h;simpa using h
 |el fp off j sz=>obtain⟨_,_,_,_,_,_,_,_,_,_,rfl⟩:=h;simp[Value.oneCell']
 |bx fp off=>obtain⟨_,_,_,_,_,_,_,_,_,rfl⟩:=h;simp[Value.oneCell']
theorem AVc.keep(hs:Sealed own w own' w'){P:Id->Prop}(hG:∀o,P o->G' o=G o/\((G o).nest=true->Z30 w w' (G o).v)):
   ∀{a:AV}{cs:List Value},a.men P->AVc own w G a cs->AVc own' w' G' a cs
 |.dead,_,_,h=>h.elim
 |.tn,_,_,h=>h.elim
 |.tp _ _,_,_,h=>h.elim
 |.v t x,_,_,h=>⟨h.1,Rep.plain hs _ h.1 h.2⟩
 | .pr a b,_,hm,h=>by
   obtain⟨c1,c2,rfl,h1,h2⟩:=h;exact⟨c1,c2,rfl,AVc.keep hs hG hm.1 h1,AVc.keep hs hG hm.2 h2⟩
 |.hole _,_,_,h=>h
 | .ref o,_,hm,h=>by
   have e:=(hG o hm).1;simp only[AVc]at h⊢;rw[e];exact h
 | .hs o _ _,_,hm,h=>by
   have e:=(hG o hm).1;simp only[AVc]at h⊢;rw[e];exact h
 | .p o _ _,_,hm,h=>by
   have e:=(hG o hm).1;simp only[AVc]at h⊢;rw[e];exact h
 | .e o _ _ _,_,hm,h=>by
   have e:=(hG o hm).1;simp only[AVc]at h⊢;rw[e];exact h
 | .ap o _,_,hm,h=>by
   have e:=(hG o hm).1;simp only[AVc]at h⊢;rw[e];exact h
 | .cl f a,_,hm,h=>by
   obtain⟨vs,rfl,h⟩:=h;exact⟨vs,rfl,AVc.keep hs hG hm h⟩
 | .s o i k,_,hm,h=>by
   have e:=(hG o hm).1;simp only[AVc]at h⊢;rw[e];exact⟨h.1,h.2.keep ((hG o hm).2 h.1)⟩
theorem AVv.keep(hs:Sealed own w own' w'){P:Id->Prop}(hG:∀o,P o->G' o=G o/\((G o).nest=true->Z30 w w' (G o).v)):
   ∀{a:AV}{v:Value},a.men P->AVv own w G a v->AVv own' w' G' a v
 |.dead,_,_,_=>trivial
 |.tn,_,_,h=>h
 | .tp a b,_,hm,h=>by
   obtain⟨u,vs,rfl,h1,h2⟩:=h;exact⟨u,vs,rfl,AVv.keep hs hG hm.1 h1,AVv.keep hs hG hm.2 h2⟩
 |.v _ _,_,hm,⟨cs,h1,h2⟩=>⟨cs,AVc.keep hs hG hm h1,h2⟩
 |.pr _ _,_,hm,⟨cs,h1,h2⟩=>⟨cs,AVc.keep hs hG hm h1,h2⟩
 |.hole _,_,hm,⟨cs,h1,h2⟩=>⟨cs,AVc.keep hs hG hm h1,h2⟩
 |.ref _,_,hm,⟨cs,h1,h2⟩=>⟨cs,AVc.keep hs hG hm h1,h2⟩
 |.hs _ _ _,_,hm,⟨cs,h1,h2⟩=>⟨cs,AVc.keep hs hG hm h1,h2⟩
 |.p _ _ _,_,hm,⟨cs,h1,h2⟩=>⟨cs,AVc.keep hs hG hm h1,h2⟩
 |.e _ _ _ _,_,hm,⟨cs,h1,h2⟩=>⟨cs,AVc.keep hs hG hm h1,h2⟩
 |.s _ _ _,_,hm,⟨cs,h1,h2⟩=>⟨cs,AVc.keep hs hG hm h1,h2⟩
 |.ap _ _,_,hm,⟨cs,h1,h2⟩=>⟨cs,AVc.keep hs hG hm h1,h2⟩
 |.cl _ _,_,hm,⟨cs,h1,h2⟩=>⟨cs,AVc.keep hs hG hm h1,h2⟩
theorem AVc.length:∀{a:AV}{cs:List Value},AVc own w G a cs->cs.length=a.size
 |.dead,_,h=>h.elim
 |.tn,_,h=>h.elim
 |.tp _ _,_,h=>h.elim
 |.v t x,_,h=>h.2.length
 | .pr a b,_,h=>by
   obtain⟨c1,c2,rfl,h1,h2⟩:=h;rw[List.length_append,h1.length,h2.length];rfl
 |.hole _,_,h=>h.1
 |.ref o,_,h=>by simp only[AVc]at h;rw[h.1];rfl
 |.hs o _ _,_,h=>by simp only[AVc]at h;obtain⟨_,_,_,_,_,_,rfl,_⟩:=h;rfl
 |.p o _ _,_,h=>by simp only[AVc]at h;obtain⟨_,_,rfl⟩:=h;rfl
 |.e o _ _ _,_,h=>by simp only[AVc]at h;obtain⟨_,_,_,_,_,rfl⟩:=h;rfl
 |.s o i _,_,h=>h.2.length
 |.ap o _,_,h=>by simp only[AVc]at h;obtain⟨_,_,_,rfl⟩:=h;rfl
 |.cl _ _,_,h=>by simp only[AVc]at h;obtain⟨_,rfl,_⟩:=h;rfl
theorem AVc.one:∀{a:AV}{cs:List Value},AVc own w G a cs->∀u∈cs,u.oneCell'=true
 |.dead,_,h=>h.elim
 |.tn,_,h=>h.elim
 |.tp _ _,_,h=>h.elim
 |.v t x,_,h=>h.2.one
 | .pr a b,_,h=>by
   obtain⟨c1,c2,rfl,h1,h2⟩:=h;intro u hu;rcases List.mem_append.1 hu with hu|hu
   . exact h1.one u hu
   . exact h2.one u hu
 |.hole _,_,h=>h.2
 |.ref o,_,h=>by simp only[AVc]at h;rw[h.1];simpa using h.2
 |.hs o _ _,_,h=>by simp only[AVc]at h;obtain⟨_,_,_,_,_,_,rfl,_⟩:=h;simp[Value.oneCell']
 |.p o _ _,_,h=>by simp only[AVc]at h;obtain⟨_,_,rfl⟩:=h;simp[Value.oneCell']
 |.e o _ _ _,_,h=>by simp only[AVc]at h;obtain⟨_,_,_,_,_,rfl⟩:=h;simp[Value.oneCell']
 |.s o i _,_,h=>h.2.one
 |.ap o _,_,h=>by simp only[AVc]at h;obtain⟨_,_,_,rfl⟩:=h;simp[Value.oneCell']
 |.cl _ _,_,h=>by simp only[AVc]at h;obtain⟨_,rfl,_⟩:=h;simp[Value.oneCell']
def AV.cel:AV->Bool
 |.dead=>false
 |.tn=>false
 |.tp _ _=>false
 | _=>true
theorem Z7a {a:AV}(h:a.ok=true):a.cel=true:=by cases a<;>first|rfl|cases h
theorem ok_pr {a b:AV}:(AV.pr a b).ok=true↔a.ok=true/\b.ok=true:=by
 simp only[AV.ok];cases a.ok<;>cases b.ok<;>simp[nif]
theorem AVv.cells {a:AV}{v:Value}(hok:a.cel=true)(h:AVv own w G a v):∃cs,AVc own w G a cs/\IsVal a.agg cs v:=by
 cases a<;>first|exact h|cases hok
theorem AVv.of {a:AV}{cs:List Value}{v:Value}(h:AVc own w G a cs)(hv:IsVal a.agg cs v):AVv own w G a v:=by
 cases a<;>first|exact⟨cs,h,hv⟩|exact h.elim
theorem IsVal.cells {agg:Bool}{cs:List Value}{v:Value}(h:IsVal agg cs v)(h1:∀u∈cs,u.oneCell'=true):v.cells=cs.toArray:=by
 cases agg
 . simp only[IsVal]at h;subst h;have:=h1 v (by simp);cases v<;>first|rfl|simp[Value.oneCell']at this
 . simp only[IsVal]at h;subst h;rfl
theorem AVc.keepOk(hs:Sealed own w own' w'){P:Id->Prop}(hG:∀o,P o->G' o=G o):∀{a:AV}{cs:List Value},a.ok=true->a.men P->AVc own w G a cs->AVc own' w' G' a cs
 |.dead,_,_,_,h=>h.elim
 |.tn,_,_,_,h=>h.elim
 |.tp _ _,_,_,_,h=>h.elim
 |.s _ _ _,_,ho,_,_=>by cases ho
 |.v t x,_,_,_,h=>⟨h.1,Rep.plain hs _ h.1 h.2⟩
 | .pr a b,_,ho,hm,h=>by
   obtain⟨c1,c2,rfl,h1,h2⟩:=h;have ho:=ok_pr.1 ho;exact⟨c1,c2,rfl,AVc.keepOk hs hG ho.1 hm.1 h1,AVc.keepOk hs hG ho.2 hm.2 h2⟩
 | .cl f a,_,ho,hm,h=>by
   obtain⟨vs,rfl,h⟩:=h;exact⟨vs,rfl,AVc.keepOk hs hG (a:=a) ho hm h⟩
 |.hole _,_,_,_,h=>h
 | .ref o,_,_,hm,h=>by
   have e:=hG o hm;simp only[AVc]at h⊢;rw[e];exact h
 | .hs o _ _,_,_,hm,h=>by
   have e:=hG o hm;simp only[AVc]at h⊢;rw[e];exact h
 | .p o _ _,_,_,hm,h=>by
   have e:=hG o hm;simp only[AVc]at h⊢;rw[e];exact h
 | .e o _ _ _,_,_,hm,h=>by
   have e:=hG o hm;simp only[AVc]at h⊢;rw[e];exact h
 | .ap o _,_,_,hm,h=>by
   have e:=hG o hm;simp only[AVc]at h⊢;rw[e];exact h
def ObR(own:Own)(w:World)(G:Gs)(o:Id):Ob->Prop
 |.box a=>((G o).nest=false/\a.ok=true)/\∃g cur T,(G o).v=.pointer (some ⟨g,0,none⟩)/\own g=.ob o []/\w.heap[g]?=some (.cells cur T (0,0))/\AVc own w G a cur.toList
 |.map tid k v es=>(G o).nest=(!v.flat)/\Rep own w (.mp tid k v) es ⟨o,[],true⟩ [(G o).v]
 |.list tid e xs=>(G o).size=e.size/\(G o).nest=(!e.plain)/\Rep own w (.own tid e) xs ⟨o,[],true⟩ [(G o).v]
def Objs(own:Own)(w:World)(G:Gs)(O:Obs):Prop:=∀o b,look O o=some b->ObR own w G o b
def Zbd(σ:St):Prop:=(∀a∈σ.s,a.men fun o=>has σ.o o=true)/\∀o a,look σ.o o=some (.box a)->a.men fun o=>has σ.o o=true
structure SR [Base] (own:Own) (w:World) (G:Gs) (tm:Array Value) (σ:St):Prop where
 len:σ.s.length=tm.size
 slot:∀i a,nth σ.s i=some a->AVv own w G a (tm.getD i undef)
 objs:Objs own w G σ.o
 closed:Zbd σ
 bound:∀g,w.heap.size<=g->own g=.out
 base:Base.B own w
end Go.Pv
namespace Go.Pv
open Go
variable {own own':Own}{w w':World}{G G':Gs}{ρ:Type}
theorem Z8 {c:Bool}{a b:Option ρ}{r:ρ}(h:nif c a b=some r):(c=true/\a=some r)\/(c=false/\b=some r):=by
 cases c
 . exact .inr ⟨rfl,h⟩
 . exact .inl ⟨rfl,h⟩
theorem Z0 {c:Bool}{a:Option ρ}{r:ρ}(h:nif c a none=some r):c=true/\a=some r:=by
 cases c
 . cases h
 . exact⟨rfl,h⟩
theorem Zs {c:Bool}{a:Option ρ}{r:ρ}(h:nif c none a=some r):c=false/\a=some r:=by
 cases c
 . exact⟨rfl,h⟩
 . cases h
theorem Z2 {a b:Nat}(h:Nat.beq a b=true):a=b:=Nat.eq_of_beq_eq_true h
theorem Z3 {t u:Ty}{x:t.den}{K:u.den->Option ρ}{r:ρ}(h:Ze t u x K=some r):∃e:t=u,K (cast (congrArg Ty.den e) x)=some r:=by
 unfold Ze at h;split at h
 . rename_i e;exact⟨e,h⟩
 . cases h
theorem Zk {c:Bool}{a:Option ρ}{r:ρ}(h:(bif c then a else none)=some r):c=true/\a=some r:=by
 cases c
 . cases h
 . exact⟨rfl,h⟩
theorem Zbe {c:Bool}{a:Option ρ}{r:ρ}(h:(bif c then none else a)=some r):c=false/\a=some r:=by
 cases c
 . exact⟨rfl,h⟩
 . cases h
theorem bind_some {α:Type}{x:Option α}{K:α->Option ρ}{r:ρ}(h:x.bind K=some r):∃y,x=some y/\K y=some r:=Option.bind_eq_some_iff.1 h
def mkA(a b:AV):AV:=mkPr a b id
theorem Zf(a b:AV)(K:AV->ρ):mkPr a b K=K (mkA a b):=by
 unfold mkA mkPr;split<;>rfl
theorem AVc.mk {a b:AV}{c1 c2:List Value}(h1:AVc own w G a c1)(h2:AVc own w G b c2):AVc own w G (mkA a b) (c1++c2):=by
 unfold mkA mkPr;split
 . exact⟨by simp[Ty.plain,h1.1,h2.1],c1,c2,rfl,Rep.plain (fun _ h=>⟨h,rfl⟩) _ h1.1 h1.2,Rep.plain (fun _ h=>⟨h,rfl⟩) _ h2.1 h2.2⟩
 . exact⟨c1,c2,rfl,h1,h2⟩
theorem AV.men.mk {P:Id->Prop}{a b:AV}(h1:a.men P)(h2:b.men P):(mkA a b).men P:=by
 unfold mkA mkPr;split
 . trivial
 . exact⟨h1,h2⟩
theorem Z4d(a b:AV):(mkA a b).agg=true:=by
 unfold mkA mkPr;split<;>rfl
theorem Z5z {a b:AV}(h1:a.ok=true)(h2:b.ok=true):(mkA a b).ok=true:=by
 have h:=ok_pr.2 ⟨h1,h2⟩;unfold mkA mkPr;split
 . rfl
 . exact h
theorem Z6f(a b:AV):(mkA a b).size=a.size+b.size:=by
 unfold mkA mkPr;split<;>rfl
theorem AVc.split {a b:Ty}{x:(Ty.pair a b).den}{cs:List Value}(h:AVc own w G (.v (.pair a b) x) cs):
   ∃c1 c2,cs=c1++c2/\AVc own w G (.v a x.1) c1/\AVc own w G (.v b x.2) c2:=by
 obtain⟨hp,c1,c2,rfl,h1,h2⟩:=h;simp only[Ty.plain,Bool.and_eq_true]at hp;exact⟨c1,c2,rfl,⟨hp.1,Rep.plain (fun _ h=>⟨h,rfl⟩) _ hp.1 h1⟩,⟨hp.2,Rep.plain (fun _ h=>⟨h,rfl⟩) _ hp.2 h2⟩⟩
theorem Z1l {P:Id->Prop}:∀{p:List Bool}{a:AV}{cs:List Value}{K:AV->Option ρ}{r:ρ},AVc own w G a cs->a.men P->getF a p K=some r->
   ∃b c1 c2 c3,K b=some r/\cs=c1++(c2++c3)/\c1.length=offF a p/\AVc own w G b c2/\b.men P
 | [],a,cs,K,r,h,hm,hk=>by
   unfold getF at hk;exact⟨a,[],cs,[],by cases a<;>exact hk,by simp,by unfold offF;cases a<;>rfl,h,hm⟩
 | f::p,.pr a b,cs,K,r,h,hm,hk=>by
   obtain⟨d1,d2,rfl,h1,h2⟩:=h;cases f
   . simp only[getF]at hk;obtain⟨b',c1,c2,c3,hk,rfl,ho,hb,hm'⟩:=Z1l h1 hm.1 hk;exact⟨b',c1,c2,c3++d2,hk,by simp,by simp only[offF];exact ho,hb,hm'⟩
   . simp only[getF]at hk;obtain⟨b',c1,c2,c3,hk,rfl,ho,hb,hm'⟩:=Z1l h2 hm.2 hk;exact⟨b',d1++c1,c2,c3,hk,by simp,by simp only[offF,List.length_append,ho,h1.length];rfl,hb,hm'⟩
 | f ::p,.v t x,cs,K,r,h,hm,hk=>by
   cases t
   case pair a b=>
     obtain⟨d1,d2,rfl,h1,h2⟩:=h.split;cases f
     . simp only[getF]at hk;obtain⟨b',c1,c2,c3,hk,rfl,ho,hb,hm'⟩:=Z1l (P:=P) h1 trivial hk;exact⟨b',c1,c2,c3++d2,hk,by simp,by simp only[offF];exact ho,hb,hm'⟩
     . simp only[getF]at hk;obtain⟨b',c1,c2,c3,hk,rfl,ho,hb,hm'⟩:=Z1l (P:=P) h2 trivial hk;exact⟨b',d1++c1,c2,c3,hk,by simp,by simp only[offF,List.length_append,ho,h1.length];rfl,hb,hm'⟩
   all_goals(simp only[getF]at hk;cases hk)
 |f::p,.dead,cs,K,r,h,hm,hk=>h.elim
 |f::p,.tn,cs,K,r,h,hm,hk=>h.elim
 |f::p,.tp _ _,cs,K,r,h,hm,hk=>h.elim
 |f::p,.hole _,cs,K,r,h,hm,hk=>by simp only[getF]at hk;cases hk
 |f::p,.ref _,cs,K,r,h,hm,hk=>by simp only[getF]at hk;cases hk
 |f::p,.hs _ _ _,cs,K,r,h,hm,hk=>by simp only[getF]at hk;cases hk
 |f::p,.p _ _ _,cs,K,r,h,hm,hk=>by simp only[getF]at hk;cases hk
 |f::p,.e _ _ _ _,cs,K,r,h,hm,hk=>by simp only[getF]at hk;cases hk
 |f::p,.s _ _ _,cs,K,r,h,hm,hk=>by simp only[getF]at hk;cases hk
 |f::p,.ap _ _,cs,K,r,h,hm,hk=>by simp only[getF]at hk;cases hk
 |f::p,.cl _ _,cs,K,r,h,hm,hk=>by simp only[getF]at hk;cases hk
theorem Z20 {P:Id->Prop}:∀{p:List Bool}{a c:AV}{cs ds:List Value}{K:AV->Option ρ}{r:ρ},AVc own w G a cs->a.men P->
   (c.ok=true->AVc own w G c ds)->c.men P->setF a p c K=some r->
   ∃b c1 c2 c3,K b=some r/\c.ok=true/\cs=c1++(c2++c3)/\c1.length=offF a p/\c2.length=ds.length/\AVc own w G b (c1++(ds++c3))/\b.men P/\b.size=a.size/\(a.ok=true->b.ok=true)
 | [],a,c,cs,ds,K,r,h,hm,hc,hcm,hk=>by
   unfold setF at hk;have hk':nif c.ok (nif (Nat.beq a.size c.size) (K c) none) none=some r:=by cases a<;>exact hk
   obtain⟨hok,hk'⟩:=Z0 hk';obtain⟨hsz,hk'⟩:=Z0 hk';have hsz:=Z2 hsz;exact⟨c,[],cs,[],hk',hok,by simp,by unfold offF;cases a<;>rfl,by rw[h.length,(hc hok).length,hsz],by simpa using hc hok,hcm,hsz.symm,fun _=>hok⟩
 | f::p,.pr a b,c,cs,ds,K,r,h,hm,hc,hcm,hk=>by
   obtain⟨d1,d2,rfl,h1,h2⟩:=h;cases f
   . simp only[setF]at hk;obtain⟨b',c1,c2,c3,hk,hok,rfl,ho,hl,hb,hm',hsz,hoo⟩:=Z20 h1 hm.1 hc hcm hk;rw[Zf]at hk;refine⟨_,c1,c2,c3++d2,hk,hok,by simp,by simp only[offF];exact ho,hl,?_,.mk hm' hm.2,by rw[Z6f,hsz];rfl,fun e=>Z5z (hoo (ok_pr.1 e).1) (ok_pr.1 e).2⟩;have:=AVc.mk hb h2;simpa using this
   . simp only[setF]at hk;obtain⟨b',c1,c2,c3,hk,hok,rfl,ho,hl,hb,hm',hsz,hoo⟩:=Z20 h2 hm.2 hc hcm hk;rw[Zf]at hk;refine⟨_,d1++c1,c2,c3,hk,hok,by simp,by simp only[offF,List.length_append,ho,h1.length];rfl,hl,?_,.mk hm.1 hm',by rw[Z6f,hsz];rfl,fun e=>Z5z (ok_pr.1 e).1 (hoo (ok_pr.1 e).2)⟩;have:=AVc.mk h1 hb;simpa using this
 | f ::p,.v t x,c,cs,ds,K,r,h,hm,hc,hcm,hk=>by
   cases t
   case pair a b=>
     obtain⟨d1,d2,rfl,h1,h2⟩:=h.split;cases f
     . simp only[setF]at hk;obtain⟨b',c1,c2,c3,hk,hok,rfl,ho,hl,hb,hm',hsz,hoo⟩:=Z20 (P:=P) h1 trivial hc hcm hk;rw[Zf]at hk;refine⟨_,c1,c2,c3++d2,hk,hok,by simp,by simp only[offF];exact ho,hl,?_,.mk hm' trivial,by rw[Z6f,hsz];rfl,fun _=>Z5z (hoo rfl) rfl⟩;have:=AVc.mk hb h2;simpa using this
     . simp only[setF]at hk;obtain⟨b',c1,c2,c3,hk,hok,rfl,ho,hl,hb,hm',hsz,hoo⟩:=Z20 (P:=P) h2 trivial hc hcm hk;rw[Zf]at hk;refine⟨_,d1++c1,c2,c3,hk,hok,by simp,by simp only[offF,List.length_append,ho,h1.length];rfl,hl,?_,.mk trivial hm',by rw[Z6f,hsz];rfl,fun _=>Z5z rfl (hoo rfl)⟩;have:=AVc.mk h1 hb;simpa using this
   all_goals(simp only[setF]at hk;cases hk)
 |f::p,.dead,_,cs,_,K,r,h,hm,_,_,hk=>h.elim
 |f::p,.tn,_,cs,_,K,r,h,hm,_,_,hk=>h.elim
 |f::p,.tp _ _,_,cs,_,K,r,h,hm,_,_,hk=>h.elim
 |f::p,.hole _,_,cs,_,K,r,h,hm,_,_,hk=>by simp only[setF]at hk;cases hk
 |f::p,.ref _,_,cs,_,K,r,h,hm,_,_,hk=>by simp only[setF]at hk;cases hk
 |f::p,.hs _ _ _,_,cs,_,K,r,h,hm,_,_,hk=>by simp only[setF]at hk;cases hk
 |f::p,.p _ _ _,_,cs,_,K,r,h,hm,_,_,hk=>by simp only[setF]at hk;cases hk
 |f::p,.e _ _ _ _,_,cs,_,K,r,h,hm,_,_,hk=>by simp only[setF]at hk;cases hk
 |f::p,.s _ _ _,_,cs,_,K,r,h,hm,_,_,hk=>by simp only[setF]at hk;cases hk
 |f::p,.ap _ _,_,cs,_,K,r,h,hm,_,_,hk=>by simp only[setF]at hk;cases hk
 |f::p,.cl _ _,_,cs,_,K,r,h,hm,_,_,hk=>by simp only[setF]at hk;cases hk
end Go.Pv
namespace Go.Pv
open Go
variable {ρ:Type}
theorem idEq_iff:∀{a b:Id},idEq a b=true↔a=b
 |[],[]=>by simp[idEq]
 |[],_::_=>by simp[idEq]
 | _::_,[]=>by simp[idEq]
 | a ::l,b::m=>by
   have ih:=idEq_iff (a:=l) (b:=m);cases hab:Nat.beq a b
   . have:a≠b:=fun e=>by subst e;simp at hab
     simp[idEq,nif,hab,this]
   . have:a=b:=Z2 hab;simp[idEq,nif,this,ih]
theorem Z1m(a:Id):idEq a a=true:=idEq_iff.2 rfl
theorem Z2s {a b:Id}(h:a≠b):idEq a b=false:=by
 cases e:idEq a b
 . rfl
 . exact(h (idEq_iff.1 e)).elim
theorem Zeh {a b:Id}(h:idEq a b=false):a≠b:=fun e=>by subst e;rw[Z1m]at h;cases h
theorem pre_iff:∀{a b:Id},pre a b=true↔∃c,b=a++c
 |[],b=>by simp[pre]
 | _::_,[]=>by simp[pre]
 | a ::l,b::m=>by
   have ih:=pre_iff (a:=l) (b:=m);cases hab:Nat.beq a b
   . have:a≠b:=fun e=>by subst e;simp at hab
     simp only[pre,nif,hab];constructor
     . intro h;cases h
     . rintro⟨c,e⟩;cases e;exact(this rfl).elim
   . have:a=b:=Z2 hab;subst this;simp only[pre,nif,hab,ih,List.cons_append,List.cons.injEq,true_and]
theorem has_look:∀{O:Obs}{o:Id},has O o=true↔∃b,look O o=some b
 |[],_=>by simp[has,look]
 | (j,b)::l,o=>by
   cases e:idEq j o
   . simp only[has,look,nif,e];exact has_look
   . simp[has,look,nif,e]
theorem Z5f {O:Obs}{o:Id}(h:has O o=false):look O o=none:=by
 cases e:look O o
 . rfl
 . rw[has_look.2 ⟨_,e⟩]at h;cases h
theorem Z1 {O:Obs}{o:Id}{b:Ob}(h:look O o=some b):has O o=true:=has_look.2 ⟨b,h⟩
theorem Z6g {O:Obs}{r o:Id}(hp:pre r o=true)(h:has O o=true):hasP O r=true:=by
 induction O with
 |nil=>cases h
 | cons x l ih=>
   obtain⟨j,b⟩:=x;simp only[has]at h;simp only[hasP];cases e:idEq j o
   . rw[e]at h;cases pre r j
     . exact ih h
     . rfl
   . have:=idEq_iff.1 e;subst this;rw[hp];rfl
def Z16(O:Obs)(i:Id):Obs:=Z1a O i id
theorem Z4(O:Obs)(i:Id)(K:Obs->ρ):Z1a O i K=K (Z16 O i):=by
 unfold Z16
 induction O generalizing ρ with
 |nil=>rfl
 | cons x l ih=>
   obtain⟨j,b⟩:=x;simp only[Z1a];refine(ih _).trans (Eq.trans ?_ (congrArg K (ih _)).symm);cases idEq j i<;>rfl
theorem Za(O:Obs)(i o:Id):look (Z16 O i) o=if o=i then none else look O o:=by
 induction O with
 |nil=>simp[Z16,Z1a,look]
 | cons x l ih=>
   obtain⟨j,b⟩:=x;have:Z16 ((j,b)::l) i=nif (idEq j i) (Z16 l i) ((j,b)::Z16 l i):=by
     unfold Z16;simp only[Z1a];rw[Z4];rfl
   rw[this];cases e:idEq j i
   . have hne:=Zeh e;simp only[nif,look];cases e2:idEq j o
     . exact ih
     . have:=idEq_iff.1 e2;subst this;rw[if_neg hne]
   . have he:=idEq_iff.1 e;subst he;simp only[nif,look];rw[ih];by_cases ho:o=j
     . simp[ho]
     . rw[if_neg ho,if_neg ho,Z2s (Ne.symm ho)]
def Z31(O:Obs)(i:Id):Obs:=Z7v O i id
theorem Z8n(O:Obs)(i:Id)(K:Obs->ρ):Z7v O i K=K (Z31 O i):=by
 unfold Z31
 induction O generalizing ρ with
 |nil=>rfl
 | cons x l ih=>
   obtain⟨j,b⟩:=x;simp only[Z7v];refine(ih _).trans (Eq.trans ?_ (congrArg K (ih _)).symm);cases pre i j<;>rfl
theorem Z8o(O:Obs)(i o:Id):look (Z31 O i) o=if pre i o=true then none else look O o:=by
 induction O with
 |nil=>simp[Z31,Z7v,look]
 | cons x l ih=>
   obtain⟨j,b⟩:=x;have:Z31 ((j,b)::l) i=nif (pre i j) (Z31 l i) ((j,b)::Z31 l i):=by
     unfold Z31;simp only[Z7v];rw[Z8n];rfl
   rw[this];cases e:pre i j
   . simp only[nif,look];cases e2:idEq j o
     . exact ih
     . have:=idEq_iff.1 e2;subst this;simp[e]
   . simp only[nif,look];rw[ih];by_cases ho:pre i o=true
     . simp[ho]
     . have:j≠o:=fun h=>ho (h▸e)
       rw[if_neg ho,if_neg ho,Z2s this]
def putA(O:Obs)(i:Id)(c:Ob):Obs:=Pv.putK O i c id
theorem putK_eq(O:Obs)(i:Id)(c:Ob)(K:Obs->ρ):Pv.putK O i c K=K (putA O i c):=by
 unfold putA
 induction O generalizing ρ with
 |nil=>rfl
 | cons x l ih=>
   obtain⟨j,b⟩:=x;simp only[Pv.putK];refine(ih _).trans (Eq.trans ?_ (congrArg K (ih _)).symm);cases idEq j i<;>rfl
theorem Z2i(O:Obs)(i o:Id)(c:Ob)(h:has O i=true):look (putA O i c) o=if o=i then some c else look O o:=by
 have key:∀O:Obs,look (putA O i c) o=if o=i then(if has O i=true then some c else none)else look O o:=by
   intro O
   induction O with
   |nil=>simp[putA,Pv.putK,look,has]
   | cons x l ih=>
     obtain⟨j,b⟩:=x;have:putA ((j,b)::l) i c=nif (idEq j i) ((j,c)::putA l i c) ((j,b)::putA l i c):=by
       unfold putA;simp only[Pv.putK];rw[putK_eq];rfl
     rw[this];cases e:idEq j i
     . have hne:=Zeh e;simp only[nif,look,has,e];cases e2:idEq j o
       . exact ih
       . have:=idEq_iff.1 e2;subst this;rw[if_neg hne]
     . have he:=idEq_iff.1 e;subst he;simp only[nif,look,has,e];by_cases ho:o=j
       . subst ho;simp[Z1m]
       . rw[if_neg ho,Z2s (Ne.symm ho)];simp only;rw[ih,if_neg ho]
 rw[key,h];simp
theorem Zb {O:Obs}{i:Id}{b:Ob}{K:Obs->Option ρ}{r:ρ}(h:newK O i b K=some r):has O i=false/\K ((i,b)::O)=some r:=Zs h
theorem Z9(O:Obs)(i o:Id)(b:Ob):look ((i,b)::O) o=if o=i then some b else look O o:=by
 simp only[look];by_cases h:o=i
 . subst h;simp[Z1m,nif]
 . rw[Z2s (Ne.symm h),if_neg h];rfl
theorem Zp(O:Obs)(i o:Id)(b:Ob):has ((i,b)::O) o=true↔o=i\/has O o=true:=by
 rw[has_look,Z9,has_look];by_cases h:o=i
 . simp[h]
 . simp[h]
theorem Zei(O:Obs)(i o:Id)(c:Ob)(h:has O i=true):has (putA O i c) o=true↔has O o=true:=by
 rw[has_look,Z2i _ _ _ _ h];by_cases ho:o=i
 . subst ho;simp[h]
 . rw[if_neg ho,has_look]
end Go.Pv
namespace Go.Pv
open Go
variable {own own':Own}{w w':World}{G G':Gs}{ρ:Type}
def swAA(O:Obs)(a:AV):AV:=swA O a id
theorem Z1g(O:Obs):∀(a:AV){ρ:Type}(K:AV->ρ),swA O a K=K (swAA O a)
 |.dead,_,_=>rfl
 |.v _ _,_,_=>rfl
 |.hole _,_,_=>rfl
 |.tn,_,_=>rfl
 |.s _ _ _,_,_=>rfl
 | .pr a b,_,K=>by
   simp only[swAA,swA];rw[Z1g O a,Z1g O a,Z1g O b,Z1g O b,Zf,Zf];rfl
 | .tp a b,_,K=>by
   simp only[swAA,swA];rw[Z1g O a,Z1g O a,Z1g O b,Z1g O b];rfl
 |.ref o,_,_=>by simp only[swAA,swA];cases has O o<;>rfl
 |.hs o _ _,_,_=>by simp only[swAA,swA];cases has O o<;>rfl
 |.p o _ _,_,_=>by simp only[swAA,swA];cases has O o<;>rfl
 |.e o _ _ _,_,_=>by simp only[swAA,swA];cases has O o<;>rfl
 |.ap o _,_,_=>by simp only[swAA,swA];cases has O o<;>rfl
 | .cl f a,_,K=>by
   simp only[swAA,swA];rw[Z1g O a,Z1g O a];rfl
theorem Z5g(O:Obs)(f:Nat)(a:AV):swAA O (.cl f a)=.cl f (swAA O a):=by
 unfold swAA;simp only[swA];rw[Z1g];rfl
theorem Z5h(O:Obs)(a b:AV):swAA O (.pr a b)=mkA (swAA O a) (swAA O b):=by
 unfold swAA;simp only[swA];rw[Z1g,Z1g,Zf];rfl
theorem Z6h(O:Obs)(a b:AV):swAA O (.tp a b)=.tp (swAA O a) (swAA O b):=by
 unfold swAA;simp only[swA];rw[Z1g,Z1g];rfl
theorem Z32(O:Obs):∀a:AV,(swAA O a).men fun o=>has O o=true
 |.dead=>trivial
 |.v _ _=>trivial
 |.hole _=>trivial
 |.tn=>trivial
 |.s _ _ _=>trivial
 |.pr a b=>by rw[Z5h];exact .mk (Z32 O a) (Z32 O b)
 |.tp a b=>by rw[Z6h];exact⟨Z32 O a,Z32 O b⟩
 | .ref o=>by
   simp only[swAA,swA];cases e:has O o
   . trivial
   . exact e
 | .hs o _ _=>by
   simp only[swAA,swA];cases e:has O o
   . trivial
   . exact e
 | .p o _ _=>by
   simp only[swAA,swA];cases e:has O o
   . trivial
   . exact e
 | .e o _ _ _=>by
   simp only[swAA,swA];cases e:has O o
   . trivial
   . exact e
 | .ap o _=>by
   simp only[swAA,swA];cases e:has O o
   . trivial
   . exact e
 |.cl f a=>by rw[Z5g];exact Z32 O a
theorem Z1s(O:Obs):∀a:AV,(swAA O a).agg=a.agg
 |.dead=>rfl
 |.v _ _=>rfl
 |.hole _=>rfl
 |.tn=>rfl
 |.s _ _ _=>rfl
 |.pr a b=>by rw[Z5h,Z4d];rfl
 |.tp a b=>by rw[Z6h];rfl
 |.ref o=>by simp only[swAA,swA];cases has O o<;>rfl
 |.hs o _ _=>by simp only[swAA,swA];cases has O o<;>rfl
 |.p o _ _=>by simp only[swAA,swA];cases has O o<;>rfl
 |.e o _ _ _=>by simp only[swAA,swA];cases has O o<;>rfl
 |.ap o _=>by simp only[swAA,swA];cases has O o<;>rfl
 |.cl f a=>by rw[Z5g];rfl
theorem Z6i(O:Obs):∀a:AV,a.ok=true->(swAA O a).ok=true
 |.dead,h=>by cases h
 |.v _ _,_=>rfl
 |.hole _,_=>rfl
 |.tn,h=>by cases h
 |.tp _ _,h=>by cases h
 |.s _ _ _,h=>by cases h
 |.pr a b,h=>by rw[Z5h];exact Z5z (Z6i O a (ok_pr.1 h).1) (Z6i O b (ok_pr.1 h).2)
 |.cl f a,h=>by rw[Z5g];exact Z6i O a h
 |.ref o,_=>by simp only[swAA,swA];cases has O o<;>rfl
 |.hs o _ _,_=>by simp only[swAA,swA];cases has O o<;>rfl
 |.p o _ _,_=>by simp only[swAA,swA];cases has O o<;>rfl
 |.e o _ _ _,_=>by simp only[swAA,swA];cases has O o<;>rfl
 |.ap o _,_=>by simp only[swAA,swA];cases has O o<;>rfl
theorem AVc.one_hole {a:AV}{cs:List Value}(h:AVc own w G a cs)(hsz:a.size=1):AVc own' w' G' (.hole 1) cs:=⟨by rw[h.length,hsz],h.one⟩
theorem AVc.sweep(hs:Sealed own w own' w'){O:Obs}{P:Id->Prop}(hG:∀o,P o->has O o=true->G' o=G o):
   ∀{a:AV}{cs:List Value},a.men P->AVc own w G a cs->AVc own' w' G' (swAA O a) cs
 |.dead,_,_,h=>h.elim
 |.tn,_,_,h=>h.elim
 |.tp _ _,_,_,h=>h.elim
 |.v t x,_,_,h=>⟨h.1,Rep.plain hs _ h.1 h.2⟩
 | .pr a b,_,hm,h=>by
   obtain⟨c1,c2,rfl,h1,h2⟩:=h;rw[Z5h];exact .mk (AVc.sweep hs hG hm.1 h1) (AVc.sweep hs hG hm.2 h2)
 |.hole _,_,_,h=>h
 |.s _ _ _,_,_,h=>h.one_hole rfl
 | .ref o,_,hm,h=>by
   simp only[swAA,swA];cases e:has O o
   . exact h.one_hole rfl
   . simp only[nif,id,AVc]at h⊢;rw[hG o hm e];exact h
 | .hs o _ _,_,hm,h=>by
   simp only[swAA,swA];cases e:has O o
   . exact h.one_hole rfl
   . simp only[nif,id,AVc]at h⊢;rw[hG o hm e];exact h
 | .p o _ _,_,hm,h=>by
   simp only[swAA,swA];cases e:has O o
   . exact h.one_hole rfl
   . simp only[nif,id,AVc]at h⊢;rw[hG o hm e];exact h
 | .e o _ _ _,_,hm,h=>by
   simp only[swAA,swA];cases e:has O o
   . exact h.one_hole rfl
   . simp only[nif,id,AVc]at h⊢;rw[hG o hm e];exact h
 | .ap o _,_,hm,h=>by
   simp only[swAA,swA];cases e:has O o
   . exact h.one_hole rfl
   . simp only[nif,id,AVc]at h⊢;rw[hG o hm e];exact h
 | .cl f a,_,hm,h=>by
   obtain⟨vs,rfl,h⟩:=h;rw[Z5g];exact⟨vs,rfl,AVc.sweep hs hG hm h⟩
theorem AVv.sweep(hs:Sealed own w own' w'){O:Obs}{P:Id->Prop}(hG:∀o,P o->has O o=true->G' o=G o):
   ∀{a:AV}{v:Value},a.men P->AVv own w G a v->AVv own' w' G' (swAA O a) v
 |.dead,_,_,_=>trivial
 |.tn,_,_,h=>h
 | .tp a b,_,hm,h=>by
   obtain⟨u,vs,rfl,h1,h2⟩:=h;rw[Z6h];exact⟨u,vs,rfl,AVv.sweep hs hG hm.1 h1,AVv.sweep hs hG hm.2 h2⟩
 |.v _ _,_,hm,⟨cs,h1,h2⟩=>.of (AVc.sweep hs hG hm h1) (by rw[Z1s];exact h2)
 |.pr _ _,_,hm,⟨cs,h1,h2⟩=>.of (AVc.sweep hs hG hm h1) (by rw[Z1s];exact h2)
 |.hole _,_,hm,⟨cs,h1,h2⟩=>.of (AVc.sweep hs hG hm h1) (by rw[Z1s];exact h2)
 |.ref _,_,hm,⟨cs,h1,h2⟩=>.of (AVc.sweep hs hG hm h1) (by rw[Z1s];exact h2)
 |.hs _ _ _,_,hm,⟨cs,h1,h2⟩=>.of (AVc.sweep hs hG hm h1) (by rw[Z1s];exact h2)
 |.p _ _ _,_,hm,⟨cs,h1,h2⟩=>.of (AVc.sweep hs hG hm h1) (by rw[Z1s];exact h2)
 |.e _ _ _ _,_,hm,⟨cs,h1,h2⟩=>.of (AVc.sweep hs hG hm h1) (by rw[Z1s];exact h2)
 |.s _ _ _,_,hm,⟨cs,h1,h2⟩=>.of (AVc.sweep hs hG hm h1) (by rw[Z1s];exact h2)
 |.ap _ _,_,hm,⟨cs,h1,h2⟩=>.of (AVc.sweep hs hG hm h1) (by rw[Z1s];exact h2)
 |.cl _ _,_,hm,⟨cs,h1,h2⟩=>.of (AVc.sweep hs hG hm h1) (by rw[Z1s];exact h2)
def swOb(O:Obs):Ob->Ob
 |.box a=>.box (swAA O a)
 |.list t e xs=>.list t e xs
 |.map t k v es=>.map t k v es
theorem Zgd(O:Obs):∀(l:List AV){ρ:Type}(K:List AV->ρ),swS O l K=K (l.map (swAA O))
 |[],_,_=>rfl
 |a::l,_,K=>by simp only[swS,Z1g,Zgd O l];rfl
def swOA(O l:Obs):Obs:=l.map fun q=>(q.1,swOb O q.2)
theorem Zbf(O:Obs):∀(l:Obs){ρ:Type}(K:Obs->ρ),swO O l K=K (swOA O l)
 |[],_,_=>rfl
 |(i,.box a)::l,_,K=>by simp only[swO,Z1g,Zbf O l];rfl
 |(i,.list t e xs)::l,_,K=>by simp only[swO,Zbf O l];rfl
 |(i,.map t k v es)::l,_,K=>by simp only[swO,Zbf O l];rfl
theorem Z5i(O:Obs):∀(l:Obs)(o:Id),look (swOA O l) o=(look l o).map (swOb O)
 |[],_=>rfl
 | (i,b)::l,o=>by
   have:=Z5i O l o;simp only[swOA,List.map_cons,look]at this⊢;cases idEq i o
   . exact this
   . rfl
theorem Zdm(O l:Obs)(o:Id):has (swOA O l) o=has l o:=by
 cases e:has l o
 . cases e2:has (swOA O l) o
   . rfl
   . obtain⟨b,hb⟩:=has_look.1 e2;rw[Z5i,Z5f e]at hb;cases hb
 . obtain⟨b,hb⟩:=has_look.1 e;exact Z1 (b:=swOb O b) (by rw[Z5i,hb];rfl)
theorem Z6j {α β:Type}(f:α->β):∀(l:List α)(i:Nat),nth (l.map f) i=(nth l i).map f
 |[],i=>by cases i<;>rfl
 | _::_,0=>rfl
 | _::l,n+1=>Z6j f l n
def St.sw(σ:St):St:=⟨σ.s.map (swAA σ.o),swOA σ.o σ.o⟩
theorem St.sweepK_eq(σ:St)(K:St->ρ):σ.sweepK K=K σ.sw:=by
 obtain⟨s,O⟩:=σ;simp only[St.sweepK,Zgd,Zbf];rfl
theorem St.sw_closed(σ:St):Zbd σ.sw:=by
 refine⟨fun a ha=>?_,fun o a ha=>?_⟩
 . obtain⟨b,_,rfl⟩:=List.mem_map.1 ha;exact(Z32 σ.o b).mono fun o h=>by show has (swOA σ.o σ.o) o=true;rw[Zdm];exact h
 . have ha':look (swOA σ.o σ.o) o=some (.box a):=ha;rw[Z5i]at ha';obtain⟨b,_,hb⟩:=Option.map_eq_some_iff.1 ha';cases b with
   | box c=>
     simp only[swOb,Ob.box.injEq]at hb;subst hb;exact(Z32 σ.o c).mono fun o h=>by show has (swOA σ.o σ.o) o=true;rw[Zdm];exact h
   |list t e xs=>cases hb
   |map t k v es=>cases hb
end Go.Pv
namespace Go.Pv
open Go
variable {own own':Own}{w w':World}{G G':Gs}{ρ:Type}
def AV.rf:AV->Id->Prop
 |.ref o',o=>o=o'
 |.hs o' 0 _,o=>o=o'
 |.pr a b,o=>a.rf o\/b.rf o
 | _,_=>False
def AV.dis:AV->Prop
 |.pr a b=>a.dis/\b.dis/\∀o,a.rf o->b.rf o->False
 | _=>True
def Mvs(own:Own)(w:World)(own':Own)(w':World):AV->Pos->Prop
 |.ref o,p=>∀g s,own g=.ob o s->own' g=.ob p.id (p.sub++s)/\w'.heap[g]?=w.heap[g]?
 |.hs o 0 _,p=>∀g s,own g=.ob o s->own' g=.ob p.id (p.sub++s)/\w'.heap[g]?=w.heap[g]?
 |.pr a b,p=>Mvs own w own' w' a (p.go 0)/\Mvs own w own' w' b (p.go 1)
 | _,_=>True
theorem Mv.sub {o q:Id}:∀{t:Ty}{s s':List Nat},(∀g r,own g=.ob o (s++r)->own' g=.ob q (s'++r)/\w'.heap[g]?=w.heap[g]?)->Mv own w own' w' t ⟨o,s,false⟩ ⟨q,s',false⟩
 |.int _,_,_,_=>trivial
 |.bool,_,_,_=>trivial
 |.str,_,_,_=>trivial
 |.unit,_,_,_=>trivial
 |.slc _,_,_,_=>trivial
 |.sptr _,_,_,_=>trivial
 |.hole _,_,_,_=>trivial
 |.arr _ _,_,_,_=>trivial
 |.nilp,_,_,_=>trivial
 |.fo,_,_,_=>trivial
 |.hdr,_,_,_=>trivial
 |.clo _ _,_,_,_=>trivial
 | .mp _ _ e,s,s',h=>by
   refine⟨fun g hg=>?_,fun i=>Mv.sub fun g r hg=>?_⟩
   . have:=h g [] (by simpa[Pos.lb]using hg);simpa[Pos.lb]using this
   . have:=h g (i::r) (by simpa[Pos.el]using hg);simpa using this
 | .pair a b,s,s',h=>by
   refine⟨Mv.sub fun g r hg=>?_,Mv.sub fun g r hg=>?_⟩
   . have:=h g (0::r) (by simpa using hg);simpa using this
   . have:=h g (1::r) (by simpa using hg);simpa using this
 | .own _ e,s,s',h=>by
   refine⟨fun g hg=>?_,fun i=>Mv.sub fun g r hg=>?_⟩
   . have:=h g [] (by simpa[Pos.lb]using hg);simpa[Pos.lb]using this
   . have:=h g (i::r) (by simpa[Pos.el]using hg);simpa using this
 | .bx t,s,s',h=>by
   refine⟨fun g hg=>?_,Mv.sub fun g r hg=>?_⟩
   . have:=h g [] (by simpa[Pos.lb]using hg);simpa[Pos.lb]using this
   . have:=h g (2::r) (by simpa using hg);simpa using this
theorem Mv.ob {tid:Nat}{e:Ty}{o:Id}{tp:Bool}{p:Pos}(h:∀g s,own g=.ob o s->own' g=.ob p.id (p.sub++s)/\w'.heap[g]?=w.heap[g]?):Mv own w own' w' (.own tid e) ⟨o,[],tp⟩ p:=by
 refine⟨fun g hg=>?_,fun i=>Mv.sub fun g r hg=>?_⟩
 . have:=h g [] hg;simpa[Pos.lb]using this
 . have:=h g (i::r) (by simpa[Pos.el]using hg);simpa using this
theorem Mv.obMap {tid:Nat}{k v:Ty}{o:Id}{tp:Bool}{p:Pos}(h:∀g s,own g=.ob o s->own' g=.ob p.id (p.sub++s)/\w'.heap[g]?=w.heap[g]?):Mv own w own' w' (.mp tid k v) ⟨o,[],tp⟩ p:=by
 refine⟨fun g hg=>?_,fun i=>Mv.sub fun g r hg=>?_⟩
 . have:=h g [] hg;simpa[Pos.lb]using this
 . have:=h g (i::r) (by simpa[Pos.el]using hg);simpa using this
theorem Sl.sub {o:Id}:∀{t:Ty}{s:List Nat},(∀g r,own g=.ob o (s++r)->own' g=.sh/\w'.heap[g]?=w.heap[g]?)->Sl own w own' w' t ⟨o,s,false⟩
 |.int _,_,_=>trivial
 |.bool,_,_=>trivial
 |.str,_,_=>trivial
 |.unit,_,_=>trivial
 |.slc _,_,_=>trivial
 |.sptr _,_,_=>trivial
 |.hole _,_,_=>trivial
 |.arr _ _,_,_=>trivial
 |.nilp,_,_=>trivial
 |.fo,_,_=>trivial
 |.hdr,_,_=>trivial
 |.clo _ _,_,_=>trivial
 |.mp _ _ _,_,_=>trivial
 | .pair a b,s,h=>by
   refine⟨Sl.sub fun g r hg=>?_,Sl.sub fun g r hg=>?_⟩
   . exact h g (0::r) (by simpa using hg)
   . exact h g (1::r) (by simpa using hg)
 | .own _ e,s,h=>by
   refine⟨fun g hg=>h g [] (by simpa[Pos.lb]using hg),fun i=>Sl.sub fun g r hg=>?_⟩;exact h g (i::r) (by simpa[Pos.el]using hg)
 | .bx t,s,h=>by
   refine⟨fun g hg=>h g [] (by simpa[Pos.lb]using hg),Sl.sub fun g r hg=>?_⟩;exact h g (2::r) (by simpa using hg)
theorem Sl.ob {tid:Nat}{e:Ty}{o:Id}{tp:Bool}(h:∀g s,own g=.ob o s->own' g=.sh/\w'.heap[g]?=w.heap[g]?):Sl own w own' w' (.own tid e) ⟨o,[],tp⟩:=
 ⟨fun g hg=>h g [] hg,fun i=>Sl.sub fun g r hg=>h g (i::r) (by simpa using hg)⟩
structure Less (a:AV) (O O':Obs):Prop where
 there:∀o,a.rf o->has O o=true
 gone:∀o,a.rf o->look O' o=none
 kept:∀o,¬a.rf o->look O' o=look O o
theorem Less.none {a:AV}{O:Obs}(h:∀o,¬a.rf o):Less a O O:=⟨fun o ho=>(h o ho).elim,fun o ho=>(h o ho).elim,fun _ _=>rfl⟩
theorem Objs.less {a:AV}{O O':Obs}(hO:Objs own w G O)(h:Less a O O'):Objs own w G O':=by
 intro o b hb;by_cases ha:a.rf o
 . rw[h.gone o ha]at hb;cases hb
 . exact hO o b ((h.kept o ha).symm.trans hb)
theorem Z2j:∀{a:AV}{cs:List Value}{O:Obs}{K:(t:Ty)->t.den->Obs->Option ρ}{r:ρ},AVc own w G a cs->Objs own w G O->pkK a O K=some r->
   ∃t x O',K t x O'=some r/\Less a O O'/\a.dis/\∀{own':Own}{w':World}{p:Pos},Sealed own w own' w'->Mvs own w own' w' a p->Rep own' w' t x p cs
 |.dead,_,_,_,_,h,_,_=>h.elim
 |.tn,_,_,_,_,h,_,_=>h.elim
 |.tp _ _,_,_,_,_,h,_,_=>h.elim
 |.hs _ _ _,_,_,_,_,_,_,hk=>by simp only[pkK]at hk;cases hk
 |.p _ _ _,_,_,_,_,_,_,hk=>by simp only[pkK]at hk;cases hk
 |.e _ _ _ _,_,_,_,_,_,_,hk=>by simp only[pkK]at hk;cases hk
 |.s _ _ _,_,_,_,_,_,_,hk=>by simp only[pkK]at hk;cases hk
 |.ap _ _,_,_,_,_,_,_,hk=>by simp only[pkK]at hk;cases hk
 |.cl _ _,_,_,_,_,_,_,hk=>by simp only[pkK]at hk;cases hk
 | .v t x,cs,O,K,r,h,hO,hk=>by
   simp only[pkK]at hk;exact⟨t,x,O,hk,.none (fun _ h=>h),trivial,fun hs _=>Rep.plain hs _ h.1 h.2⟩
 | .hole n,cs,O,K,r,h,hO,hk=>by
   simp only[pkK]at hk;exact⟨.hole n,(),O,hk,.none (fun _ h=>h),trivial,fun hs _=>h⟩
 | .pr a b,cs,O,K,r,h,hO,hk=>by
   simp only[pkK]at hk;obtain⟨c1,c2,rfl,h1,h2⟩:=h;obtain⟨t,x,O1,hk,l1,d1,m1⟩:=Z2j h1 hO hk;obtain⟨u,y,O2,hk,l2,d2,m2⟩:=Z2j h2 (hO.less l1) hk;have hd:∀o,a.rf o->b.rf o->False:=fun o ha hb=>by
     have:=l2.there o hb;obtain⟨_,e⟩:=has_look.1 this;rw[l1.gone o ha]at e;cases e
   refine⟨.pair t u,(x,y),O2,hk,⟨?_,?_,?_⟩,⟨d1,d2,hd⟩,fun hs hm=>⟨c1,c2,rfl,m1 hs hm.1,m2 hs hm.2⟩⟩
   . rintro o (ha|hb)
     . exact l1.there o ha
     . have:=l2.there o hb;obtain⟨c,e⟩:=has_look.1 this;by_cases ha:a.rf o
       . exact(hd o ha hb).elim
       . rw[l1.kept o ha]at e;exact Z1 e
   . rintro o (ha|hb)
     . have hb:¬b.rf o:=fun hb=>hd o ha hb
       rw[l2.kept o hb,l1.gone o ha]
     . exact l2.gone o hb
   . intro o ho;rw[l2.kept o (fun hb=>ho (.inr hb)),l1.kept o (fun ha=>ho (.inl ha))]
 | .ref o,cs,O,K,r,h,hO,hk=>by
   simp only[pkK]at hk;split at hk
   . rename_i tid e xs hl;rw[Z4]at hk;obtain⟨hsz,_,hr⟩:=hO o _ hl;obtain⟨rfl,_⟩:=h;refine⟨.own tid e,xs,_,hk,⟨?_,?_,?_⟩,trivial,fun hs hm=>Rep.move hs (Mv.ob hm) hr⟩
     . rintro _ rfl;exact Z1 hl
     . rintro _ rfl;rw[Za];simp
     . intro o' ho';rw[Za];exact if_neg ho'
   . rename_i tid k v es hl;rw[Z4]at hk;obtain⟨_,hr⟩:=hO o _ hl;obtain⟨rfl,_⟩:=h;refine⟨.mp tid k v,es,_,hk,⟨?_,?_,?_⟩,trivial,fun hs hm=>Rep.move hs (Mv.obMap hm) hr⟩
     . rintro _ rfl;exact Z1 hl
     . rintro _ rfl;rw[Za];simp
     . intro o' ho';rw[Za];exact if_neg ho'
   . cases hk
theorem Zge {a:AV}{cs:List Value}{O:Obs}{K:(t:Ty)->t.den->Obs->Option ρ}{r:ρ}(h:AVc own w G a cs)(hO:Objs own w G O)(hk:pkE a O K=some r):
   ∃t x O',K t x O'=some r/\Less a O O'/\a.dis/\∀{own':Own}{w':World}{p:Pos},Sealed own w own' w'->Mvs own w own' w' a p->Rep own' w' t x p cs:=by
 unfold pkE at hk;split at hk
 . rename_i o n;split at hk
   . rename_i tid e xs hl;rw[Z4]at hk;obtain⟨hsz,_,hr⟩:=hO o _ hl;obtain⟨B,m,c,B',c',hv,rfl,hm,hc1,hc2,hz,_⟩:=h;obtain⟨rfl,rfl⟩:=hz rfl;refine⟨.own tid e,xs.take n,_,hk,⟨?_,?_,?_⟩,trivial,fun hs hmv=>?_⟩
     . rintro _ rfl;exact Z1 hl
     . rintro _ rfl;rw[Za];simp
     . intro o' ho';rw[Za];exact if_neg ho'
     . have hr:=Rep.move hs (Mv.ob hmv) hr;rw[hv]at hr;simp only[Rep]at hr⊢;rcases hr with⟨h1,h2⟩|⟨g,cap,cur,h1,h2,h3,h4,h5,h6,h7⟩
       . simp only[List.cons.injEq,Value.slice.injEq,and_true]at h1;obtain⟨rfl,rfl,rfl⟩:=h1;exact .inl ⟨by rw[show n=0 by omega],by rw[List.length_take];omega⟩
       . simp only[List.cons.injEq,Value.slice.injEq,and_true]at h1;obtain⟨rfl,rfl,rfl⟩:=h1;refine .inr ⟨g,_,cur,by rw[List.length_take,Nat.min_eq_left (by omega)],h2,h3,by rw[List.length_take];omega,h5,h6,fun i y hy=>h7 i y ?_⟩;rw[List.getElem?_take]at hy;split at hy
         . exact hy
         . cases hy
   . cases hk
 . exact Z2j h hO hk
def AV.rel:AV->Pos->Id->List Nat->Option Lb
 |.ref o,q,j,l=>if j=o then some (.ob q.id (q.sub++l))else none
 |.hs o 0 _,q,j,l=>if j=o then some (.ob q.id (q.sub++l))else none
 |.pr a b,q,j,l=>match a.rel (q.go 0) j l with|some m=>some m|none=>b.rel (q.go 1) j l
 | _,_,_,_=>none
theorem AV.rel_none:∀{a:AV}{q:Pos}{j:Id}{l:List Nat},¬a.rf j->a.rel q j l=none
 |.ref o,q,j,l,h=>by simp only[AV.rel];exact if_neg h
 | .pr a b,q,j,l,h=>by
   simp only[AV.rel];rw[AV.rel_none (fun ha=>h (.inl ha)),AV.rel_none (fun hb=>h (.inr hb))]
 |.dead,_,_,_,_=>rfl
 |.tn,_,_,_,_=>rfl
 |.tp _ _,_,_,_,_=>rfl
 |.hs o 0 _,q,j,l,h=>by simp only[AV.rel];exact if_neg h
 |.hs _ (_+1) _,_,_,_,_=>rfl
 |.p _ _ _,_,_,_,_=>rfl
 |.e _ _ _ _,_,_,_,_=>rfl
 |.s _ _ _,_,_,_,_=>rfl
 |.ap _ _,_,_,_,_=>rfl
 |.cl _ _,_,_,_,_=>rfl
 |.v _ _,_,_,_,_=>rfl
 |.hole _,_,_,_,_=>rfl
theorem Mvs.of:∀{a:AV}{p:Pos},a.dis->(∀g i s l,own g=.ob i s->a.rel p i s=some l->own' g=l/\w'.heap[g]?=w.heap[g]?)->Mvs own w own' w' a p
 |.ref o,p,_,h=>fun g s hg=>h g o s _ hg (by simp[AV.rel])
 | .pr a b,p,hd,h=>by
   refine⟨Mvs.of hd.1 fun g i s l hg hl=>h g i s l hg (by simp only[AV.rel,hl]),Mvs.of hd.2.1 fun g i s l hg hl=>?_⟩;have hb:b.rf i:=Classical.byContradiction fun hb=>by rw[AV.rel_none hb]at hl;cases hl
   exact h g i s l hg (by simp only[AV.rel,AV.rel_none (fun ha=>hd.2.2 i ha hb),hl])
 |.dead,_,_,_=>trivial
 |.tn,_,_,_=>trivial
 |.tp _ _,_,_,_=>trivial
 |.hs o 0 _,p,_,h=>fun g s hg=>h g o s _ hg (by simp[AV.rel])
 |.hs _ (_+1) _,_,_,_=>trivial
 |.p _ _ _,_,_,_=>trivial
 |.e _ _ _ _,_,_,_=>trivial
 |.s _ _ _,_,_,_=>trivial
 |.ap _ _,_,_,_=>trivial
 |.cl _ _,_,_,_=>trivial
 |.v _ _,_,_,_=>trivial
 |.hole _,_,_,_=>trivial
structure More (r:Id) (G G':Gs) (O O':Obs):Prop where
 kept:∀o,has O o=true->look O' o=look O o
 same:∀o,pre r o=false->G' o=G o/\look O' o=look O o
theorem More.refl(r:Id)(G:Gs)(O:Obs):More r G G O O:=⟨fun _ _=>rfl,fun _ _=>⟨rfl,rfl⟩⟩
theorem Z17(r:Id)(s:List Nat)(o:Id)(h:pre (r++s) o=true):pre r o=true:=by
 obtain⟨c,rfl⟩:=pre_iff.1 h;exact pre_iff.2 ⟨s++c,by simp⟩
theorem Z60 {r:Id}{s:List Nat}{o:Id}(h:pre r o=false):pre (r++s) o=false:=by
 cases e:pre (r++s) o
 . rfl
 . rw[Z17 r s o e]at h;cases h
theorem Zn(r:Id):pre r r=true:=pre_iff.2 ⟨[],by simp⟩
theorem Zbg {r o:Id}{i j:Nat}(hij:i≠j)(h:pre (r++[i]) o=true):pre (r++[j]) o=false:=by
 cases e:pre (r++[j]) o
 . rfl
 . obtain⟨c,rfl⟩:=pre_iff.1 h;obtain⟨d,hd⟩:=pre_iff.1 e;rw[List.append_assoc,List.append_assoc]at hd;have:=List.append_cancel_left hd;simp at this;exact(hij this.1).elim
theorem ObR.other {G G':Gs}{P:Id->Prop}{o:Id}{b:Ob}(h:ObR own w G o b)(he:G' o=G o)(hm:∀a,b=.box a->a.men P)(hG:∀o,P o->G' o=G o):ObR own w G' o b:=by
 cases b with
 | box a=>
   obtain⟨hn,g,cur,T,h1,h2,h3,h4⟩:=h;exact⟨⟨by rw[he];exact hn.1,hn.2⟩,g,cur,T,by rw[he];exact h1,h2,h3,AVc.keepOk (fun _ h=>⟨h,rfl⟩) hG hn.2 (hm a rfl) h4⟩
 | list tid e xs=>
   obtain⟨h1,h2,h3⟩:=h;exact⟨by rw[he];exact h1,by rw[he];exact h2,by rw[he];exact h3⟩
 | map tid k v es=>
   obtain⟨h1,h2⟩:=h;exact⟨by rw[he];exact h1,by rw[he];exact h2⟩
def gput(G:Gs)(o:Id)(x:Gh):Gs:=fun i=>if i=o then x else G i
theorem Z7(G:Gs)(o:Id)(x:Gh):gput G o x o=x:=if_pos rfl
theorem Z26(G:Gs){o i:Id}(x:Gh)(h:i≠o):gput G o x i=G i:=if_neg h
theorem Objs.new {P:Id->Prop}{O:Obs}{r:Id}{b:Ob}{x:Gh}(hO:Objs own w G O)(hP:∀o c,look O o=some (.box c)->c.men P)(hr:has O r=false)(hPr:¬P r)
   (hb:ObR own w (gput G r x) r b):Objs own w (gput G r x) ((r,b)::O):=by
 intro o c hc;rw[Z9]at hc;by_cases ho:o=r
 . subst ho;rw[if_pos rfl]at hc;cases hc;exact hb
 . rw[if_neg ho]at hc;refine(hO o c hc).other (P:=P) (Z26 _ _ ho) (fun a e=>hP o a (e▸hc)) fun i hi=>Z26 _ _ fun e=>hPr (e▸hi)
structure Un (own:Own) (w:World) (P:Id->Prop) (r:Id) (G G':Gs) (O O':Obs) (a:AV) (cs:List Value):Prop where
 rep:AVc own w G' a cs
 objs:Objs own w G' O'
 more:More r G G' O O'
 men:a.men fun o=>has O' o=true/\pre r o=true
 box:∀o c,look O' o=some (.box c)->look O o=some (.box c)\/c.men fun o=>has O' o=true/\pre r o=true
 ok:a.ok=true
theorem Zh {O O':Obs}{o:Id}(h:look O' o=look O o):has O' o=has O o:=by
 cases e:has O o
 . cases e2:has O' o
   . rfl
   . obtain⟨b,hb⟩:=has_look.1 e2;rw[h,Z5f e]at hb;cases hb
 . obtain⟨b,hb⟩:=has_look.1 e;exact Z1 (h.trans hb)
theorem Z2a:∀{t:Ty}{x:t.den}{r:Id}{cs:List Value}{O:Obs}{P:Id->Prop}{G:Gs}{K:AV->Obs->Option ρ}{res:ρ},Rep own w t x ⟨r,[],true⟩ cs->Objs own w G O->
   (∀o c,look O o=some (.box c)->c.men P)->(∀o,pre r o=true->¬P o)->unpK t x r O K=some res->
   ∃a O' G',K a O'=some res/\Un own w P r G G' O O' a cs
 | .int k,x,r,cs,O,P,G,K,res,h,hO,hP,hr,hk=>by
   simp only[unpK]at hk;exact⟨_,_,G,hk,⟨rfl,h⟩,hO,.refl _ _ _,trivial,fun o c hc=>.inl hc,rfl⟩
 | .bool,x,r,cs,O,P,G,K,res,h,hO,hP,hr,hk=>by
   simp only[unpK]at hk;exact⟨_,_,G,hk,⟨rfl,h⟩,hO,.refl _ _ _,trivial,fun o c hc=>.inl hc,rfl⟩
 | .str,x,r,cs,O,P,G,K,res,h,hO,hP,hr,hk=>by
   simp only[unpK]at hk;exact⟨_,_,G,hk,⟨rfl,h⟩,hO,.refl _ _ _,trivial,fun o c hc=>.inl hc,rfl⟩
 | .unit,x,r,cs,O,P,G,K,res,h,hO,hP,hr,hk=>by
   simp only[unpK]at hk;exact⟨_,_,G,hk,⟨rfl,h⟩,hO,.refl _ _ _,trivial,fun o c hc=>.inl hc,rfl⟩
 | .slc e,x,r,cs,O,P,G,K,res,h,hO,hP,hr,hk=>by
   simp only[unpK]at hk;obtain⟨hp,hk⟩:=Z0 hk;exact⟨_,_,G,hk,⟨hp,Rep.plain (fun _ h=>⟨h,rfl⟩) _ hp h⟩,hO,.refl _ _ _,trivial,fun o c hc=>.inl hc,rfl⟩
 | .sptr t,x,r,cs,O,P,G,K,res,h,hO,hP,hr,hk=>by
   simp only[unpK]at hk;obtain⟨hp,hk⟩:=Z0 hk;exact⟨_,_,G,hk,⟨hp,Rep.plain (fun _ h=>⟨h,rfl⟩) _ hp h⟩,hO,.refl _ _ _,trivial,fun o c hc=>.inl hc,rfl⟩
 | .hole n,x,r,cs,O,P,G,K,res,h,hO,hP,hr,hk=>by
   simp only[unpK]at hk;exact⟨_,_,G,hk,h,hO,.refl _ _ _,trivial,fun o c hc=>.inl hc,rfl⟩
 | .nilp,x,r,cs,O,P,G,K,res,h,hO,hP,hr,hk=>by
   simp only[unpK]at hk;exact⟨_,_,G,hk,⟨rfl,h⟩,hO,.refl _ _ _,trivial,fun o c hc=>.inl hc,rfl⟩
 | .fo,x,r,cs,O,P,G,K,res,h,hO,hP,hr,hk=>by
   simp only[unpK]at hk;exact⟨_,_,G,hk,⟨rfl,h⟩,hO,.refl _ _ _,trivial,fun o c hc=>.inl hc,rfl⟩
 | .hdr,x,r,cs,O,P,G,K,res,h,hO,hP,hr,hk=>by
   simp only[unpK]at hk;exact⟨_,_,G,hk,⟨rfl,h⟩,hO,.refl _ _ _,trivial,fun o c hc=>.inl hc,rfl⟩
 | .arr n e,x,r,cs,O,P,G,K,res,h,hO,hP,hr,hk=>by
   simp only[unpK]at hk;obtain⟨hp,hk⟩:=Z0 hk;exact⟨_,_,G,hk,⟨hp,Rep.plain (fun _ h=>⟨h,rfl⟩) _ hp h⟩,hO,.refl _ _ _,trivial,fun o c hc=>.inl hc,rfl⟩
 | .clo n e,x,r,cs,O,P,G,K,res,h,hO,hP,hr,hk=>by
   simp only[unpK]at hk;obtain⟨hp,hk⟩:=Z0 hk;exact⟨_,_,G,hk,⟨hp,Rep.plain (fun _ h=>⟨h,rfl⟩) _ hp h⟩,hO,.refl _ _ _,trivial,fun o c hc=>.inl hc,rfl⟩
 | .mp tid k v,xs,r,cs,O,P,G,K,res,h,hO,hP,hr,hk=>by
   simp only[unpK]at hk;obtain⟨hn,hk⟩:=Zb hk;have h1:=h.one;obtain⟨vv,rfl⟩:∃v,cs=[v]:=by
     have:=h.length
     match cs,this with
     |[v],_=>exact⟨v,rfl⟩
   refine⟨_,_,gput G r ⟨vv,0,!v.flat⟩,hk,⟨by rw[Z7],by rw[Z7];exact h1 vv (by simp)⟩,?_,⟨?_,?_⟩,?_,?_,rfl⟩
   . refine hO.new hP hn (hr r (Zn r)) ⟨by rw[Z7],by rw[Z7];exact h⟩
   . intro o ho;rw[Z9,if_neg];rintro rfl;rw[hn]at ho;cases ho
   . intro o ho;have:o≠r:=by rintro rfl;rw[Zn]at ho;cases ho
     exact⟨Z26 _ _ this,by rw[Z9,if_neg this]⟩
   . exact⟨(Zp _ _ _ _).2 (.inl rfl),Zn r⟩
   . intro o c hc;rw[Z9]at hc;split at hc
     . cases hc
     . exact .inl hc
 | .own tid e,xs,r,cs,O,P,G,K,res,h,hO,hP,hr,hk=>by
   simp only[unpK]at hk;obtain⟨hn,hk⟩:=Zb hk;have h1:=h.one;obtain⟨v,rfl⟩:∃v,cs=[v]:=by
     have:=h.length
     match cs,this with
     |[v],_=>exact⟨v,rfl⟩
   refine⟨_,_,gput G r ⟨v,e.size,!e.plain⟩,hk,⟨by rw[Z7],by rw[Z7];exact h1 v (by simp)⟩,?_,⟨?_,?_⟩,?_,?_,rfl⟩
   . refine hO.new hP hn (hr r (Zn r)) ⟨by rw[Z7],by rw[Z7],by rw[Z7];exact h⟩
   . intro o ho;rw[Z9,if_neg];rintro rfl;rw[hn]at ho;cases ho
   . intro o ho;have:o≠r:=by rintro rfl;rw[Zn]at ho;cases ho
     exact⟨Z26 _ _ this,by rw[Z9,if_neg this]⟩
   . exact⟨(Zp _ _ _ _).2 (.inl rfl),Zn r⟩
   . intro o c hc;rw[Z9]at hc;split at hc
     . cases hc
     . exact .inl hc
 | .bx t,x,r,cs,O,P,G,K,res,h,hO,hP,hr,hk=>by
   simp only[unpK]at hk;obtain⟨g,cur,T,rfl,hg,hh,hc⟩:=h;obtain⟨a,O1,G1,hk,u⟩:=Z2a (P:=P) hc hO hP (fun o ho=>hr o (Z17 r [2] o ho)) hk;obtain⟨hn,hk⟩:=Zb hk;have hr0:pre (r++[2]) r=false:=by
     cases e:pre (r++[2]) r
     . rfl
     . obtain⟨c,hc⟩:=pre_iff.1 e;have:=congrArg List.length hc;simp at this
   have hne:∀o,pre (r++[2]) o=true->o≠r:=by rintro o ho rfl;rw[hr0]at ho;cases ho
   have hbox:∀o c,look O1 o=some (.box c)->c.men fun o=>P o\/pre (r++[2]) o=true:=by
     intro o c hc;rcases u.box o c hc with h1|h1
     . exact(hP o c h1).mono fun _ h=>.inl h
     . exact h1.mono fun _ h=>.inr h.2
   refine⟨_,_,gput G1 r ⟨.pointer (some ⟨g,0,none⟩),0,false⟩,hk,⟨g,by rw[Z7],rfl⟩,?_,⟨?_,?_⟩,?_,?_,rfl⟩
   . refine u.objs.new (P:=fun o=>P o\/pre (r++[2]) o=true) hbox hn ?_ ?_
     . rintro(h1|h1)
       . exact hr r (Zn r) h1
       . exact hne r h1 rfl
     . refine⟨⟨by rw[Z7],u.ok⟩,g,cur,T,by rw[Z7],hg,hh,?_⟩;exact AVc.keepOk (fun _ h=>⟨h,rfl⟩) (fun o ho=>Z26 _ _ (hne o ho.2)) u.ok u.men u.rep
   . intro o ho;rw[Z9,if_neg]
     . exact u.more.kept o ho
     . rintro rfl;rw[Zh (u.more.kept o ho),ho]at hn;cases hn
   . intro o ho;have:o≠r:=by rintro rfl;rw[Zn]at ho;cases ho
     have h2:=u.more.same o (Z60 ho);exact⟨by rw[Z26 _ _ this];exact h2.1,by rw[Z9,if_neg this];exact h2.2⟩
   . exact⟨(Zp _ _ _ _).2 (.inl rfl),Zn r⟩
   . intro o c hc;rw[Z9]at hc;split at hc
     . cases hc;exact .inr (u.men.mono fun o ho=>⟨(Zp _ _ _ _).2 (.inr ho.1),Z17 r [2] o ho.2⟩)
     . rcases u.box o c hc with h1|h1
       . exact .inl h1
       . exact .inr (h1.mono fun o ho=>⟨(Zp _ _ _ _).2 (.inr ho.1),Z17 r [2] o ho.2⟩)
 | .pair a b,x,r,cs,O,P,G,K,res,h,hO,hP,hr,hk=>by
   simp only[unpK]at hk;obtain⟨c1,c2,rfl,h1,h2⟩:=h;obtain⟨a',O1,G1,hk,u⟩:=Z2a (P:=P) h1 hO hP (fun o ho=>hr o (Z17 r [0] o ho)) hk;have hbox:∀o c,look O1 o=some (.box c)->c.men fun o=>P o\/pre (r++[0]) o=true:=by
     intro o c hc;rcases u.box o c hc with h1|h1
     . exact(hP o c h1).mono fun _ h=>.inl h
     . exact h1.mono fun _ h=>.inr h.2
   obtain⟨b',O2,G2,hk,v⟩:=Z2a (P:=fun o=>P o\/pre (r++[0]) o=true) h2 u.objs hbox (by
     rintro o ho (h1|h1)
     . exact hr o (Z17 r [1] o ho) h1
     . rw[Zbg (by decide) h1]at ho;cases ho) hk
   rw[Zf]at hk;have hk2:∀o,has O o=true->has O1 o=true:=fun o ho=>by rw[Zh (u.more.kept o ho)];exact ho
   have hk3:∀o,has O1 o=true->has O2 o=true:=fun o ho=>by rw[Zh (v.more.kept o ho)];exact ho
   refine⟨_,_,G2,hk,.mk ?_ v.rep,v.objs,⟨?_,?_⟩,.mk ?_ ?_,?_,Z5z u.ok v.ok⟩
   . exact AVc.keep (fun _ h=>⟨h,rfl⟩) (fun o ho=>⟨(v.more.same o (Zbg (by decide) ho.2)).1,fun _ _ _=>rfl⟩) u.men u.rep
   . intro o ho;rw[v.more.kept o (hk2 o ho),u.more.kept o ho]
   . intro o ho;have e1:=u.more.same o (Z60 ho);have e2:=v.more.same o (Z60 ho);exact⟨e2.1.trans e1.1,e2.2.trans e1.2⟩
   . exact u.men.mono fun o ho=>⟨hk3 o ho.1,Z17 r [0] o ho.2⟩
   . exact v.men.mono fun o ho=>⟨ho.1,Z17 r [1] o ho.2⟩
   . intro o c hc;rcases v.box o c hc with h1|h1
     . rcases u.box o c h1 with h2|h2
       . exact .inl h2
       . exact .inr (h2.mono fun o ho=>⟨hk3 o ho.1,Z17 r [0] o ho.2⟩)
     . exact .inr (h1.mono fun o ho=>⟨ho.1,Z17 r [1] o ho.2⟩)
end Go.Pv
namespace Go.Pv
open Go
variable {own own':Own}{w w':World}{G G':Gs}{ρ:Type}
theorem Zej {α:Type}(xs:List α)(lo n i:Nat)(y:α)(h:((xs.drop lo).take n)[i]?=some y):i<n/\xs[lo+i]?=some y:=by
 rw[List.getElem?_take]at h;split at h
 . rename_i hi;exact⟨hi,by simpa[List.getElem?_drop]using h⟩
 . cases h
theorem Zek {α:Type}(xs:List α)(lo n:Nat)(h:lo+n<=xs.length):((xs.drop lo).take n).length=n:=by simp;omega
theorem Rep.part {e:Ty}{xs:List e.den}{p:Pos}{B B':Option Addr}{m c c' lo n:Nat}(h:Rep own w (.slc e) xs p [.slice B m c])(hl:lo+n<=m)(hc:n<=c')(hm:c'<=maxLen)
   (ha:0<n->∃A,B=some A/\B'=some (A.add (lo*e.size))):Rep own w (.slc e) ((xs.drop lo).take n) p [.slice B' n c']:=by
 simp only[Rep]at h⊢;obtain⟨h0,B0,c0,he,h1,h2,h3⟩:=h;simp only[List.cons.injEq,Value.slice.injEq,and_true]at he;obtain⟨rfl,rfl,rfl⟩:=he;have hn:=Zek xs lo n hl;refine⟨h0,B',c',by rw[hn],by rw[hn];exact hc,hm,fun i y hy=>?_⟩;obtain⟨hi,hy⟩:=Zej xs lo n i y hy;obtain⟨A,ys,hA,ho,hys,hr⟩:=h3 (lo+i) y hy;obtain⟨A',hA',hB'⟩:=ha (by omega);rw[hA]at hA';cases hA';refine⟨_,ys,hB',by rw[Zw];exact ho,?_,hr⟩;rw[Addr.add_add,<-Nat.add_mul];exact hys
theorem Zgf(e:Ty)(xs:List e.den)(lo n:Nat):(show List e.sh.den from toSh (.slc e) ((xs.drop lo).take n))=((show List e.sh.den from toSh (.slc e) xs).drop lo).take n:=by
 have:∀{α β:Type}(h:β=α)(xs:List α),cast (congrArg List h).symm ((xs.drop lo).take n)=((cast (congrArg List h).symm xs).drop lo).take n:=by
   intro α β h xs;subst h;rfl
 exact this (Ty.den_sh e) xs
theorem Rep.sealOwn(hs:Sealed own w own' w'){tid:Nat}{e:Ty}{xs:List e.den}{p:Pos}(q:Pos){cs:List Value}(hp:e.sh.plain=true)(hm:Sl own w own' w' (.own tid e) p)
   (h:Rep own w (.own tid e) xs p cs):Rep own' w' (.slc e.sh) (toSh (.slc e) xs) q cs:=Rep.sealUp hs q (t:=.own tid e) hp hm h
theorem Z1n {tid:Nat}{e:Ty}{xs:List e.den}{p:Pos}{v:Value}(h:Rep own w (.own tid e) xs p [v]):∃B c,v=.slice B xs.length c/\xs.length<=c/\c<=maxLen:=by
 simp only[Rep]at h;rcases h with⟨h,h0⟩|⟨g,cap,cur,h,_,_,h1,h2,_⟩
 . simp only[List.cons.injEq,and_true]at h;exact⟨none,0,by rw[h,h0],by omega,by simp[maxLen]⟩
 . simp only[List.cons.injEq,and_true]at h;exact⟨_,cap,h,h1,h2⟩
theorem Zhb {cs:List Value}{n s:Nat}(hl:cs.length=n*s)(h:∀i,i<n->∀u∈(cs.drop (i*s)).take s,u.oneCell'=true):∀u∈cs,u.oneCell'=true:=by
 intro u hu;obtain⟨j,hj,rfl⟩:=List.getElem_of_mem hu;have hs:0<s:=by
   rcases Nat.eq_zero_or_pos s with h0|h0
   . subst h0;simp at hl;subst hl;simp at hj
   . exact h0
 have hi:j/s<n:=by
   rw[Nat.div_lt_iff_lt_mul hs];omega
 refine h (j/s) hi _ (List.mem_of_getElem? (i:=j % s) ?_);rw[List.getElem?_take,if_pos (Nat.mod_lt _ hs),List.getElem?_drop];have:j/s*s+j % s=j:=by rw[Nat.mul_comm];exact Nat.div_add_mod j s
 rw[this];exact List.getElem?_eq_getElem hj
theorem Z8p {tid:Nat}{e:Ty}{xs:List e.den}{p:Pos}(q:Pos){A:Addr}{n c:Nat}(hp:e.plain=true)(h:Rep own w (.own tid e) xs p [.slice (some A) n c]):
   ∃g cur ys,A=⟨g,0,none⟩/\own g=p.lb/\w.heap[g]?=some (.cells cur tid (0,0))/\ys=cur.toList.take (n*e.size)/\Rep own w (.arr n e) xs q ys:=by
 simp only[Rep,List.cons.injEq,and_true,Value.slice.injEq,Option.some.injEq,reduceCtorEq,false_and,false_or]at h;obtain⟨g,cap,cur,⟨rfl,rfl,rfl⟩,ho,hg,hc1,hc2,hc3,he⟩:=h;have hsz:xs.length*e.size<=cur.size:=by rw[hc3];exact Nat.mul_le_mul_right _ hc1
 have hlen:(cur.toList.take (xs.length*e.size)).length=xs.length*e.size:=by rw[List.length_take,Array.length_toList];exact Nat.min_eq_left hsz
 have hel:∀(i:Nat)(y:e.den),xs[i]?=some y->Rep own w e y q (((cur.toList.take (xs.length*e.size)).drop (i*e.size)).take e.size):=by
   intro i y hy;have hi:=(List.getElem?_eq_some_iff.1 hy).1;have h1:i*e.size+e.size<=xs.length*e.size:=by
     have:=Nat.mul_le_mul_right e.size (Nat.succ_le_of_lt hi);rw[Nat.succ_mul]at this;exact this
   rw[List.drop_take,List.take_take];rw[Nat.min_eq_left (by omega)];exact Rep.plain (fun _ h=>⟨h,rfl⟩) q hp (he i y hy)
 refine⟨g,cur,_,rfl,ho,hg,rfl,hp,rfl,hlen,Zhb hlen fun i hi=>?_,hel⟩;obtain⟨y,hy⟩:∃y,xs[i]?=some y:=⟨xs[i],List.getElem?_eq_getElem hi⟩
 exact(hel i y hy).one
def pn:List Bool->List Nat
 |[]=>[]
 |false::p=>0::pn p
 |true::p=>1::pn p
def Pos.at(q:Pos):List Bool->Pos
 |[]=>q
 |false::p=>(q.go 0).at p
 |true::p=>(q.go 1).at p
theorem Pos.at_low(o:Id):∀(p:List Bool)(s:List Nat),(⟨o,s,false⟩:Pos).at p=⟨o,s++pn p,false⟩
 |[],s=>by simp[Pos.at,pn]
 | false::p,s=>by
   show Pos.at ⟨o,s++[0],false⟩ p=_
   rw[Pos.at_low o p];simp[pn]
 | true::p,s=>by
   show Pos.at ⟨o,s++[1],false⟩ p=_
   rw[Pos.at_low o p];simp[pn]
theorem Z1t:∀{e:Ty}{x:e.den}{p:List Bool}{K:(tid:Nat)->(e2:Ty)->List e2.den->Option ρ}{r:ρ},Z3w e x p K=some r->
   ∃ tid e2 ys,K tid e2 ys=some r/\subT e p=some (.own tid e2)/\(∀{σ:Type}(K':(tid:Nat)->(e2:Ty)->List e2.den->Option σ),Z3w e x p K'=K' tid e2 ys)/\
     ∀{own:Own}{w:World}{q:Pos}{cs:List Value},Rep own w e x q cs->∃c1 u c3,cs=c1++(u::c3)/\c1.length=offT e p/\Rep own w (.own tid e2) ys (q.at p) [u]
 |.own tid e2,xs,[],K,r,h=>⟨tid,e2,xs,h,rfl,fun _=>rfl,fun {own w q cs} hr=>by
     have hl:=hr.length
     match cs,hl with
     |[u],_=>exact⟨[],u,[],rfl,rfl,hr⟩⟩
 | .pair a b,x,false::p,K,r,h=>by
   obtain⟨tid,e2,ys,h,hs,he,hr⟩:=Z1t (e:=a) h;refine⟨tid,e2,ys,h,hs,he,fun {own w q cs} hx=>?_⟩;obtain⟨d1,d2,rfl,h1,h2⟩:=hx;obtain⟨c1,u,c3,rfl,hl,hu⟩:=hr h1;exact⟨c1,u,c3++d2,by simp,hl,hu⟩
 | .pair a b,x,true::p,K,r,h=>by
   obtain⟨tid,e2,ys,h,hs,he,hr⟩:=Z1t (e:=b) h;refine⟨tid,e2,ys,h,hs,he,fun {own w q cs} hx=>?_⟩;obtain⟨d1,d2,rfl,h1,h2⟩:=hx;obtain⟨c1,u,c3,rfl,hl,hu⟩:=hr h2;exact⟨d1++c1,u,c3,by simp,by simp only[List.length_append,offT,hl,h1.length];rfl,hu⟩
 |.pair _ _,_,[],_,_,h=>by simp only[Z3w]at h;cases h
 |.int _,_,p,_,_,h=>by cases p<;>cases h
 |.bool,_,p,_,_,h=>by cases p<;>cases h
 |.str,_,p,_,_,h=>by cases p<;>cases h
 |.unit,_,p,_,_,h=>by cases p<;>cases h
 |.slc _,_,p,_,_,h=>by cases p<;>cases h
 |.sptr _,_,p,_,_,h=>by cases p<;>cases h
 |.own _ _,_,_::_,_,_,h=>by cases h
 |.bx _,_,p,_,_,h=>by cases p<;>cases h
 |.hole _,_,p,_,_,h=>by cases p<;>cases h
 |.arr _ _,_,p,_,_,h=>by cases p<;>cases h
 |.mp _ _ _,_,p,_,_,h=>by cases p<;>cases h
 |.nilp,_,p,_,_,h=>by cases p<;>cases h
 |.fo,_,p,_,_,h=>by cases p<;>cases h
 |.hdr,_,p,_,_,h=>by cases p<;>cases h
 |.clo _ _,_,p,_,_,h=>by cases p<;>cases h
theorem Z6k:∀{p:List Bool}{e:Ty}{x:e.den}{K:AV->Option ρ}{r:ρ},getF (.v e x) p K=some r->
   ∃ u z,K (.v u z)=some r/\subT e p=some u/\getF (.v e x) p some=some (.v u z)/\
     ∀{own:Own}{w:World}{q:Pos}{cs:List Value},Rep own w e x q cs->∃c1 c2 c3,cs=c1++(c2++c3)/\c1.length=offT e p/\Rep own w u z (q.at p) c2
 |[],e,x,K,r,h=>⟨e,x,by cases e<;>exact h,by cases e<;>rfl,by cases e<;>rfl,fun {own w q cs} hr=>⟨[],cs,[],by simp,by cases e<;>rfl,hr⟩⟩
 | f ::p,e,x,K,r,h=>by
   cases e
   case pair a b=>
     cases f
     . simp only[getF]at h;obtain⟨u,z,h,h1,h2,hr⟩:=Z6k h;refine⟨u,z,h,h1,h2,fun {own w q cs} hx=>?_⟩;obtain⟨d1,d2,rfl,r1,r2⟩:=hx;obtain⟨c1,c2,c3,rfl,hl,hu⟩:=hr r1;exact⟨c1,c2,c3++d2,by simp,hl,hu⟩
     . simp only[getF]at h;obtain⟨u,z,h,h1,h2,hr⟩:=Z6k h;refine⟨u,z,h,h1,h2,fun {own w q cs} hx=>?_⟩;obtain⟨d1,d2,rfl,r1,r2⟩:=hx;obtain⟨c1,c2,c3,rfl,hl,hu⟩:=hr r2;exact⟨d1++c1,c2,c3,by simp,by simp only[List.length_append,offT,hl,r1.length];rfl,hu⟩
   all_goals(simp only[getF]at h;cases h)
theorem Zel {p:List Bool}{e:Ty}{x:e.den}{K:(u:Ty)->u.den->Option ρ}{r:ρ}(h:(getF (.v e x) p fun b=>match b with|.v u z=>K u z| _=>none)=some r):
   ∃ u z,K u z=some r/\subT e p=some u/\getF (.v e x) p some=some (.v u z)/\
     ∀{own:Own}{w:World}{q:Pos}{cs:List Value},Rep own w e x q cs->∃c1 c2 c3,cs=c1++(c2++c3)/\c1.length=offT e p/\Rep own w u z (q.at p) c2:=by
 obtain⟨u,z,h,h1,h2,h3⟩:=Z6k h;exact⟨u,z,h,h1,h2,h3⟩
theorem Rep.sub:∀{p:List Bool}{e u:Ty}{x:e.den}{q:Pos}{cs:List Value},subT e p=some u->Rep own w e x q cs->∃z c1 c2 c3,cs=c1++(c2++c3)/\c1.length=offT e p/\Rep own w u z (q.at p) c2
 | [],e,u,x,q,cs,h,hr=>by
   have h:some e=some u:=by cases e<;>exact h
   cases h;exact⟨x,[],cs,[],by simp,by cases e<;>rfl,hr⟩
 | f ::p,e,u,x,q,cs,h,hr=>by
   cases e
   case pair a b=>
     obtain⟨d1,d2,rfl,r1,r2⟩:=hr;cases f
     . obtain⟨z,c1,c2,c3,rfl,hl,hu⟩:=Rep.sub (e:=a) h r1;exact⟨z,c1,c2,c3++d2,by simp,hl,hu⟩
     . obtain⟨z,c1,c2,c3,rfl,hl,hu⟩:=Rep.sub (e:=b) h r2;exact⟨z,d1++c1,c2,c3,by simp,by simp only[List.length_append,offT,hl,r1.length];rfl,hu⟩
   all_goals(cases f<;>cases h)
theorem Z1b {tid:Nat}{e:Ty}{xs:List e.den}{p:Pos}{A:Addr}{m c i:Nat}{y:e.den}(h:Rep own w (.own tid e) xs p [.slice (some A) m c])(hy:xs[i]?=some y):
   ∃ g cur cap,A=⟨g,0,none⟩/\m=xs.length/\own g=p.lb/\w.heap[g]?=some (.cells cur tid (0,0))/\xs.length<=cap/\cap<=maxLen/\cur.size=cap*e.size/\c=cap/\i*e.size+e.size<=cur.size/\
     Rep own w e y (p.el i) ((cur.toList.drop (i*e.size)).take e.size):=by
 simp only[Rep,List.cons.injEq,and_true,Value.slice.injEq,Option.some.injEq,reduceCtorEq,false_and,false_or]at h;obtain⟨g,cap,cur,⟨rfl,rfl,rfl⟩,ho,hg,hc1,hc2,hc3,he⟩:=h;have hi:=(List.getElem?_eq_some_iff.1 hy).1;refine⟨g,cur,_,rfl,rfl,ho,hg,hc1,hc2,hc3,rfl,?_,he i y hy⟩;have:=Nat.mul_le_mul_right e.size (show i+1<=c by omega);rw[Nat.succ_mul]at this;omega
theorem Zem {tid:Nat}{e:Ty}{xs:List e.den}{p:Pos}{g m c:Nat}{cur:Array Value}(h:Rep own w (.own tid e) xs p [.slice (some ⟨g,0,none⟩) m c])(hg:w.heap[g]?=some (.cells cur tid (0,0)))(i:Nat)(y:e.den)(hy:xs[i]?=some y):Rep own w e y (p.el i) ((cur.toList.drop (i*e.size)).take e.size):=by
 obtain⟨g',cur',cap,hA,_,_,hg',_,_,_,_,_,hel⟩:=Z1b h hy;cases hA;rw[hg]at hg';cases hg';exact hel
theorem Z4e {g:Nat}{cur:Array Value}{tid:TypeId}{i s:Nat}{c1 c2 c3:List Value}(hg:w.heap[g]?=some (.cells cur tid (0,0)))(h:(cur.toList.drop (i*s)).take s=c1++(c2++c3)):
   CellsAt w (((⟨g,0,none⟩:Addr).add (i*s)).add c1.length) c2:=by
 rw[Zx,Zx,Nat.zero_add];intro q v hq;rw[cell_row hg];have h1:((cur.toList.drop (i*s)).take s)[c1.length+q]?=some v:=by
   rw[h,List.getElem?_append_right (by omega),Nat.add_sub_cancel_left,List.getElem?_append_left (List.getElem?_eq_some_iff.1 hq).1];exact hq
 rw[List.getElem?_take]at h1;split at h1
 . rw[List.getElem?_drop]at h1;rw[show i*s+c1.length+q=i*s+(c1.length+q) by omega];simpa using h1
 . cases h1
theorem Z2b {g:Nat}{cur:Array Value}{tid:TypeId}{i s:Nat}{c1 c3:List Value}{u:Value}(hg:w.heap[g]?=some (.cells cur tid (0,0)))(h:(cur.toList.drop (i*s)).take s=c1++(u::c3)):
   w.cell? (((⟨g,0,none⟩:Addr).add (i*s)).add c1.length)=some u:=by
 rw[Zx,Zx,Nat.zero_add];have h0:(⟨g,i*s+c1.length,none⟩:Addr)=(⟨g,0,none⟩:Addr).add (i*s+c1.length):=by rw[Zx,Nat.zero_add]
 rw[h0,cell_row hg,Nat.zero_add];have h1:((cur.toList.drop (i*s)).take s)[c1.length]?=some u:=by rw[h];simp
 rw[List.getElem?_take]at h1;split at h1
 . simpa[List.getElem?_drop]using h1
 . cases h1
theorem vwK_some:∀{k:Nat}{a:AV}{cs:List Value}{O:Obs}{K:(t:Ty)->t.den->Bool->Option ρ}{r:ρ},AVc own w G a cs->Objs own w G O->vwK k a O K=some r->
   ∃ t x c,K t x c=some r/\∀{own':Own}{w':World}{p:Pos},Sealed own w own' w'->(c=true->∀g o s,own g=.ob o s->has O o=true->own' g=.sh/\w'.heap[g]?=w.heap[g]?)->
     t.plain=true->Rep own' w' t x p cs
 |0,_,_,_,_,_,_,_,hk=>by simp only[vwK]at hk;cases hk
 |k+1,.dead,_,_,_,_,h,_,_=>h.elim
 |k+1,.tn,_,_,_,_,h,_,_=>h.elim
 |k+1,.tp _ _,_,_,_,_,h,_,_=>h.elim
 |k+1,.hole _,_,_,_,_,_,_,hk=>by simp only[vwK]at hk;cases hk
 | k+1,.v t x,cs,O,K,r,h,hO,hk=>by
   simp only[vwK]at hk;exact⟨t,x,false,hk,fun hs _ hp=>Rep.plain hs _ hp h.2⟩
 | k+1,.pr a b,cs,O,K,r,h,hO,hk=>by
   simp only[vwK]at hk;obtain⟨c1,c2,rfl,h1,h2⟩:=h;obtain⟨t,x,c,hk,m1⟩:=vwK_some h1 hO hk;obtain⟨u,y,d,hk,m2⟩:=vwK_some h2 hO hk;refine⟨_,_,_,hk,fun hs hc hp=>?_⟩;simp only[Ty.plain,Bool.and_eq_true]at hp;exact⟨c1,c2,rfl,m1 hs (fun e=>hc (by rw[e];rfl)) hp.1,m2 hs (fun e=>hc (by rw[e];cases c<;>rfl)) hp.2⟩
 | k+1,.ref o,cs,O,K,r,h,hO,hk=>by
   simp only[vwK]at hk;split at hk
   . rename_i tid e xs hl;obtain⟨hsz,_,hr⟩:=hO o _ hl;obtain⟨rfl,_⟩:=h;exact⟨_,_,_,hk,fun hs hc hp=>Rep.sealOwn hs _ hp (Sl.ob fun g s hg=>hc rfl g o s hg (Z1 hl)) hr⟩
   . cases hk
 | k +1,.hs o lo n,cs,O,K,r,h,hO,hk=>by
   simp only[vwK]at hk;split at hk
   . rename_i tid e xs hl;obtain⟨hsz,_,hr⟩:=hO o _ hl;obtain⟨B,m,c,B',c',hv,rfl,h1,h2,h3,_,h4⟩:=h;refine⟨_,_,_,hk,fun {own' w' p} hs hc hp=>?_⟩;rw[hv]at hr;have hp':e.sh.plain=true:=hp;have h5:=Rep.sealOwn hs (p:=⟨o,[],true⟩) p hp' (Sl.ob fun g s hg=>hc rfl g o s hg (Z1 hl)) hr;have h6:=h5.part (lo:=lo) (n:=n) (B':=B') (c':=c') h1 h2 h3 (by rw[Z5e,<-hsz];exact h4);have e1:toSh (.slc e) ((xs.drop lo).take n)=_:=Zgf e xs lo n;show Rep _ _ (.slc e.sh) _ _ _
     exact e1▸h6
   . cases hk
 | k+1,.s o i (.hd fp n),cs,O,K,r,h,hO,hk=>by
   simp only[vwK]at hk;split at hk
   . rename_i tid e xs hl;obtain⟨hof,hk⟩:=Z0 hk;have hof:=Z2 hof;obtain⟨y,hy,hk⟩:=bind_some hk;obtain⟨tid2,e2,ys,hk,_,_,hrep⟩:=Z1t hk;obtain⟨hsz,_,hr⟩:=hO o _ hl;obtain⟨_,A,m,c,u,hv,hi,hu,rfl,_⟩:=h;refine⟨_,_,_,hk,fun hs hc hp=>?_⟩;rw[hv]at hr;obtain⟨g,cur,cap,rfl,rfl,ho,hg,_,_,_,rfl,_,hel⟩:=Z1b hr hy;obtain⟨c1,u',c3,hcs,hl1,hu'⟩:=hrep hel;have hu2:=Z2b hg hcs;rw[hl1,hof,<-hsz,hu]at hu2;cases hu2;refine Rep.sealOwn hs _ hp ?_ hu';rw[show((⟨o,[],true⟩:Pos).el i)=⟨o,[i],false⟩from rfl,Pos.at_low];exact Sl.sub fun g r hg=>hc rfl g o _ hg (Z1 hl)
   . cases hk
 |k+1,.s _ _ (.el _ _ _ _),_,_,_,_,_,_,hk=>by simp only[vwK]at hk;cases hk
 |k+1,.s _ _ (.bx _ _),_,_,_,_,_,_,hk=>by simp only[vwK]at hk;cases hk
 | k +1,.e o i fp n,cs,O,K,r,h,hO,hk=>by
   simp only[vwK]at hk;split at hk
   . rename_i tid e xs hl;obtain⟨hof,hk⟩:=Z0 hk;have hof:=Z2 hof;obtain⟨y,hy,hk⟩:=bind_some hk;obtain⟨u,z,hk,_,_,hrep⟩:=Zel hk;obtain⟨hsz,_,hr⟩:=hO o _ hl;obtain⟨A,m,c,hv,hi,rfl⟩:=h;refine⟨_,_,_,hk,fun {own' w' p} hs hc hp=>?_⟩;rw[hv]at hr;obtain⟨g,cur,cap,rfl,rfl,ho,hg,_,_,_,rfl,_,hel⟩:=Z1b hr hy;obtain⟨c1,c2,c3,hcs,hl1,hu'⟩:=hrep hel;have hp':u.sh.plain=true:=hp;have hsh:=hc rfl g o [] ho (Z1 hl);show Rep own' w' (.sptr u.sh) (toSh u z) p _
     refine⟨hp',_,c2,rfl,?_,?_,?_⟩
     . rw[hsz,Zx,Zx];exact hsh.1
     . rw[hsz,<-hof,<-hl1];exact Z4e (hsh.2.trans hg) hcs
     . refine Rep.sealUp hs _ hp' ?_ hu';rw[show((⟨o,[],true⟩:Pos).el i)=⟨o,[i],false⟩from rfl,Pos.at_low];exact Sl.sub fun g r hg=>hc rfl g o _ hg (Z1 hl)
   . cases hk
 | k+1,.p o fp off,cs,O,K,r,h,hO,hk=>by
   simp only[vwK]at hk;split at hk
   . rename_i a hl;obtain⟨hoff,hk⟩:=Z0 hk;have hoff:=Z2 hoff;obtain⟨_,g,cur,T,hv,ho,hg,hc⟩:=hO o _ hl;obtain⟨g',hv',rfl⟩:=h;rw[hv]at hv';cases hv';obtain⟨b,c1,c2,c3,hk,hcur,hlen,hb,_⟩:=Z1l (P:=fun _=>True) hc (AV.men.all _) hk;obtain⟨t,x,c,hk,m1⟩:=vwK_some hb hO hk;refine⟨_,_,_,hk,fun hs hc hp=>?_⟩;have hsh:=hc rfl g o [] ho (Z1 hl);refine⟨hp,⟨g,off,none⟩,c2,rfl,hsh.1,?_,m1 hs (fun _=>hc rfl) hp⟩;have:=CellsAt.row (o:=off) (hsh.2.trans hg) c2.length;rw[hcur,<-hoff,<-hlen]at this;simpa[hlen,hoff]using this
   . cases hk
 | k+1,.ap o n,cs,O,K,r,h,hO,hk=>by
   simp only[vwK]at hk;split at hk
   . rename_i tid e xs hl;obtain⟨he,hk⟩:=Z0 hk;obtain⟨_,_,hr⟩:=hO o _ hl;obtain⟨A,c,hv,rfl⟩:=h;rw[hv]at hr;refine⟨_,_,_,hk,fun {own' w' p} hs hc hp=>?_⟩;obtain⟨g,cur,ys,rfl,ho,hg,rfl,hra⟩:=Z8p p he hr;have hsh:=hc rfl g o [] ho (Z1 hl);refine⟨hp,_,_,rfl,hsh.1,?_,Rep.plain hs _ (t:=.arr n e) hp hra⟩;have:=CellsAt.row (o:=0) (hsh.2.trans hg) (n*e.size);simpa using this
   . cases hk
 | k+1,.cl f a,cs,O,K,r,h,hO,hk=>by
   simp only[vwK]at hk;obtain⟨vs,rfl,h⟩:=h;obtain⟨t,x,c,hk,m1⟩:=vwK_some h hO hk;exact⟨_,_,_,hk,fun hs hc hp=>⟨hp,vs,rfl,m1 hs hc hp⟩⟩
where
 AV.men.all:∀a:AV,a.men fun _=>True
   |.dead=>trivial
   |.v _ _=>trivial
   |.pr a b=>⟨AV.men.all a,AV.men.all b⟩
   |.hole _=>trivial
   |.ref _=>trivial
   |.hs _ _ _=>trivial
   |.p _ _ _=>trivial
   |.e _ _ _ _=>trivial
   |.s _ _ _=>trivial
   |.ap _ _=>trivial
   |.cl _ a=>AV.men.all a
   |.tn=>trivial
   |.tp a b=>⟨AV.men.all a,AV.men.all b⟩
end Go.Pv
namespace Go.Pv
open Go
variable {own own':Own}{w w':World}{G G':Gs}{ρ:Type}
structure Post (own own':Own) (w w':World) (G G':Gs) (O O':Obs) (b:Bool):Prop where
 objs:Objs own' w' G' O'
 stay:b=false->∀o,has O o=true->has O' o=true
 same:∀o,has O o=true->has O' o=true->G' o=G o
 nest:b=false->∀o,has O o=true->(G o).nest=true->Z30 w w' (G o).v
 box:∀P:Id->Prop,(∀o c,look O o=some (.box c)->c.men P)->∀o c,look O' o=some (.box c)->c.men fun i=>P i\/has O' i=true
 sealed:Sealed own w own' w'
 outs:∀g,g<w.heap.size->own g=.out->own' g=.out/\w'.heap[g]?=w.heap[g]?
 bound:∀g,w'.heap.size<=g->own' g=.out
 size:w.heap.size<=w'.heap.size
 os:w'.os=w.os
 tape:w'.tape=w.tape
 output:w'.output=w.output
theorem Post.refl {O:Obs}(hO:Objs own w G O)(hbd:∀g,w.heap.size<=g->own g=.out):Post own own w w G G O O false where
 objs:=hO
 stay:=fun _ _ h=>h
 same:=fun _ _ _=>rfl
 nest:=fun _ _ _ _ _ _=>rfl
 box:=fun _ hb o c hc=>(hb o c hc).mono fun _ h=>.inl h
 sealed:=fun _ h=>⟨h,rfl⟩
 outs:=fun _ _ h=>⟨h,rfl⟩
 bound:=hbd
 size:=Nat.le_refl _
 os:=rfl
 tape:=rfl
 output:=rfl
def setA {α:Type}(l:List α)(i:Nat)(a:α):List α:=Z4u l i a id
theorem Z33 {α:Type}:∀(l:List α)(i:Nat)(a:α){ρ:Type}(K:List α->ρ),Z4u l i a K=K (setA l i a)
 |[],_,_,_,_=>rfl
 | _::_,0,_,_,_=>rfl
 | b::l,n+1,a,_,K=>by
   simp only[setA,Z4u];rw[Z33 l,Z33 l];rfl
theorem Z13 {α:Type}(b:α)(l:List α)(n:Nat)(a:α):setA (b::l) (n+1) a=b::setA l n a:=by
 simp only[setA,Z4u];rw[Z33];rfl
theorem Zcf {α:Type}:∀(l:List α)(i:Nat)(a:α),(setA l i a).length=l.length
 |[],_,_=>rfl
 | _::_,0,_=>rfl
 |b::l,n+1,a=>by rw[Z13];simp[Zcf l n a]
theorem Z4z {α:Type}:∀(l:List α)(i j:Nat)(a:α),nth (setA l i a) j=if j=i/\i<l.length then some a else nth l j
 |[],i,j,a=>by cases j<;>simp[setA,Z4u,nth]
 | _::_,0,0,a=>by simp[setA,Z4u,nth]
 | _::_,0,j+1,a=>by simp[setA,Z4u,nth]
 |b::l,n+1,0,a=>by rw[Z13];simp[nth]
 | b::l,n+1,j+1,a=>by
   rw[Z13];simp only[nth];rw[Z4z l n j a];simp
theorem Z40 {α:Type}:∀{l:List α}{i:Nat}{a b:α},b∈setA l i a->b=a\/b∈l
 |[],_,_,_,h=>by simp[setA,Z4u]at h
 | c::l,0,a,b,h=>by
   simp only[setA,Z4u,id,List.mem_cons]at h;rcases h with h|h
   . exact .inl h
   . exact .inr (List.mem_cons_of_mem _ h)
 | c ::l,n+1,a,b,h=>by
   rw[Z13]at h;rcases List.mem_cons.1 h with h|h
   . exact .inr (h▸List.mem_cons_self)
   . rcases Z40 h with h|h
     . exact .inl h
     . exact .inr (List.mem_cons_of_mem _ h)
theorem Z3g {α:Type}:∀{l:List α}{i:Nat}{a:α},nth l i=some a->a∈l
 |[],i,_,h=>by cases i<;>simp[nth]at h
 | _::_,0,_,h=>by simp only[nth,Option.some.injEq]at h;exact h▸List.mem_cons_self
 | _::l,n+1,_,h=>by simp only[nth]at h;exact List.mem_cons_of_mem _ (Z3g h)
def St.set(σ:St)(d:Option Nat)(a:AV):St:=match d with|some d=>⟨setA σ.s d a,σ.o⟩|none=>σ
theorem Zbh(a:AV)(K:AV->ρ):avK a K=K a:=by cases a<;>rfl
theorem St.putK_eq(σ:St)(d:Option Nat)(a:AV)(K:St->ρ):σ.putK d a K=K (σ.set d a):=by
 cases d with
 |none=>rfl
 | some d=>
   obtain⟨s,o⟩:=σ;simp only[St.putK,Zbh,St.setK,Z33];rfl
theorem SR.slots[Base]{act:Act}{σ:St}{O':Obs}(h:SR own w G act.tmps σ){d:Option Nat}{a:AV}{v:Value}:
   ∀i c,nth ((⟨σ.s,O'⟩:St).set d a).s i=some c->(c=a/\(act.put d v).tmps.getD i undef=v)\/(nth σ.s i=some c/\(act.put d v).tmps.getD i undef=act.tmps.getD i undef):=by
 intro i c hc;cases d with
 |none=>exact .inr ⟨hc,rfl⟩
 | some d=>
   simp only[St.set,Z4z]at hc;simp only[Act.put];split at hc
   . rename_i hi;cases hc;left;refine⟨rfl,?_⟩;have:d<act.tmps.size:=by rw[<-h.len];exact hi.2
     rw[hi.1];simp[Array.getD_eq_getD_getElem?,this]
   . rename_i hi;right;refine⟨hc,?_⟩;by_cases hid:i=d
     . subst hid;have:¬i<act.tmps.size:=by rw[<-h.len];exact fun hlt=>hi ⟨rfl,hlt⟩
       simp[Array.getD_eq_getD_getElem?,this]
     . simp[Array.getD_eq_getD_getElem?,Array.getElem?_setIfInBounds_ne (Ne.symm hid)]
theorem Z41(act:Act)(d:Option Nat)(v:Value):(act.put d v).tmps.size=act.tmps.size:=by cases d<;>simp[Act.put]
theorem Z4f(σ:St)(d:Option Nat)(a:AV):(σ.set d a).s.length=σ.s.length:=by cases d<;>simp[St.set,Zcf]
theorem Z2k(σ:St)(d:Option Nat)(a:AV):(σ.set d a).o=σ.o:=by cases d<;>rfl
theorem Sealed.refl(own:Own)(w:World):Sealed own w own w:=fun _ h=>⟨h,rfl⟩
theorem SR.next[Base]{act:Act}{σ:St}{O':Obs}(h:SR own w G act.tmps σ)(hp:Post own own' w w' G G' σ.o O' false){d:Option Nat}{a:AV}{v:Value}(ha:AVv own' w' G' a v)
   (hm:a.men fun i=>has O' i=true):SR own' w' G' (act.put d v).tmps ((⟨σ.s,O'⟩:St).set d a) where
 len:=by rw[Z4f,Z41];exact h.len
 slot:=by
   intro i c hc;rcases h.slots (d:=d) (a:=a) (v:=v) i c hc with⟨rfl,hv⟩|⟨hn,hv⟩
   . rw[hv];exact ha
   . rw[hv];refine AVv.keep hp.sealed (P:=fun o=>has σ.o o=true) (fun o ho=>⟨hp.same o ho (hp.stay rfl o ho),hp.nest rfl o ho⟩) (h.closed.1 c (Z3g hn)) (h.slot i c hn)
 objs:=by rw[Z2k];exact hp.objs
 closed:=by
   refine⟨fun c hc=>?_,fun o c hc=>?_⟩
   . rw[Z2k];have:c=a\/c∈σ.s:=by
       cases d with
       |none=>exact .inr hc
       |some d=>exact Z40 hc
     rcases this with rfl|hc
     . exact hm
     . exact(h.closed.1 c hc).mono fun o ho=>hp.stay rfl o ho
   . rw[Z2k]at hc⊢;exact(hp.box _ h.closed.2 o c hc).mono fun i hi=>by
       rcases hi with hi|hi
       . exact hp.stay rfl i hi
       . exact hi
 bound:=hp.bound
 base:=Base.keep h.base hp.sealed
theorem SR.nextSw[Base]{act:Act}{σ:St}{O':Obs}{b:Bool}(h:SR own w G act.tmps σ)(hp:Post own own' w w' G G' σ.o O' b){d:Option Nat}{a:AV}{v:Value}(ha:AVv own' w' G' a v):
   SR own' w' G' (act.put d v).tmps ((⟨σ.s,O'⟩:St).set d a).sw where
 len:=by simp only[St.sw,List.length_map];rw[Z4f,Z41];exact h.len
 slot:=by
   intro i c hc;simp only[St.sw,Z6j,Option.map_eq_some_iff]at hc;obtain⟨c0,hc0,rfl⟩:=hc;rw[Z2k];rcases h.slots (d:=d) (a:=a) (v:=v) i c0 hc0 with⟨rfl,hv⟩|⟨hn,hv⟩
   . rw[hv];exact AVv.sweep (Sealed.refl _ _) (P:=fun _=>True) (fun _ _ _=>rfl) (vwK_some.AV.men.all _) ha
   . rw[hv];exact AVv.sweep hp.sealed (P:=fun o=>has σ.o o=true) (fun o ho ho'=>hp.same o ho ho') (h.closed.1 c0 (Z3g hn)) (h.slot i c0 hn)
 objs:=by
   intro o ob hob;simp only[St.sw,Z2k]at hob⊢;rw[Z5i]at hob;obtain⟨b0,hb0,rfl⟩:=Option.map_eq_some_iff.1 hob;have h0:=hp.objs o b0 hb0;cases b0 with
   |list t e xs=>exact h0
   |map t k v es=>exact h0
   | box c=>
     obtain⟨hn,g,cur,T,h1,h2,h3,h4⟩:=h0;exact⟨⟨hn.1,Z6i _ _ hn.2⟩,g,cur,T,h1,h2,h3,AVc.sweep (Sealed.refl _ _) (P:=fun _=>True) (fun _ _ _=>rfl) (vwK_some.AV.men.all _) h4⟩
 closed:=St.sw_closed _
 bound:=hp.bound
 base:=Base.keep h.base hp.sealed
structure Keeps (own own':Own) (w w':World):Prop where
 sealed:Sealed own w own' w'
 outs:∀g,g<w.heap.size->own g=.out->own' g=.out/\w'.heap[g]?=w.heap[g]?
 size:w.heap.size<=w'.heap.size
 os:w'.os=w.os
 tape:w'.tape=w.tape
 output:w'.output=w.output
theorem Post.keeps {O O':Obs}{b:Bool}(h:Post own own' w w' G G' O O' b):Keeps own own' w w':=⟨h.sealed,h.outs,h.size,h.os,h.tape,h.output⟩
theorem Keeps.refl(own:Own)(w:World):Keeps own own w w:=⟨.refl _ _,fun _ _ h=>⟨h,rfl⟩,Nat.le_refl _,rfl,rfl,rfl⟩
theorem Keeps.trans {own2:Own}{w2:World}(h:Keeps own own' w w')(h2:Keeps own' own2 w' w2):Keeps own own2 w w2 where
 sealed:=fun g hg=>⟨(h2.sealed g (h.sealed g hg).1).1,(h2.sealed g (h.sealed g hg).1).2.trans (h.sealed g hg).2⟩
 outs:=fun g hl hg=>by
   have h1:=h.outs g hl hg;have h3:=h2.outs g (Nat.lt_of_lt_of_le hl h.size) h1.1;exact⟨h3.1,h3.2.trans h1.2⟩
 size:=Nat.le_trans h.size h2.size
 os:=h2.os.trans h.os
 tape:=h2.tape.trans h.tape
 output:=h2.output.trans h.output
end Go.Pv
namespace Go.Pv
open Go
variable {own own':Own}{w w':World}{G G':Gs}{ρ:Type}{E:Env}
def TDok:TD->TypeDesc->Prop
 |.int k,d=>d=.int k
 |.bool,d=>d=.bool
 |.str,d=>d=.string
 |.slice e,d=>d=.slice e
 |.array n e,d=>d=.array n e
 |.map k e,d=>d=.map k e
 |.ptr e,d=>d=.pointer e
 |.struct fs,d=>∃fields,d=.struct fields/\(fields.toList.map fun f=>(f.offset,f.type))=fs
 |.other,_=>True
def litL {α:Type}(f:α->Option (List Value)):List α->Option (List Value)
 |[]=>some []
 | x::l=>match f x,litL f l with
   |some c,some d=>some (c++d)
   | _,_=>none
def litC:(t:Ty)->t.den->Option (List Value)
 |.int k,n=>nif (decide (k.min<=n)&&decide (n<=k.max)) (some [.int k n]) none
 |.bool,b=>some [.bool b]
 |.str,s=>nif (Nat.ble s.size 1000000) (some [.string s]) none
 |.unit,_=>some []
 | .pair a b,x=>match litC a x.1,litC b x.2 with
   |some c,some d=>some (c++d)
   | _,_=>none
 |.slc e,xs=>nif e.plain (match nlen xs with|0=>some [.slice none 0 0]| _=>none) none
 |.own _ _,xs=>match nlen xs with|0=>some [.slice none 0 0]| _=>none
 |.hole 1,_=>some [.pointer none]
 |.arr n e,xs=>nif e.plain (nif (Nat.beq (nlen xs) n) (litL (litC e) xs) none) none
 |.nilp,_=>some [.pointer none]
 |.fo,xs=>match nlen xs with|0=>some [.slice none 0 0]| _=>none
 |.mp _ k v,es=>nif k.flat (nif v.mvOk (match es with|none=>some [.map none]|some _=>none) none) none
 | _,_=>none
structure TIok (P:Program) (i:TI) (T:TypeId):Prop where
 info:∃inf z cs,P.info? T=some inf/\inf.size=i.size/\inf.bytes=i.bytes/\inf.zero=some z/\litC i.zero.t i.zero.x=some cs/\IsVal i.agg cs z
 zt:i.zero.t.size=i.size
 za:i.zero.t.agg=i.agg
 und:∃d,P.underlying T=some d/\TDok i.d d/\i.agg=(match d with|.struct _|.array _ _=>true| _=>false)
 eqs:i.eq=true->P.eqGuardType P.depth T=false/\P.stoodInHeld T=false/\∀fs,P.underlying T=some (.struct fs)->∀f∈fs.toList,(f.name== "_")=false
def frB(d:Option Nat):List (PM×Ty)->Nat->Bool
 |[],_=>true
 |(m,_)::ps,i=>nif (nif (match m with|.lend=>true|.lendv=>true| _=>false) (match d with|some j=>Nat.beq j i|none=>false) false) false (frB d ps (i+1))
def Z3t(ps:List (PM×Ty)):Code->Bool
 |.region _ ops _=>ops.toList.all fun o=>frB o.dst ps 0
 |.seq a b=>nif (Z3t ps a) (Z3t ps b) false
 |.cond _ a b=>nif (Z3t ps a) (Z3t ps b) false
 |.block _ c=>Z3t ps c
 |.loop c=>Z3t ps c
 | _=>true
structure EnvOk (E:Env):Prop where
 ti:∀T i,E.ti T=some i->TIok E.P i T
 fns:∀key s,E.sg key=some s->∃fn,E.P.funcs[key % 100000]?=some fn/\fn.body.isNone=false/\(fn.name== "runtime.NumGoroutine")=false
 clo:∀g f key,lk2 E.cloL g f=some key->key % 100000=g
 fnOk:∀key fn,E.fn key=some fn->E.P.funcs[key % 100000]?=some fn
 spare:∀key s fn c,E.sg key=some s->E.fn key=some fn->fn.body=some c->Z3t s.ps c=true
theorem Z3h {α:Type}:∀l:List α,nlen l=l.length
 |[]=>rfl
 | _::l=>by simp only[nlen,List.length_cons,Z3h l]
theorem Zcg {t:Ty}{own:Own}{w:World}{p:Pos}(f:t.den->Option (List Value))(hf:∀x cs,f x=some cs->Rep own w t x p cs):
   ∀{xs:List t.den}{cs:List Value},litL f xs=some cs->cs.length=xs.length*t.size/\(∀u∈cs,u.oneCell'=true)/\∀(i:Nat)(y:t.den),xs[i]?=some y->Rep own w t y p ((cs.drop (i*t.size)).take t.size)
 | [],cs,h=>by
   simp only[litL,Option.some.injEq]at h;subst h;exact⟨by simp,by simp,by simp⟩
 | x :: l,cs,h=>by
   simp only[litL]at h;split at h
   . rename_i c d hc hd;cases h;have hx:=hf x c hc;obtain⟨h1,h2,h3⟩:=Zcg f hf hd;have hl:=hx.length;refine⟨by rw[List.length_append,List.length_cons,h1,hl,Nat.succ_mul];omega,fun u hu=>?_,fun i y hy=>?_⟩
     . rcases List.mem_append.1 hu with hu|hu
       . exact hx.one u hu
       . exact h2 u hu
     . cases i with
       | zero=>
         simp only[List.getElem?_cons_zero,Option.some.injEq]at hy;subst hy;simpa[<-hl]using hx
       | succ i=>
         rw[List.getElem?_cons_succ]at hy;have:=h3 i y hy;rw[Nat.succ_mul,Nat.add_comm,<-List.drop_drop,<-hl,List.drop_left,hl];exact this
   . cases h
theorem Zr:∀{t:Ty}{x:t.den}{cs:List Value}{p:Pos},litC t x=some cs->Rep own w t x p cs
 | .int k,n,cs,p,h=>by
   obtain⟨h1,h2⟩:=Z0 h;cases h2;exact⟨rfl,h1⟩
 |.bool,b,cs,p,h=>by cases h;rfl
 | .str,s,cs,p,h=>by
   obtain⟨h1,h2⟩:=Z0 h;cases h2;have:=Nat.le_of_ble_eq_true h1;exact⟨rfl,by simp only[maxLen];omega⟩
 |.unit,_,cs,p,h=>by cases h;rfl
 | .pair a b,x,cs,p,h=>by
   simp only[litC]at h;split at h
   . rename_i c d hc hd;cases h;exact⟨c,d,rfl,Zr hc,Zr hd⟩
   . cases h
 | .slc e,xs,cs,p,h=>by
   obtain⟨h1,h2⟩:=Z0 h;have h3:=Z3h xs;split at h2
   . rename_i h0;cases h2;have hl:xs.length=0:=by rw[<-h3];exact h0
     refine⟨h1,none,0,by rw[hl],by omega,by simp[maxLen],fun i y hy=>?_⟩;rw[List.getElem?_eq_none (by omega)]at hy;cases hy
   . cases h2
 | .own _ e,xs,cs,p,h=>by
   have h3:=Z3h xs;simp only[litC]at h;split at h
   . rename_i h0;cases h;exact .inl ⟨rfl,by rw[<-h3];exact h0⟩
   . cases h
 | .hole 1,_,cs,p,h=>by
   simp only[litC]at h;cases h;exact⟨rfl,by simp[Value.oneCell']⟩
 |.hole 0,_,_,_,h=>by simp[litC]at h
 |.hole (n+2),_,_,_,h=>by simp[litC]at h
 | .arr n e,xs,cs,p,h=>by
   simp only[litC]at h;obtain⟨h0,h⟩:=Z0 h;obtain⟨h1,h⟩:=Z0 h;have h1:=Z2 h1;rw[Z3h]at h1;obtain⟨a1,a2,a3⟩:=Zcg (own:=own) (w:=w) (p:=p) (litC e) (fun _ _ h=>Zr h) h;exact⟨h0,h1,by rw[a1,h1],a2,a3⟩
 |.nilp,_,cs,p,h=>by cases h;rfl
 | .fo,xs,cs,p,h=>by
   have h3:=Z3h xs;simp only[litC]at h;split at h
   . rename_i h0;cases h;have h4:xs.length=0:=by rw[<-h3];exact h0
     have h5:xs=[]:=List.eq_nil_of_length_eq_zero h4;subst h5;exact⟨_,rfl,.mk [] none 0 (fun _=>.bool false) (fun _=>.bool false) (Nat.le_refl _) (by simp[maxLen]) (fun i y hy=>by cases hy) (fun i y hy=>by cases hy) (fun i y hy=>by cases hy) (fun i y hy=>by cases hy)⟩
   . cases h
 |.hdr,_,cs,p,h=>by cases h
 | .mp _ k v,es,cs,p,h=>by
   simp only[litC]at h;obtain⟨h1,h⟩:=Z0 h;obtain⟨h2,h⟩:=Z0 h;split at h
   . cases h;exact⟨h1,h2,.inl ⟨rfl,rfl⟩⟩
   . cases h
 |.clo _ _,_,_,_,h=>by simp[litC]at h
 |.sptr _,_,_,_,h=>by simp[litC]at h
 |.bx _,_,_,_,h=>by simp[litC]at h
theorem AVv.single {t:Ty}{x:t.den}{u:Value}(ha:t.agg=false)(hp:t.plain=true)(h:Rep own w t x ⟨[],[],true⟩ [u]):AVv own w G (.v t x) u:=
 ⟨[u],⟨hp,h⟩,by simp only[AV.agg,ha,IsVal]⟩
theorem AVv.one {a:AV}{v:Value}(hok:a.cel=true)(hg:a.agg=false)(h:AVv own w G a v):AVc own w G a [v]:=by
 obtain⟨cs,h1,h2⟩:=h.cells hok;rw[hg]at h2;simp only[IsVal]at h2;exact h2▸h1
theorem AVv.int {k:IntKind}{n:Int}{v:Value}(h:AVv own w G (.v (.int k) n) v):v=.int k n/\(Lit.int k n).wf=true:=by
 have h1:=(h.one rfl rfl).2;simp only[Rep,List.cons.injEq,and_true]at h1;exact h1
theorem AVv.bool {b:Bool}{v:Value}(h:AVv own w G (.v .bool b) v):v=.bool b:=by
 have h1:=(h.one rfl rfl).2;simp only[Rep,List.cons.injEq,and_true]at h1;exact h1
theorem AVv.str {s:ByteArray}{v:Value}(h:AVv own w G (.v .str s) v):v=.string s/\s.size<=maxLen:=by
 have h1:=(h.one rfl rfl).2;simp only[Rep,List.cons.injEq,and_true]at h1;exact h1
theorem AVv.mkInt {k:IntKind}{n:Int}(h:(Lit.int k n).wf=true):AVv own w G (.v (.int k) n) (.int k n):=.single rfl rfl ⟨rfl,h⟩
theorem AVv.mkBool {b:Bool}:AVv own w G (.v .bool b) (.bool b):=.single rfl rfl rfl
theorem AVv.mkStr {s:ByteArray}(h:s.size<=maxLen):AVv own w G (.v .str s) (.string s):=.single rfl rfl ⟨rfl,h⟩
theorem SR.ev[Base]{act:Act}{σ:St}(h:SR own w G act.tmps σ)(x:Operand):AVv own w G (σ.ev x) (act.eval x)/\(σ.ev x).men fun o=>has σ.o o=true:=by
 cases x with
 | tmp t=>
   simp only[St.ev,St.get,Act.eval];cases e:nth σ.s t with
   |none=>exact⟨trivial,trivial⟩
   |some a=>exact⟨h.slot t a e,h.closed.1 a (Z3g e)⟩
 | const v=>
   cases v with
   | int k n=>
     simp only[St.ev,Act.eval];cases e:(decide (k.min<=n)&&decide (n<=k.max))
     . exact⟨trivial,trivial⟩
     . exact⟨.mkInt e,trivial⟩
   |bool b=>exact⟨.mkBool,trivial⟩
   | string s=>
     simp only[St.ev,Act.eval];cases e:Nat.ble s.size 1000000
     . exact⟨trivial,trivial⟩
     . have:=Nat.le_of_ble_eq_true e;exact⟨.mkStr (by simp only[maxLen];omega),trivial⟩
   | _=>exact⟨trivial,trivial⟩
 |global g=>exact⟨trivial,trivial⟩
 |func f=>exact⟨⟨_,⟨[],rfl,rfl,rfl⟩,rfl⟩,trivial⟩
theorem Z6l {k k':IntKind}(h:Nat.beq (ikN k) (ikN k')=true):k=k':=by
 cases k<;>cases k'<;>first|rfl|cases h
theorem Zhu {k:IntKind}{x y:Int}(h:(Lit.int k x).wf=true):(Lit.int k (x.tmod y)).wf=true:=by
 simp only[Lit.wf,Bool.and_eq_true,decide_eq_true_eq]at h⊢;have h3:=Int.natAbs_tmod x y;have h4:(x.tmod y).natAbs<=x.natAbs:=by rw[h3];exact Nat.mod_le _ _
 have hmin:k.min<=0:=by cases k<;>decide
 have hmax:0<=k.max:=by cases k<;>decide
 rcases Int.le_total 0 x with hx|hx
 . have:=Int.tmod_nonneg y hx;constructor<;>omega
 . have h5:x.tmod y<=0:=by
     have:=Int.tmod_nonneg y (a:=-x) (by omega);rw[Int.neg_tmod]at this;omega
   constructor<;>omega
theorem Zhv {k:IntKind}{x:Int}(h:(Lit.int k x).wf=true)(n:Nat):(Lit.int k (x.fdiv (2^n))).wf=true:=by
 simp only[Lit.wf,Bool.and_eq_true,decide_eq_true_eq]at h⊢;have hmin:k.min<=0:=by cases k<;>decide
 have hmax:0<=k.max:=by cases k<;>decide
 have hp:(0:Int)<2^n:=by exact Int.pow_pos (by decide)
 have e:x.fdiv (2^n)=x/2^n:=by rw[Int.fdiv_eq_ediv_of_nonneg _ (by omega)]
 rw[e];rcases Int.le_total 0 x with hx|hx
 . have h1:=Int.ediv_nonneg hx (show(0:Int)<=2^n by omega);have h2:x/2^n<=x:=Int.ediv_le_self _ hx;constructor<;>omega
 . have h1:x<=x/2^n:=by
     have:=Int.le_ediv_of_mul_le hp (a:=x) (b:=x) (by
       have:x*2^n<=x*1:=Int.mul_le_mul_of_nonpos_left hx (by omega);omega)
     exact this
   have h2:x/2^n<=0:=by
     have:=Int.ediv_le_ediv hp hx;simpa using this
   constructor<;>omega
theorem Zf3 {op:BinOp}{k:IntKind}{x y:Int}{K:AV->Option ρ}{r:ρ}(P:Program)(w:World)(T:TypeId)(hx:(Lit.int k x).wf=true)(hs:op≠.shl/\op≠.shr)(h:intK op k x y K=some r):
   ∃t z v,K (.v t z)=some r/\(binOp op T (.int k x) (.int k y)).run P w=.ok v w/\AVv own w G (.v t z) v:=by
 cases op<;>simp only[intK]at h
 case shl=>exact(hs.1 rfl).elim
 case shr=>exact(hs.2 rfl).elim
 case add=>exact⟨_,_,_,h,by simp[binOp,Op.intArith],.mkInt (wf_wrap _ _)⟩
 case sub=>exact⟨_,_,_,h,by simp[binOp,Op.intArith],.mkInt (wf_wrap _ _)⟩
 case mul=>exact⟨_,_,_,h,by simp[binOp,Op.intArith],.mkInt (wf_wrap _ _)⟩
 case quo=>
   obtain⟨h0,h⟩:=Zbe h;have h0:y≠0:=of_decide_eq_false h0;exact⟨_,_,_,h,by simp[binOp,Op.intDiv,h0],.mkInt (wf_wrap _ _)⟩
 case rem=>
   obtain⟨h0,h⟩:=Zbe h;have h0:y≠0:=of_decide_eq_false h0;exact⟨_,_,_,h,by simp[binOp,Op.intDiv,h0],.mkInt (Zhu hx)⟩
 case and=>exact⟨_,_,_,h,by simp[binOp,Op.intBits,bitsI],.mkInt (wf_wrap _ _)⟩
 case or=>exact⟨_,_,_,h,by simp[binOp,Op.intBits,bitsI],.mkInt (wf_wrap _ _)⟩
 case xor=>exact⟨_,_,_,h,by simp[binOp,Op.intBits,bitsI],.mkInt (wf_wrap _ _)⟩
 case andNot=>exact⟨_,_,_,h,by simp[binOp,Op.intBits,bitsI],.mkInt (wf_wrap _ _)⟩
 case eql=>exact⟨_,_,_,h,by simp[binOp,Op.intCmp],.mkBool⟩
 case neq=>exact⟨_,_,_,h,by simp[binOp,Op.intCmp],.mkBool⟩
 case lss=>exact⟨_,_,_,h,by simp[binOp,Op.intCmp],.mkBool⟩
 case leq=>exact⟨_,_,_,h,by simp[binOp,Op.intCmp],.mkBool⟩
 case gtr=>exact⟨_,_,_,h,by simp[binOp,Op.intCmp],.mkBool⟩
 case geq=>exact⟨_,_,_,h,by simp[binOp,Op.intCmp],.mkBool⟩
theorem Z7b(P:Program)(w:World)(op:BinOp)(T:TypeId)(x y:Operand)(k k':IntKind)(a b:Int):(eqGuard op T x y (.int k a) (.int k' b)).run P w=.ok () w:=by
 unfold eqGuard;cases op<;>rfl
theorem Z7c(P:Program)(w:World)(op:BinOp)(T:TypeId)(x y:Operand)(a b:ByteArray):(eqGuard op T x y (.string a) (.string b)).run P w=.ok () w:=by
 unfold eqGuard;cases op<;>rfl
theorem Z8q(P:Program)(w:World)(op:BinOp)(T:TypeId)(x y:Operand)(a b:Bool):(eqGuard op T x y (.bool a) (.bool b)).run P w=.ok () w:=by
 unfold eqGuard;cases op<;>rfl
theorem Z8r(hE:EnvOk E){T:Nat}(h:Zb6 E T=true):E.P.underlying T=some .bool:=by
 unfold Zb6 at h;split at h
 . rename_i i hi;obtain⟨d,hd,hk,_⟩:=(hE.ti T i hi).und;split at h
   . rename_i e;rw[e]at hk;simp only[TDok]at hk;rw[hd,hk]
   . cases h
 . cases h
theorem Zgg {op:UnOp}{a:AV}{va:Value}{K:AV->Option ρ}{r:ρ}(P:Program)(ha:AVv own w G a va)(h:unK op a K=some r):
   ∃t z v,K (.v t z)=some r/\(Op.unary op va).run P w=.ok v w/\AVv own w G (.v t z) v:=by
 unfold unK at h;split at h
 . obtain rfl:=ha.bool;exact⟨_,_,_,h,by simp[Op.unary],.mkBool⟩
 . obtain⟨rfl,hx⟩:=ha.int;exact⟨_,_,_,h,by simp[Op.unary,Op.intArith],.mkInt (wf_wrap _ _)⟩
 . obtain⟨rfl,hx⟩:=ha.int;exact⟨_,_,_,h,by simp[Op.unary,Op.intBits,bitsI],.mkInt (wf_wrap _ _)⟩
 . cases h
end Go.Pv
namespace Go.Pv
open Go
variable {own own':Own}{w w':World}{G G':Gs}{ρ:Type}{E:Env}
theorem Za7 {P:Program}{T:TypeId}{i:TI}(h:TIok P i T)(w:World):(isAgg T).run P w=.ok i.agg w:=by
 obtain⟨d,hd,_,ha⟩:=h.und;unfold isAgg;simp only[Sem.run_bind,run_underlying hd,Result.andThen_ok];rw[ha];cases d<;>rfl
theorem Z2l {P:Program}{T:TypeId}{i:TI}(h:TIok P i T)(w:World):(sizeOf T).run P w=.ok i.size w:=by
 obtain⟨inf,z,cs,hi,hs,_⟩:=h.info;simp[sizeOf,typeInfo,hi,hs]
theorem IsVal.one {cs:List Value}{i:TI}{P:Program}{T:TypeId}(h:TIok P i T)(hl:cs.length=i.size)(ha:i.agg=false):∃v,cs=[v]:=by
 obtain⟨inf,z,ds,hi,hs,_,_,hz,hv⟩:=h.info;rw[ha]at hv;simp only[IsVal]at hv;have:=(Zr (own:=fun _=>.out) (w:=default) (p:=⟨[],[],true⟩) hz).length;rw[h.zt,hv]at this;simp only[List.length_cons,List.length_nil]at this
 match cs,hl.trans this.symm with
 |[v],_=>exact⟨v,rfl⟩
theorem Z10 {P:Program}{T:TypeId}{i:TI}(h:TIok P i T){A:Addr}{cs:List Value}(hc:CellsAt w A cs)(hl:cs.length=i.size):
   ∃v,(loadVar T A).run P w=.ok v w/\IsVal i.agg cs v:=by
 unfold loadVar;simp only[Sem.run_bind,Za7 h,Result.andThen_ok];cases ha:i.agg
 . obtain⟨v,rfl⟩:=IsVal.one h hl ha;have h0:=hc 0 v rfl;have e:A.add 0=A:=rfl;rw[e]at h0;exact⟨v,by simp[run_load,h0],rfl⟩
 . have h1:=run_loadCells_list (P:=P) w A cs hc;refine⟨.agg cs.toArray,?_,rfl⟩;simp only[Sem.run_bind,Z2l h,Result.andThen_ok,if_true];rw[<-hl,h1];rfl
theorem Z8s:∀(e:Ty)(y:e.den)(p:List Bool),offF (.v e y) p=offT e p
 | _,_,[]=>by unfold offF offT;rfl
 |.pair a b,y,false::p=>by simp only[offF,offT];exact Z8s a y.1 p
 |.pair a b,y,true::p=>by simp only[offF,offT];rw[Z8s b y.2 p]
 |.int _,_,b::_=>by cases b<;>rfl
 |.bool,_,b::_=>by cases b<;>rfl
 |.str,_,b::_=>by cases b<;>rfl
 |.unit,_,b::_=>by cases b<;>rfl
 |.slc _,_,b::_=>by cases b<;>rfl
 |.sptr _,_,b::_=>by cases b<;>rfl
 |.own _ _,_,b::_=>by cases b<;>rfl
 |.bx _,_,b::_=>by cases b<;>rfl
 |.hole _,_,b::_=>by cases b<;>rfl
 |.arr _ _,_,b::_=>by cases b<;>rfl
 |.nilp,_,b::_=>by cases b<;>rfl
 |.fo,_,b::_=>by cases b<;>rfl
 |.hdr,_,b::_=>by cases b<;>rfl
 |.mp _ _ _,_,b::_=>by cases b<;>rfl
 |.clo _ _,_,b::_=>by cases b<;>rfl
theorem Z7d:∀{p:List Bool}{e u:Ty},subT e p=some u->e.plain=true->u.plain=true
 | [],e,u,h,hp=>by
   have h:some e=some u:=by cases e<;>exact h
   cases h;exact hp
 | f ::p,e,u,h,hp=>by
   cases e
   case pair a b=>
     simp only[Ty.plain,Bool.and_eq_true]at hp;cases f
     . exact Z7d (e:=a) h hp.1
     . exact Z7d (e:=b) h hp.2
   all_goals(cases f<;>cases h)
theorem Zbi {tid:Nat}{k t:Ty}{es:Option (List (k.den×t.den))}{p:Pos}{g:Nat}{en:Array MapEntry}{clk j g2:Nat}{mm:MapEntry}{x:k.den×t.den}(h:Rep own w (.mp tid k (.bx t)) es p [.map (some g)])(hg:w.heap[g]?=some (.map en clk))
   (hm:en[j]?=some mm) (hx:lget (es.getD []) j=some x) (hv:mm.val=.pointer (some ⟨g2,0,none⟩)):∃cur T2,w.heap[g2]?=some (.cells cur T2 (0,0))/\Rep own w t x.2 ((p.el j).go 2) cur.toList/\own g2=(p.el j).lb:=by
 simp only[Rep,List.cons.injEq,and_true,Value.map.injEq,Option.some.injEq,reduceCtorEq,false_and,false_or]at h;obtain⟨_,_,g',en',clock,l,rfl,rfl,_,hg',hl,hfit⟩:=h;rw[hg]at hg';cases hg';obtain⟨kc,vc,_,i2,_,g3,cur,T2,rfl,ho,h3,h4⟩:=hfit j mm x hm hx;have i2:[Value.pointer (some ⟨g3,0,none⟩)]=[mm.val]:=i2;rw[hv]at i2;simp only[List.cons.injEq,and_true,Value.pointer.injEq,Option.some.injEq,Addr.mk.injEq]at i2;obtain⟨rfl,_⟩:=i2;exact⟨cur,T2,h3,h4,ho⟩
theorem Zdn(hE:EnvOk E){T:TypeId}{i:TI}(hT:E.ti T=some i){O:Obs}{a:AV}{va:Value}{K:AV->Option ρ}{r:ρ}(hO:Objs own w G O){P:Id->Prop}
   (hb:∀o c,look O o=some (.box c)->c.men P) (ha:AVv own w G a va) (hm:a.men P) (h:Za1 O i.size i.agg a K=some r):
   ∃b v,K b=some r/\(Instr.loadAt T va).run E.P w=.ok v w/\AVv own w G b v/\b.men P:=by
 have hi:=hE.ti T i hT;unfold Za1 at h;split at h
 ·
   rename_i t x;obtain⟨h1,h⟩:=Z0 h;obtain⟨h2,h⟩:=Z0 h;have hx:=(ha.one rfl rfl);obtain⟨hp,hr⟩:=hx;simp only[Rep]at hr;obtain⟨h0,A,ys,he,_,hys,hr⟩:=hr;simp only[List.cons.injEq,and_true]at he;subst he;have hl:ys.length=i.size:=hr.length.trans (Z2 h1);obtain⟨v,hv,hI⟩:=Z10 hi hys hl;refine⟨_,v,h,by simpa[Instr.loadAt,Instr.sureAddr]using hv,⟨ys,⟨h0,hr⟩,?_⟩,trivial⟩;simp only[AV.agg,eq_of_beq h2];exact hI
 ·
   rename_i o fp off;split at h
   . rename_i c hl;obtain⟨h0,h⟩:=Z0 h;have h0:=Z2 h0;obtain⟨_,g,cur,T',hv,ho,hg,hc⟩:=hO o _ hl;obtain⟨g',hv',he⟩:=(ha.one rfl rfl);rw[hv]at hv';cases hv';simp only[List.cons.injEq,and_true]at he;subst he;obtain⟨b,c1,c2,c3,h,hcur,hlen,hbr,hbm⟩:=Z1l (P:=P) hc (hb o c hl) h;obtain⟨h1,h⟩:=Z0 h;obtain⟨h2,h⟩:=Z0 h;have hcs:CellsAt w ⟨g,off,none⟩ c2:=by
       have:=CellsAt.row (o:=off) hg c2.length;rw[hcur,<-h0,<-hlen]at this;simpa[hlen,h0]using this
     obtain⟨v,hv2,hI⟩:=Z10 hi hcs (hbr.length.trans (Z2 h1));exact⟨b,v,h,by simpa[Instr.loadAt,Instr.sureAddr]using hv2,.of hbr (by rw[eq_of_beq h2];exact hI),hbm⟩
   . cases h
 ·
   rename_i o j fp off;split at h
   . rename_i tid e xs hl;obtain⟨hsz,hn,hr⟩:=hO o _ hl;obtain⟨A,m,c,hv,hj,he⟩:=(ha.one rfl rfl);simp only[List.cons.injEq,and_true]at he;subst he;rw[hv]at hr;have hjl:j<xs.length:=by
       obtain⟨B,c',h1,_⟩:=Z1n hr;cases h1;exact hj
     have hyl:xs[j]?=some xs[j]:=List.getElem?_eq_getElem hjl;rcases Z8 h with⟨hpl,h⟩|⟨hpl,h⟩
     . obtain⟨h0,h⟩:=Z0 h;have h0:=Z2 h0;obtain⟨y,hy,h⟩:=bind_some h;obtain⟨g,cur,cap,rfl,rfl,ho,hg,_,_,_,rfl,_,hel⟩:=Z1b hr hy;obtain⟨u,z,h,hsub,_,hrep⟩:=Z6k h;have hup:u.plain=true:=by unfold Zb5 at hpl;rw[hsub]at hpl;exact hpl
       obtain⟨h1,h⟩:=Z0 h;obtain⟨h2,h⟩:=Z0 h;obtain⟨c1,c2,c3,hcs,hl1,hu⟩:=hrep hel;have hcells:=Z4e hg hcs;rw[hl1,h0,<-hsz]at hcells;obtain⟨v,hv2,hI⟩:=Z10 hi hcells (hu.length.trans (Z2 h1));exact⟨_,v,h,by simpa[Instr.loadAt,Instr.sureAddr]using hv2,⟨c2,⟨hup,Rep.plain (Sealed.refl _ _) _ hup hu⟩,by rw[<-eq_of_beq h2]at hI;exact hI⟩,trivial⟩
     . split at h
       . rename_i tid' e' hsub;obtain⟨h0,h⟩:=Z0 h;have h0:=Z2 h0;obtain⟨h1,h⟩:=Z0 h;have h1:=Z2 h1;obtain⟨h2,h⟩:=Zs h;have hnp:e.plain=false:=by
           cases hp:e.plain
           . rfl
           . exfalso;have:=Z7d hsub hp;cases this
         obtain⟨g,cur,cap,rfl,rfl,ho,hg,_,_,_,rfl,_,hel⟩:=Z1b hr hyl;obtain⟨z,c1,c2,c3,hcs,hl1,hu⟩:=Rep.sub hsub hel;obtain⟨u,rfl⟩:∃u,c2=[u]:=by
           have:=hu.length
           match c2,this with
           |[u],_=>exact⟨u,rfl⟩
         have hcells:=Z4e hg hcs;rw[hl1,h0,<-hsz]at hcells;obtain⟨v,hv2,hI⟩:=Z10 hi hcells (by rw[<-h1];rfl);rw[h2]at hI;simp only[IsVal,List.cons.injEq,and_true]at hI;subst hI;have hcell:=hcells 0 u rfl;refine⟨_,u,h,by simpa[Instr.loadAt,Instr.sureAddr]using hv2,.of (cs:=[u]) ⟨by rw[hn,hnp];rfl,_,_,_,u,hv,hj,hcell,rfl,hu.one u (by simp)⟩ rfl,hm⟩
       . cases h
   . cases h
 ·
   rename_i o j fp off jj sz;split at h
   . rename_i tid e xs hl;obtain⟨h0,h⟩:=Z0 h;have h0:=Z2 h0;obtain⟨y,hy,h⟩:=bind_some h;obtain⟨tid2,e2,ys,h,_,_,hrep⟩:=Z1t h;obtain⟨hpl,h⟩:=Z0 h;obtain⟨h1,h⟩:=Z0 h;have h1:=Z2 h1;obtain⟨h2,h⟩:=Z0 h;have h2:=Z2 h2;obtain⟨h3,h⟩:=Z0 h;obtain⟨z,hz,h⟩:=bind_some h;obtain⟨hsz,hn,hr⟩:=hO o _ hl;obtain⟨_,A,m,c,A2,m2,cc2,hv,hj,hcell,hjj,he⟩:=(ha.one rfl rfl);simp only[List.cons.injEq,and_true]at he;subst he;rw[hv]at hr;obtain⟨g,cur,cap,rfl,rfl,ho,hg,_,_,_,rfl,_,hel⟩:=Z1b hr hy;obtain⟨c1,u,c3,hcs,hl1,hu⟩:=hrep hel;have hu2:=Z2b hg hcs;rw[hl1,h0,<-hsz,hcell]at hu2;cases hu2;obtain⟨g2,cur2,cap2,rfl,rfl,ho2,hg2,_,_,_,rfl,_,hel2⟩:=Z1b hu hz;have hcells:CellsAt w ((⟨g2,0,none⟩:Addr).add (jj*e2.size)) _:=Z4e (c1:=[]) (c2:=(cur2.toList.drop (jj*e2.size)).take e2.size) (c3:=[]) hg2 (by rw[List.append_nil,List.nil_append]);rw[h1]at hcells;obtain⟨v,hv2,hI⟩:=Z10 hi hcells (by rw[<-h1];exact hel2.length.trans (h1.trans h2));rw[<-h1]at hI;exact⟨_,v,h,by simpa[Instr.loadAt,Instr.sureAddr]using hv2,⟨_,⟨hpl,Rep.plain (Sealed.refl _ _) _ hpl hel2⟩,by rw[<-eq_of_beq h3]at hI;exact hI⟩,trivial⟩
   . cases h
 ·
   rename_i o j fp off;split at h
   . rename_i tid k t es hl;obtain⟨h0,h⟩:=Z0 h;have h0:=Z2 h0;obtain⟨hn,hr⟩:=hO o _ hl;obtain⟨_,g,en,clk,mm,g2,hv,hg,hmm,hmv,he⟩:=(ha.one rfl rfl);simp only[List.cons.injEq,and_true]at he;subst he;rw[hv]at hr;split at h
     . rename_i tid' e' hsub;obtain⟨x,hx,h⟩:=bind_some h;obtain⟨cur,T2,hg2,hcont,_⟩:=Zbi hr hg hmm hx hmv;obtain⟨tid2,e2,ys,h,_,_,hrep⟩:=Z1t h;obtain⟨h1,h⟩:=Z0 h;have h1:=Z2 h1;obtain⟨h2,h⟩:=Zs h;obtain⟨c1,u,c3,hcs,hl1,hu⟩:=hrep hcont;have hcells:CellsAt w ⟨g2,off,none⟩ [u]:=by
         have:=CellsAt.row (o:=off) hg2 1;rw[hcs,<-h0,<-hl1]at this;simpa[hl1,h0]using this
       obtain⟨v,hv2,hI⟩:=Z10 hi hcells (by rw[<-h1];rfl);rw[h2]at hI;simp only[IsVal,List.cons.injEq,and_true]at hI;subst hI;obtain⟨B,c,hv3,h3,h4⟩:=Z1n hu;exact⟨_,u,h,by simpa[Instr.loadAt,Instr.sureAddr]using hv2,.single rfl rfl ⟨B,c,by rw[hv3],h3,h4⟩,trivial⟩
     . rename_i u hno hsub;obtain⟨hpl,h⟩:=Z0 h;obtain⟨x,hx,h⟩:=bind_some h;obtain⟨cur,T2,hg2,hcont,_⟩:=Zbi hr hg hmm hx hmv;obtain⟨u',z,h,hsub',_,hrep⟩:=Z6k h;have hup:u'.plain=true:=by rw[hsub]at hsub';cases hsub';exact hpl
       obtain⟨h1,h⟩:=Z0 h;obtain⟨h2,h⟩:=Z0 h;obtain⟨c1,c2,c3,hcs,hl1,hu⟩:=hrep hcont;have hcells:CellsAt w ⟨g2,off,none⟩ c2:=by
         have:=CellsAt.row (o:=off) hg2 c2.length;rw[hcs,<-h0,<-hl1]at this;simpa[hl1,h0]using this
       obtain⟨v,hv2,hI⟩:=Z10 hi hcells (hu.length.trans (Z2 h1));exact⟨_,v,h,by simpa[Instr.loadAt,Instr.sureAddr]using hv2,⟨c2,⟨hup,Rep.plain (Sealed.refl _ _) _ hup hu⟩,by rw[<-eq_of_beq h2]at hI;exact hI⟩,trivial⟩
     . cases h
   . cases h
 ·
   rename_i o n;split at h
   . rename_i tid e xs hl;obtain⟨hp,h⟩:=Z0 h;obtain⟨h1,h⟩:=Z0 h;obtain⟨h2,h⟩:=Z0 h;obtain⟨_,_,hr⟩:=hO o _ hl;obtain⟨A,c,hv,he⟩:=(ha.one rfl rfl);simp only[List.cons.injEq,and_true]at he;subst he;rw[hv]at hr;obtain⟨g,cur,ys,rfl,ho,hg,rfl,hra⟩:=Z8p ⟨[],[],true⟩ hp hr;have hcs:CellsAt w ⟨g,0,none⟩ (cur.toList.take (n*e.size)):=by
       have:=CellsAt.row (o:=0) hg (n*e.size);simpa using this
     obtain⟨v,hv2,hI⟩:=Z10 hi hcs (hra.length.trans (Z2 h1));exact⟨_,v,h,by simpa[Instr.loadAt,Instr.sureAddr]using hv2,⟨_,⟨hp,hra⟩,by rw[h2]at hI;exact hI⟩,trivial⟩
   . cases h
 . cases h
end Go.Pv
namespace Go.Pv
open Go
variable {own own':Own}{w w':World}{G G':Gs}{ρ:Type}{E:Env}
theorem Zv(hE:EnvOk E){T:Nat}{K:Nat->TI->Option ρ}{r:ρ}(h:Z1f E T K=some r):∃e j,E.P.underlying T=some (.slice e)/\E.ti e=some j/\TIok E.P j e/\K e j=some r:=by
 unfold Z1f tiK at h;split at h
 . rename_i i hi;dsimp only at h;split at h
   . rename_i e he;split at h
     . rename_i j hj;obtain⟨d,hd,hk,_⟩:=(hE.ti T i hi).und;rw[he]at hk;simp only[TDok]at hk;exact⟨e,j,by rw[hd,hk],hj,hE.ti e j hj,h⟩
     . cases h
   . cases h
 . cases h
theorem Z6m(P:Program)(w:World){T e:TypeId}{j:TI}(hT:P.underlying T=some (.slice e))(he:TIok P j e)(A:Addr)(m c:Nat)(k:IntKind)(i:Int)(h0:0<=i)(h1:i.toNat<m):
   (Instr.indexAt T (.slice (some A) m c) (.int k i)).run P w=.ok (.pointer (some (A.add (i.toNat*j.size)))) w:=by
 have h2:i<(m:Int):=by omega
 unfold Instr.indexAt;simp only[Sem.run_bind,asIntOf,Sem.run_pure,Result.andThen_ok,run_underlying hT];rw[if_pos ⟨h0,h2⟩];simp only[Sem.run_bind,Z2l he,Result.andThen_ok,Sem.run_pure]
theorem Z9v {T e:TypeId}{j:TI}(hT:E.P.underlying T=some (.slice e))(hj:TIok E.P j e){O:Obs}{a i:AV}{va vi:Value}{K:AV->Option ρ}{r:ρ}(hO:Objs own w G O){P:Id->Prop}
   (ha:AVv own w G a va) (hi:AVv own w G i vi) (hm:a.men P) (h:Z3x O j.size a i K=some r):
   ∃b v,K b=some r/\(Instr.indexAt T va vi).run E.P w=.ok v w/\AVv own w G b v/\b.men P:=by
 unfold Z3x at h;split at h
 . rename_i k i;obtain⟨rfl,hwi⟩:=hi.int;split at h
   . rename_i e' xs;obtain⟨hs,h⟩:=Z0 h;have hs:=Z2 hs;obtain⟨h0,h⟩:=Zk h;have h0:=of_decide_eq_true h0;obtain⟨y,hy,h⟩:=bind_some h;obtain⟨hp,hr⟩:=ha.one rfl rfl;simp only[Rep]at hr;obtain⟨hpe,B,c,he,h1,h2,hel⟩:=hr;simp only[List.cons.injEq,and_true]at he;subst he;obtain⟨A,ys,rfl,hsh,hys,hry⟩:=hel _ y hy;have hlt:=(List.getElem?_eq_some_iff.1 hy).1;refine⟨_,_,h,Z6m E.P w hT hj A _ c k i h0 hlt,?_,trivial⟩;rw[<-hs];exact .single rfl hpe ⟨hpe,_,ys,rfl,by rw[Zw];exact hsh,hys,Rep.plain (Sealed.refl _ _) _ hpe hry⟩
   . rename_i xs;obtain⟨hs,h⟩:=Z0 h;have hs:=Z2 hs;obtain⟨h0,h⟩:=Zk h;have h0:=of_decide_eq_true h0;obtain⟨y,hy,h⟩:=bind_some h;obtain⟨hp,hr⟩:=ha.one rfl rfl;simp only[Rep,List.cons.injEq,and_true]at hr;obtain⟨v',rfl,hF⟩:=hr;obtain⟨_,B,c,vb,vo,hc,hm2,hw,hcell,hb,hoo⟩:=hF;have hy:(show List Tr from xs)[i.toNat]?=some y:=hy;obtain⟨A,rfl,hsh,hys⟩:=hcell _ y hy;have hlt:=(List.getElem?_eq_some_iff.1 hy).1;refine⟨_,_,h,Z6m E.P w hT hj A _ c k i h0 hlt,?_,trivial⟩;rw[<-hs];refine .single rfl rfl ⟨rfl,_,_,rfl,by rw[Zw];exact hsh,hys,?_⟩;exact⟨[_],[_,_],rfl,⟨rfl,hw _ y hy⟩,[_],[_],rfl,⟨_,rfl,hb _ y hy⟩,[_],[],rfl,⟨_,rfl,hoo _ y hy⟩,rfl⟩
   . rename_i o;split at h
     . rename_i tid e' xs hl;obtain⟨hs,h⟩:=Z0 h;have hs:=Z2 hs;obtain⟨hb,h⟩:=Zk h;simp only[Bool.and_eq_true,decide_eq_true_eq]at hb;obtain⟨hsz,_,hr⟩:=hO o _ hl;obtain⟨he,_⟩:=ha.one rfl rfl;simp only[List.cons.injEq,and_true]at he;subst he;have hr':=hr;simp only[Rep,List.cons.injEq,and_true]at hr';rcases hr' with⟨_,hz⟩|⟨g,cap,cur,hv,_⟩
       . omega
       . refine⟨_,_,h,by rw[hv];exact Z6m E.P w hT hj _ _ cap k i hb.1 hb.2,.of (cs:=[_]) ⟨_,_,_,hv,hb.2,?_⟩ rfl,hm⟩;rw[hsz,hs];rfl
     . cases h
   . rename_i o lo n;split at h
     . rename_i tid e' xs hl;obtain⟨hs,h⟩:=Z0 h;have hs:=Z2 hs;obtain⟨hb,h⟩:=Zk h;simp only[Bool.and_eq_true,decide_eq_true_eq]at hb;obtain⟨hsz,_,hr⟩:=hO o _ hl;obtain⟨B,m,c,B',c',hv,he,h1,h2,h3,_,h4⟩:=ha.one rfl rfl;simp only[List.cons.injEq,and_true]at he;subst he;obtain⟨A,rfl,rfl⟩:=h4 (by omega);refine⟨_,_,h,Z6m E.P w hT hj _ _ c' k i hb.1.1 hb.1.2,.of (cs:=[_]) ⟨A,m,c,hv,by omega,?_⟩ rfl,hm⟩;rw[hsz,hs,Addr.add_add,<-Nat.add_mul];rfl
     . cases h
   . rename_i o q fp n;split at h
     . rename_i tid e' xs hl;obtain⟨hof,h⟩:=Z0 h;have hof:=Z2 hof;obtain⟨y,hy,h⟩:=bind_some h;obtain⟨tid2,e2,ys,h,_,_,hrep⟩:=Z1t h;obtain⟨hp2,h⟩:=Z0 h;obtain⟨hs,h⟩:=Z0 h;have hs:=Z2 hs;obtain⟨hb,h⟩:=Zk h;simp only[Bool.and_eq_true,decide_eq_true_eq]at hb;obtain⟨hsz,_,hr⟩:=hO o _ hl;obtain⟨hnest,A,m,c,u,hv,hq,hu,he,_⟩:=ha.one rfl rfl;simp only[List.cons.injEq,and_true]at he;subst he;rw[hv]at hr;obtain⟨g,cur,cap,rfl,rfl,ho,hg,_,_,_,rfl,_,hel⟩:=Z1b hr hy;obtain⟨c1,u',c3,hcs,hl1,hu'⟩:=hrep hel;have hu2:=Z2b hg hcs;rw[hl1,hof,<-hsz,hu]at hu2;cases hu2;simp only[Rep,List.cons.injEq,and_true]at hu';rcases hu' with⟨_,hz⟩|⟨g2,cap2,cur2,hv2,_⟩
       . omega
       . refine⟨_,_,h,by rw[hv2];exact Z6m E.P w hT hj _ _ cap2 k i hb.1 hb.2,.of (cs:=[_]) ⟨hnest,_,_,_,_,_,_,hv,hq,by rw[hu,hv2],hb.2,rfl⟩ rfl,hm⟩
     . cases h
   . cases h
 . cases h
theorem Z6n {P:Program}{T:TypeId}{d:TypeDesc}(hT:P.underlying T=some d){at':Array TypeId}(ha:at'[0]?=some T)(ty:TypeId)(va:Value)(w:World)(n:Int)
   (h:(∃e B c,d=.slice e/\va=.slice B n.toNat c/\0<=n)\/(∃s:ByteArray,d=.string/\va=.string s/\n=s.size)\/(∃k e,d=.map k e/\va=.map none/\n=0)\/
     (∃k e g en c,d=.map k e/\va=.map (some g)/\w.heap[g]?=some (.map en c)/\n=en.size)):(Builtin.len_ at' ty #[va]).run P w=.ok (.int .i64 n) w:=by
 unfold Builtin.len_;simp only[ha,List.getElem?_toArray,List.getElem?_cons_zero];rcases h with⟨e,B,c,rfl,rfl,h0⟩|⟨s,rfl,rfl,rfl⟩|⟨k,e,rfl,rfl,rfl⟩|⟨k,e,g,en,c,rfl,rfl,hg,rfl⟩
 . simp only[Sem.run_bind,run_underlying hT,Result.andThen_ok,goInt,Sem.run_pure];rw[Int.toNat_of_nonneg h0]
 . simp only[Sem.run_bind,run_underlying hT,Result.andThen_ok,goInt,Sem.run_pure]
 . simp only[Sem.run_bind,run_underlying hT,Result.andThen_ok,goInt,Sem.run_pure]
 . simp only[Sem.run_bind,run_underlying hT,Result.andThen_ok,goInt];simp[getObj,Sem.run,hg]
theorem Z6o {n:Int}(h0:0<=n)(h:n<=9223372036854775807):(Lit.int .i64 n).wf=true:=by
 have hmin:IntKind.i64.min= -9223372036854775808:=rfl;have hmax:IntKind.i64.max=9223372036854775807:=rfl;simp only[Lit.wf,Bool.and_eq_true,decide_eq_true_eq,hmin,hmax];omega
theorem Zf4(hE:EnvOk E){T:TypeId}{t:TI}(hT:E.ti T=some t){O:Obs}{a:AV}{va:Value}{K:AV->Option ρ}{r:ρ}(hO:Objs own w G O)(ha:AVv own w G a va)(h:lenK t.d O a K=some r):
   ∃n:Int,K (.v (.int .i64) n)=some r/\(Lit.int .i64 n).wf=true/\∀(at':Array TypeId)(ty:TypeId),at'[0]?=some T->(Builtin.len_ at' ty #[va]).run E.P w=.ok (.int .i64 n) w:=by
 obtain⟨d,hd,hk,_⟩:=(hE.ti T t hT).und;have key:∀(n:Nat)(e:TypeId)(B:Option Addr)(c:Nat),d=.slice e->va=.slice B n c->n<=maxLen->(Lit.int .i64 (n:Int)).wf=true/\∀(at':Array TypeId)(ty:TypeId),at'[0]?=some T->(Builtin.len_ at' ty #[va]).run E.P w=.ok (.int .i64 (n:Int)) w:=by
   intro n e B c h1 h2 h3;simp only[maxLen]at h3;refine⟨Z6o (by omega) (by omega),fun at' ty hat=>Z6n hd hat ty va w _ (.inl ⟨e,B,c,h1,h2,by omega⟩)⟩
 unfold lenK at h;split at h
 . rename_i hq;rw[hq]at hk;simp only[TDok]at hk;split at h
   . obtain⟨rfl,hs⟩:=ha.str;refine⟨_,h,Z6o (by omega) (by simp only[maxLen]at hs;omega),fun at' ty hat=>Z6n hd hat ty _ w _ (.inr (.inl ⟨_,hk,rfl,rfl⟩))⟩
   . cases h
 . rename_i e0 hq;rw[hq]at hk;simp only[TDok]at hk;split at h
   . rename_i e xs;obtain⟨hp,hr⟩:=ha.one rfl rfl;simp only[Rep]at hr;obtain⟨_,B,c,he,h1,h2,_⟩:=hr;simp only[List.cons.injEq,and_true]at he;exact⟨_,h,key xs.length e0 B c hk he (by omega)⟩
   . rename_i xs;obtain⟨hp,hr⟩:=ha.one rfl rfl;simp only[Rep,List.cons.injEq,and_true]at hr;obtain⟨v',rfl,hF⟩:=hr;obtain⟨_,B,c,vb,vo,hc,hm2,_⟩:=hF;exact⟨_,h,key _ e0 B c hk rfl (by omega)⟩
   . obtain⟨hp,hr⟩:=ha.one rfl rfl;simp only[Rep]at hr;obtain⟨B,c,he,h1,h2⟩:=hr;simp only[List.cons.injEq,and_true]at he;exact⟨_,h,key _ e0 B c hk he (Nat.le_trans h1 h2)⟩
   . obtain⟨B,m,c,B',c',hv,he,h1,h2,h3,_,h4⟩:=ha.one rfl rfl;simp only[List.cons.injEq,and_true]at he;exact⟨_,h,key _ e0 B' c' hk he (by omega)⟩
   . rename_i o;split at h
     . rename_i tid e xs hl;obtain⟨_,_,hr⟩:=hO o _ hl;obtain⟨he,_⟩:=ha.one rfl rfl;simp only[List.cons.injEq,and_true]at he;obtain⟨B,c,hv,h1,h2⟩:=Z1n hr;exact⟨_,h,key xs.length e0 B c hk (he.trans hv) (by omega)⟩
     . cases h
   . rename_i o i fp n;split at h
     . rename_i tid e xs hl;obtain⟨hof,h⟩:=Z0 h;have hof:=Z2 hof;obtain⟨y,hy,h⟩:=bind_some h;obtain⟨tid2,e2,ys,h,_,_,hrep⟩:=Z1t h;obtain⟨hsz,_,hr⟩:=hO o _ hl;obtain⟨_,A,m,c,u,hv,hi,hu,he,_⟩:=ha.one rfl rfl;simp only[List.cons.injEq,and_true]at he;subst he;rw[hv]at hr;obtain⟨g,cur,cap,rfl,rfl,ho,hg,_,_,_,rfl,_,hel⟩:=Z1b hr hy;obtain⟨c1,u',c3,hcs,hl1,hu'⟩:=hrep hel;have hu2:=Z2b hg hcs;rw[hl1,hof,<-hsz,hu]at hu2;cases hu2;obtain⟨B,c,hv2,h3,h4⟩:=Z1n hu';exact⟨_,h,key ys.length e0 B c hk hv2 (by omega)⟩
     . cases h
   . cases h
 . rename_i k0 e0 hq;rw[hq]at hk;simp only[TDok]at hk;split at h
   . rename_i o;split at h
     . rename_i tid k v es hl;obtain⟨h0,h⟩:=Zk h;have h0:=of_decide_eq_true h0;obtain⟨_,hr⟩:=hO o _ hl;obtain⟨he,_⟩:=ha.one rfl rfl;simp only[List.cons.injEq,and_true]at he;simp only[Rep,List.cons.injEq,and_true]at hr;obtain⟨_,_,⟨hv,rfl⟩|⟨g,en,clock,l,rfl,hv,ho,hg,hl2,_⟩⟩:=hr
       . exact⟨_,h,Z6o (by omega) (by omega),fun at' ty hat=>Z6n hd hat ty _ w _ (.inr (.inr (.inl ⟨k0,e0,hk,he.trans hv,rfl⟩)))⟩
       . exact⟨_,h,Z6o (by omega) (by omega),fun at' ty hat=>Z6n hd hat ty _ w _ (.inr (.inr (.inr ⟨k0,e0,g,en,clock,hk,he.trans hv,hg,by rw[hl2];rfl⟩)))⟩
     . cases h
   . cases h
 . cases h
theorem Z8t(P:Program)(w:World){T e n:TypeId}{j:TI}(hT:P.underlying T=some (.array n e))(he:TIok P j e)(A:Addr)(k:IntKind)(i:Int)(h0:0<=i)(h1:i.toNat<n):
   (Instr.indexAt T (.pointer (some A)) (.int k i)).run P w=.ok (.pointer (some (A.add (i.toNat*j.size)))) w:=by
 have h2:i<(n:Int):=by omega
 unfold Instr.indexAt;simp only[Sem.run_bind,asIntOf,Sem.run_pure,Result.andThen_ok,run_underlying hT,Instr.sureAddr];rw[if_pos ⟨h0,h2⟩];simp only[Sem.run_bind,Z2l he,Result.andThen_ok,Sem.run_pure]
theorem Zbj {T e n:TypeId}{j:TI}(hT:E.P.underlying T=some (.array n e))(hj:TIok E.P j e){O:Obs}{a i:AV}{va vi:Value}{K:AV->Option ρ}{r:ρ}(hO:Objs own w G O){P:Id->Prop}
   (ha:AVv own w G a va) (hi:AVv own w G i vi) (hm:a.men P) (h:Z5a O n j.size a i K=some r):
   ∃b v,K b=some r/\(Instr.indexAt T va vi).run E.P w=.ok v w/\AVv own w G b v/\b.men P:=by
 unfold Z5a at h;split at h
 . rename_i k i;obtain⟨rfl,hwi⟩:=hi.int;split at h
   . rename_i m e' xs;obtain⟨hn,h⟩:=Z0 h;have hT:E.P.underlying T=some (.array m e):=by rw[hT,Z2 hn]
     obtain⟨hs,h⟩:=Z0 h;have hs:=Z2 hs;obtain⟨h0,h⟩:=Zk h;have h0:=of_decide_eq_true h0;obtain⟨y,hy,h⟩:=bind_some h;obtain⟨hp,hr⟩:=ha.one rfl rfl;simp only[Rep]at hr;obtain⟨_,A,ys,he,hsh,hys,hpe,hlen,hl2,_,hel⟩:=hr;simp only[List.cons.injEq,and_true]at he;subst he;have hlt:=(List.getElem?_eq_some_iff.1 hy).1;refine⟨_,_,h,Z8t E.P w hT hj A k i h0 (by omega),?_,trivial⟩;rw[<-hs];refine .single rfl hpe ⟨hpe,_,_,rfl,by rw[Zw];exact hsh,?_,Rep.plain (Sealed.refl _ _) _ hpe (hel _ y hy)⟩;intro q u hq;rw[List.getElem?_take]at hq;split at hq
     . rw[List.getElem?_drop]at hq;have:=hys _ u hq;rwa[add_add]
     . cases hq
   . rename_i o m;split at h
     . rename_i tid e' xs hl;obtain⟨hn,h⟩:=Z0 h;have hT:E.P.underlying T=some (.array m e):=by rw[hT,Z2 hn]
       obtain⟨hs,h⟩:=Z0 h;have hs:=Z2 hs;obtain⟨h0,h⟩:=Zk h;simp only[Bool.and_eq_true,decide_eq_true_eq]at h0;obtain⟨hsz,_,hr⟩:=hO o _ hl;obtain⟨A,c,hv,he⟩:=ha.one rfl rfl;simp only[List.cons.injEq,and_true]at he;subst he;rw[hv]at hr;obtain⟨B,c',hv2,h1,h2⟩:=Z1n hr;have hm2:m=xs.length:=by simp only[Value.slice.injEq]at hv2;exact hv2.2.1
       refine⟨_,_,h,Z8t E.P w hT hj A k i h0.1 (by omega),?_,hm⟩;refine .of (cs:=[_]) ⟨A,_,_,hv,by omega,?_⟩ rfl;rw[hsz,hs];rfl
     . cases h
   . cases h
 . cases h
where
 add_add {A:Addr} {i q:Nat}:(A.add i).add q=A.add (i+q):=by
   unfold Addr.add;by_cases h:i=0<;>by_cases h':q=0<;>simp[h,h',Nat.add_assoc]
theorem Zgh(P:Program)(w:World){T e n:TypeId}{j:TI}(hT:P.underlying T=some (.array n e))(he:TIok P j e){cs:List Value}(k:IntKind)(i:Int)(h0:0<=i)(h1:i.toNat<n){v:Value}
   (hp:(Go.part e cs.toArray (i.toNat*j.size)).run P w=.ok v w):(Instr.index T (.agg cs.toArray) (.int k i)).run P w=.ok v w:=by
 have h2:i<(n:Int):=by omega
 unfold Instr.index;simp only[Sem.run_bind,asIntOf,Sem.run_pure,Result.andThen_ok,run_underlying hT];rw[if_pos ⟨h0,h2⟩];simp only[Sem.run_bind,Z2l he,Result.andThen_ok,hp]
end Go.Pv
namespace Go.Pv
open Go
variable {own own':Own}{w w':World}{G G':Gs}{ρ:Type}{E:Env}
theorem Z8f {α:Type}:∀(l:List α)(i:Nat),nth l i=l[i]?
 |[],i=>by cases i<;>rfl
 | _::_,0=>rfl
 | _::l,n+1=>by simp only[nth,List.getElem?_cons_succ];exact Z8f l n
theorem Z21(hE:EnvOk E){S:Nat}{off:List Bool->Nat}{size:List Bool->Option (Nat×Bool)}{f:Nat}{K:List Bool->Option ρ}{r:ρ}(h:Z2z E S off size f K=some r):
   ∃fields fd j,E.P.underlying S=some (.struct fields)/\fields[f]?=some fd/\TIok E.P j fd.type/\size (fld f)=some (j.size,j.agg)/\off (fld f)=fd.offset/\j.size≠0/\K (fld f)=some r:=by
 unfold Z2z tiK at h;split at h
 . rename_i i hi;dsimp only at h;split at h
   . rename_i fs hfs;split at h
     . rename_i o T hn;split at h
       . rename_i j hj;split at h
         . rename_i n g hs;obtain⟨h1,h⟩:=Z0 h;obtain⟨h2,h⟩:=Z0 h;obtain⟨h3,h⟩:=Zs h;obtain⟨h4,h⟩:=Z0 h;obtain⟨d,hd,hk,_⟩:=(hE.ti S i hi).und;rw[hfs]at hk;obtain⟨fields,rfl,hm⟩:=hk;rw[Z8f,<-hm,List.getElem?_map]at hn;obtain⟨fd,hfd,he⟩:=Option.map_eq_some_iff.1 hn;simp only[Prod.mk.injEq]at he;have h2:=Z2 h2;refine⟨fields,fd,j,hd,by simpa using hfd,by rw[he.2];exact hE.ti T j hj,by rw[hs,h2,eq_of_beq h4],by rw[Z2 h1,he.1],fun e=>?_,h⟩;rw[h2,e]at h3;simp at h3
         . cases h
       . cases h
     . cases h
   . cases h
 . cases h
theorem Z3i {P:Program}{S:Nat}{fields:Array Field}{fd:Field}{j:TI}{f:Nat}(hS:P.underlying S=some (.struct fields))(hf:fields[f]?=some fd)(hj:TIok P j fd.type)(h0:j.size≠0)(A:Addr)(w:World):
   (Instr.fieldAt S (.pointer (some A)) f).run P w=.ok (.pointer (some (A.add fd.offset))) w:=by
 unfold Instr.fieldAt;simp only[Sem.run_bind,run_underlying hS,Result.andThen_ok,hf,Instr.sureAddr,Sem.run_pure,fieldPlace,Z2l hj,if_neg h0]
theorem Z9w(hE:EnvOk E){S f:Nat}{O:Obs}{a:AV}{va:Value}{K:AV->Option ρ}{r:ρ}(hO:Objs own w G O){P:Id->Prop}(ha:AVv own w G a va)(hm:a.men P)(h:Z3y E O S a f K=some r):
   ∃b v,K b=some r/\(Instr.fieldAt S va f).run E.P w=.ok v w/\AVv own w G b v/\b.men P:=by
 unfold Z3y at h;split at h
 . rename_i t y;obtain⟨fields,fd,j,hS,hf,hj,hs,ho,h0,h⟩:=Z21 hE h;obtain⟨hp,hr⟩:=ha.one rfl rfl;simp only[Rep]at hr;obtain⟨hpt,A,ys,he,hsh,hys,hry⟩:=hr;simp only[List.cons.injEq,and_true]at he;subst he;obtain⟨b,c1,c2,c3,h,hcur,hlen,hbr,hbm⟩:=Z1l (P:=P) (own:=own) (w:=w) (G:=G) (a:=.v t y) ⟨hpt,Rep.plain (Sealed.refl _ _) _ hpt hry⟩ trivial h;split at h
   . rename_i u z;obtain⟨hpu,hru⟩:=hbr;refine⟨_,_,h,Z3i hS hf hj h0 A w,.single rfl hpu ⟨hpu,_,c2,rfl,by rw[Zw];exact hsh,?_,hru⟩,trivial⟩;intro q v hq;rw[Addr.add_add];refine hys _ _ ?_;rw[hcur,List.getElem?_append_right (by rw[hlen,Z8s,ho];omega),hlen,Z8s,ho,Nat.add_sub_cancel_left,List.getElem?_append_left (List.getElem?_eq_some_iff.1 hq).1];exact hq
   . cases h
 . rename_i o fp n;split at h
   . rename_i c hl;obtain⟨_,g,cur,T',hv,hob,hg,hc⟩:=hO o _ hl;obtain⟨g',hv',he⟩:=(ha.one rfl rfl);rw[hv]at hv';cases hv';simp only[List.cons.injEq,and_true]at he;subst he;obtain⟨b,_,_,_,h,_⟩:=Z1l (P:=fun _=>True) hc (vwK_some.AV.men.all _) h;obtain⟨fields,fd,j,hS,hf,hj,hs,ho,h0,h⟩:=Z21 hE h;refine⟨_,_,h,Z3i hS hf hj h0 _ w,.of (cs:=[_]) ⟨g,hv,?_⟩ rfl,hm⟩;rw[Zx,<-ho];rfl
   . cases h
 . rename_i o i fp n;split at h
   . rename_i tid e xs hl;split at h
     . rename_i u hu;obtain⟨fields,fd,j,hS,hf,hj,hs,ho,h0,h⟩:=Z21 hE h;obtain⟨A,m,c,hv,hi,he⟩:=ha.one rfl rfl;simp only[List.cons.injEq,and_true]at he;subst he;refine⟨_,_,h,Z3i hS hf hj h0 _ w,.of (cs:=[_]) ⟨A,m,c,hv,hi,?_⟩ rfl,hm⟩;rw[Addr.add_add _ n,<-ho];rfl
     . cases h
   . cases h
 . rename_i o i fp n;split at h
   . rename_i tid k t es hl;split at h
     . rename_i u hu;obtain⟨fields,fd,j,hS,hf,hj,hs,ho,h0,h⟩:=Z21 hE h;obtain⟨hn,g,en,c,mm,g2,hv,hg,hmm,hmv,he⟩:=ha.one rfl rfl;simp only[List.cons.injEq,and_true]at he;subst he;refine⟨_,_,h,Z3i hS hf hj h0 _ w,.of (cs:=[_]) ⟨hn,g,en,c,mm,g2,hv,hg,hmm,hmv,?_⟩ rfl,hm⟩;rw[Zx,<-ho];rfl
     . cases h
   . cases h
 . cases h
theorem Z50 {P:Program}{T:TypeId}{j:TI}(hj:TIok P j T){c1 c2 c3:List Value}(hl:c2.length=j.size)(w:World):
   ∃v,(Go.part T (c1++(c2++c3)).toArray c1.length).run P w=.ok v w/\IsVal j.agg c2 v:=by
 unfold Go.part;simp only[Sem.run_bind,Za7 hj,Result.andThen_ok];cases ha:j.agg
 . obtain⟨v,rfl⟩:=IsVal.one hj hl ha;refine⟨v,?_,rfl⟩;have:(c1++([v]++c3)).toArray[c1.length]?=some v:=by simp
   simp only[this];rfl
 . refine⟨.agg c2.toArray,?_,rfl⟩;simp only[Sem.run_bind,Z2l hj,Result.andThen_ok,if_true,Sem.run_pure];rw[<-hl]
   congr 2
   apply Array.ext';simp
theorem Z2t:∀(p:List Bool)(a:AV){ρ:Type}(K:AV->Option ρ),getF a p K=(getF a p some).bind K
 |[],a,_,K=>by unfold getF;cases a<;>rfl
 | f::p,.pr a b,_,K=>by
   cases f<;>simp only[getF]
   . exact Z2t p a K
   . exact Z2t p b K
 | f ::p,.v t x,_,K=>by
   cases t
   case pair a b=>
     cases f<;>simp only[getF]
     . exact Z2t p _ K
     . exact Z2t p _ K
   all_goals(cases f<;>rfl)
 |f::p,.dead,_,K=>by cases f<;>rfl
 |f::p,.tn,_,K=>by cases f<;>rfl
 |f::p,.tp _ _,_,K=>by cases f<;>rfl
 |f::p,.hole _,_,K=>by cases f<;>rfl
 |f::p,.ref _,_,K=>by cases f<;>rfl
 |f::p,.hs _ _ _,_,K=>by cases f<;>rfl
 |f::p,.p _ _ _,_,K=>by cases f<;>rfl
 |f::p,.e _ _ _ _,_,K=>by cases f<;>rfl
 |f::p,.s _ _ _,_,K=>by cases f<;>rfl
 |f::p,.ap _ _,_,K=>by cases f<;>rfl
 |f::p,.cl _ _,_,K=>by cases f<;>rfl
theorem Zf5(hE:EnvOk E){S f:Nat}{a:AV}{va:Value}{K:AV->Option ρ}{r:ρ}{P:Id->Prop}(ha:AVv own w G a va)(hm:a.men P)(h:fldK E S a f K=some r):
   ∃b v,K b=some r/\(Instr.field S va f).run E.P w=.ok v w/\AVv own w G b v/\b.men P:=by
 unfold fldK at h;obtain⟨hg,h⟩:=Z0 h;obtain⟨fields,fd,j,hS,hf,hj,hs,ho,h0,h⟩:=Z21 hE h;have hok:a.cel=true:=by cases a<;>first|rfl|cases hg
 obtain⟨cs,hc,hv⟩:=ha.cells hok;rw[hg]at hv;simp only[IsVal]at hv;subst hv;rw[Z2t]at h;obtain⟨b0,hb0,h⟩:=bind_some h;unfold Zc6 at hs;rw[Z2t,hb0]at hs;simp only[Option.bind_some,Option.some.injEq,Prod.mk.injEq]at hs;obtain⟨b,c1,c2,c3,hb,rfl,hlen,hbr,hbm⟩:=Z1l hc hm hb0;simp only[Option.some.injEq]at hb;subst hb;obtain⟨v,hv,hI⟩:=Z50 hj (c1:=c1) (c3:=c3) (hbr.length.trans hs.1) w;refine⟨_,v,h,?_,.of hbr (by rw[hs.2];exact hI),hbm⟩;unfold Instr.field;simp only[Sem.run_bind,run_underlying hS,Result.andThen_ok,hf,asAgg,Sem.run_pure];rw[<-ho,<-hlen];exact hv
theorem Zbk {T e n:TypeId}{j:TI}(hT:E.P.underlying T=some (.array n e))(hj:TIok E.P j e){a i:AV}{va vi:Value}{K:AV->Option ρ}{r:ρ}{P:Id->Prop}
   (ha:AVv own w G a va) (hi:AVv own w G i vi) (h:Z5b n j.size j.agg a i K=some r):
   ∃b v,K b=some r/\(Instr.index T va vi).run E.P w=.ok v w/\AVv own w G b v/\b.men P:=by
 unfold Z5b at h;split at h
 . rename_i k i;obtain⟨rfl,hwi⟩:=hi.int;split at h
   . rename_i m e' xs;obtain⟨hn,h⟩:=Z0 h;have hT:E.P.underlying T=some (.array m e):=by rw[hT,Z2 hn]
     obtain⟨hs,h⟩:=Z0 h;have hs:=Z2 hs;obtain⟨hg,h⟩:=Z0 h;obtain⟨h0,h⟩:=Zk h;have h0:=of_decide_eq_true h0;obtain⟨y,hy,h⟩:=bind_some h;obtain⟨cs,⟨hp,hr⟩,hv⟩:=ha.cells rfl;have hv:va=.agg cs.toArray:=hv;subst hv;simp only[Rep]at hr;obtain⟨hpe,hlen,hl2,_,hel⟩:=hr;have hlt:=(List.getElem?_eq_some_iff.1 hy).1;have hry:=hel _ y hy;have hsg:=seg_split' cs (i.toNat*e'.size) e'.size;have hA:(cs.take (i.toNat*e'.size)).length=i.toNat*e'.size:=by
       have:=Nat.mul_le_mul_right e'.size (show i.toNat<=m by omega);rw[List.length_take];omega
     obtain⟨v,hv,hI⟩:=Z50 (P:=E.P) hj (c1:=cs.take (i.toNat*e'.size)) (c3:=cs.drop (i.toNat*e'.size+e'.size)) (hry.length.trans hs) w;rw[<-hsg,hA,hs]at hv;exact⟨_,v,h,Zgh E.P w hT hj k i h0 (by omega) hv,.of (cs:=_) ⟨hpe,Rep.plain (Sealed.refl' _ _) _ hpe hry⟩ (by rw[<-eq_of_beq hg]at hI;exact hI),trivial⟩
   . cases h
 . cases h
where
 seg_split' {α:Type} (l:List α) (a s:Nat):l=l.take a++((l.drop a).take s++l.drop (a+s)):=by
   rw[<-List.drop_drop,List.take_append_drop,List.take_append_drop]
 Sealed.refl' (own:Own) (w:World):Sealed own w own w:=fun _ h=>⟨h,rfl⟩
end Go.Pv
namespace Go.Pv
open Go
variable {own own':Own}{w w':World}{G G':Gs}{ρ:Type}{E:Env}
def BndR:Option Value->Nat->Nat->Prop
 |none,d,n=>n=d
 |some v,_,n=>∃k i,v=.int k i/\0<=i/\n=i.toNat
theorem Z22 {x:Option AV}{vx:Option Value}{d:Nat}{K:Nat->Option ρ}{r:ρ}(hx:∀a,x=some a->∃v,vx=some v/\AVv own w G a v)(hn:x=none->vx=none)(h:bndK x d K=some r):
   ∃n,K n=some r/\BndR vx d n:=by
 unfold bndK at h;split at h
 . exact⟨d,h,by rw[hn rfl];rfl⟩
 . obtain⟨v,hv,ha⟩:=hx _ rfl;obtain⟨h0,h⟩:=Zk h;obtain⟨rfl,_⟩:=ha.int;exact⟨_,h,by rw[hv];exact⟨_,_,rfl,of_decide_eq_true h0,rfl⟩⟩
 . cases h
theorem Z8u {P:Program}{w:World}{isS:Bool}{len cap l h:Nat}{vl vh:Option Value}(hl:BndR vl 0 l)(hh:BndR vh len h)(h1:l<=h)(h2:h<=cap):
   (Instr.sliceBounds isS len cap vl vh none).run P w=.ok (l,h,cap) w:=by
 have key:∀(y:Nat)(c:BoundsCode)(k:IntKind)(i:Int),0<=i->i.toNat<=y->(Instr.sliceBound (.int k i) y c).run P w=.ok i.toNat w:=by
   intro y c k i h0 hy;unfold Instr.sliceBound;simp only[asIntOf,Sem.run_bind,Sem.run_pure,Result.andThen_ok];rw[if_pos ⟨h0,by omega⟩];rfl
 unfold Instr.sliceBounds;cases vl with
 | none=>
   cases vh with
   | none=>
     simp only[BndR]at hl hh;subst hl;subst hh;simp
   | some v=>
     obtain⟨k,i,rfl,h0,rfl⟩:=hh;simp only[BndR]at hl;subst hl;simp[key _ _ k i h0 h2]
 | some u=>
   obtain⟨k',i',rfl,h0',rfl⟩:=hl;cases vh with
   | none=>
     simp only[BndR]at hh;subst hh;simp[key _ _ k' i' h0' h1]
   | some v=>
     obtain⟨k,i,rfl,h0,rfl⟩:=hh;simp[key _ _ k i h0 h2,key _ _ k' i' h0' h1]
theorem Za8(hE:EnvOk E){T:Nat}(h:Zc5 E T=true):E.P.underlying T=some .string:=by
 unfold Zc5 at h;split at h
 . rename_i i hi;obtain⟨d,hd,hk,_⟩:=(hE.ti T i hi).und;split at h
   . rename_i e;rw[e]at hk;simp only[TDok]at hk;rw[hd,hk]
   . cases h
 . cases h
def cutV(B:Option Addr)(c size l n:Nat):Value:=.slice (if c=l then B else B.map (·.add (l*size))) n (c-l)
theorem Z7e {P:Program}{w:World}{T e:TypeId}{j:TI}(hT:P.underlying T=some (.slice e))(hj:TIok P j e){B:Option Addr}{n c l h:Nat}{vl vh:Option Value}(hl:BndR vl 0 l)(hh:BndR vh n h)(h1:l<=h)(h2:h<=c):
   (Instr.sliceAt T (.slice B n c) vl vh none).run P w=.ok (cutV B c j.size l (h-l)) w:=by
 unfold Instr.sliceAt;simp only[Sem.run_bind,run_underlying hT,Result.andThen_ok];unfold Instr.slice;simp only[Sem.run_bind,run_underlying hT,Result.andThen_ok,Z8u hl hh h1 h2,Z2l hj,Sem.run_pure];rfl
theorem Zbl {P:Program}{w:World}{T:TypeId}(hT:P.underlying T=some .string){s:ByteArray}{l h:Nat}{vl vh:Option Value}(hl:BndR vl 0 l)(hh:BndR vh s.size h)(h1:l<=h)(h2:h<=s.size):
   (Instr.sliceAt T (.string s) vl vh none).run P w=.ok (.string (s.extract l h)) w:=by
 unfold Instr.sliceAt;simp only[Sem.run_bind,run_underlying hT,Result.andThen_ok];unfold Instr.slice;simp[run_underlying hT,Z8u hl hh h1 h2]
theorem Zch(hE:EnvOk E){T:TypeId}{O:Obs}{a:AV}{va:Value}{lo hi:Option AV}{vl vh:Option Value}{K:AV->Option ρ}{r:ρ}(hO:Objs own w G O){P:Id->Prop}(ha:AVv own w G a va)(hm:a.men P)
   (hl:∀a,lo=some a->∃v,vl=some v/\AVv own w G a v) (hln:lo=none->vl=none) (hh:∀a,hi=some a->∃v,vh=some v/\AVv own w G a v) (hhn:hi=none->vh=none) (h:Z76 E T O a lo hi K=some r):
   ∃b v,K b=some r/\(Instr.sliceAt T va vl vh none).run E.P w=.ok v w/\AVv own w G b v/\b.men P:=by
 unfold Z76 at h;split at h
 . rename_i s;obtain⟨hT,h⟩:=Z0 h;obtain⟨l,h,hl⟩:=Z22 hl hln h;obtain⟨u,h,hh⟩:=Z22 hh hhn h;obtain⟨hb,h⟩:=Zk h;simp only[Bool.and_eq_true,decide_eq_true_eq]at hb;obtain⟨rfl,hs⟩:=ha.str;exact⟨_,_,h,Zbl (Za8 hE hT) hl hh hb.1 hb.2,.mkStr (by have:=hb.2;simp only[ByteArray.size_extract,maxLen]at*;omega),trivial⟩
 . rename_i e xs;obtain⟨e',j,hT,_,hj,h⟩:=Zv hE h;obtain⟨hsz,h⟩:=Z0 h;have hsz:=Z2 hsz;obtain⟨l,h,hl⟩:=Z22 hl hln h;obtain⟨u,h,hh⟩:=Z22 hh hhn h;obtain⟨hb,h⟩:=Zk h;simp only[Bool.and_eq_true,decide_eq_true_eq]at hb;obtain⟨hp,hr⟩:=ha.one rfl rfl;have hr':=hr;simp only[Rep]at hr';obtain⟨_,B,c,he,h1,h2,hel⟩:=hr';simp only[List.cons.injEq,and_true]at he;subst he;refine⟨_,_,h,Z7e hT hj hl hh hb.1 (by omega),.single rfl hp ?_,trivial⟩;refine Rep.part hr (by omega) (by omega) (by omega) fun hpos=>?_
   have hlt:0<xs.length:=by omega
   obtain⟨A,_,hA,_⟩:=hel 0 xs[0] (List.getElem?_eq_getElem hlt);refine⟨A,hA,?_⟩;rw[if_neg (by omega),hA,hsz];rfl
 . rename_i o;split at h
   . rename_i tid e xs hlk;obtain⟨e',j,hT,_,hj,h⟩:=Zv hE h;obtain⟨hsz,h⟩:=Z0 h;have hsz:=Z2 hsz;obtain⟨l,h,hl⟩:=Z22 hl hln h;obtain⟨u,h,hh⟩:=Z22 hh hhn h;obtain⟨hb,h⟩:=Zk h;simp only[Bool.and_eq_true,decide_eq_true_eq]at hb;obtain⟨hgs,_,hr⟩:=hO o _ hlk;obtain⟨he,_⟩:=ha.one rfl rfl;simp only[List.cons.injEq,and_true]at he;obtain⟨B,c,hv,h1,h2⟩:=Z1n hr;rw[hv]at he;subst he;refine⟨_,_,h,Z7e hT hj hl hh hb.1 (by omega),.of (cs:=[_]) ⟨B,xs.length,c,_,_,hv,rfl,by omega,by omega,by omega,?_,?_⟩ rfl,hm⟩
     . rintro rfl;refine⟨?_,by omega⟩;split
       . rfl
       . cases B<;>simp[Addr.add]
     . intro hpos;have hr2:=hr;rw[hv]at hr2;simp only[Rep,List.cons.injEq,and_true,Value.slice.injEq]at hr2;rcases hr2 with⟨_,hz⟩|⟨g,cap,cur,⟨rfl,_,rfl⟩,_⟩
       . omega
       . exact⟨_,rfl,by rw[if_neg (by omega),hgs,hsz];rfl⟩
   . cases h
 . rename_i o lo' n;split at h
   . rename_i tid e xs hlk;obtain⟨e',j,hT,_,hj,h⟩:=Zv hE h;obtain⟨hsz,h⟩:=Z0 h;have hsz:=Z2 hsz;obtain⟨l,h,hl⟩:=Z22 hl hln h;obtain⟨u,h,hh⟩:=Z22 hh hhn h;obtain⟨hb,h⟩:=Zk h;simp only[Bool.and_eq_true,decide_eq_true_eq]at hb;obtain⟨hgs,_,hr⟩:=hO o _ hlk;obtain⟨B,m,c,B',c',hv,he,h1,h2,h3,h4,h5⟩:=ha.one rfl rfl;simp only[List.cons.injEq,and_true]at he;subst he;refine⟨_,_,h,Z7e hT hj hl hh hb.1 (by omega),.of (cs:=[_]) ⟨B,m,c,_,_,hv,rfl,by omega,by omega,by omega,?_,?_⟩ rfl,hm⟩
     . intro h0;have hl0:lo'=0:=by omega
       have hl1:l=0:=by omega
       obtain⟨rfl,rfl⟩:=h4 hl0;subst hl1;refine⟨?_,by omega⟩;split
       . rfl
       . cases B'<;>simp[Addr.add]
     . intro hpos;obtain⟨A,hA,hB⟩:=h5 (by omega);refine⟨A,hA,?_⟩;rw[if_neg (by omega),hB,hgs,<-hsz];simp only[Option.map_some,Addr.add_add,<-Nat.add_mul]
   . cases h
 . cases h
end Go.Pv
namespace Go.Pv
open Go
variable {own own':Own}{w w':World}{G G':Gs}{ρ:Type}{E:Env}
theorem Z8v:∀{a:AV}{i:Nat}{va:Value}{K:AV->Option ρ}{r:ρ}{P:Id->Prop},AVv own w G a va->a.men P->opQ.tupAt a i K=some r->
   ∃b v,K b=some r/\(∃vs,va=.tuple vs/\vs[i]?=some v)/\AVv own w G b v/\b.men P
 | .tp a b,0,va,K,r,P,ha,hm,h=>by
   obtain⟨u,vs,rfl,h1,h2⟩:=ha;exact⟨a,u,h,⟨_,rfl,by simp⟩,h1,hm.1⟩
 | .tp a b,n+1,va,K,r,P,ha,hm,h=>by
   obtain⟨u,vs,rfl,h1,h2⟩:=ha;obtain⟨c,v,hk,⟨ws,he,hw⟩,hc,hcm⟩:=Z8v h2 hm.2 h;cases he;exact⟨c,v,hk,⟨_,rfl,by simpa using hw⟩,hc,hcm⟩
 |.dead,_,_,_,_,_,_,_,h=>by simp only[opQ.tupAt]at h;cases h
 |.v _ _,_,_,_,_,_,_,_,h=>by simp only[opQ.tupAt]at h;cases h
 |.pr _ _,_,_,_,_,_,_,_,h=>by simp only[opQ.tupAt]at h;cases h
 |.hole _,_,_,_,_,_,_,_,h=>by simp only[opQ.tupAt]at h;cases h
 |.ref _,_,_,_,_,_,_,_,h=>by simp only[opQ.tupAt]at h;cases h
 |.hs _ _ _,_,_,_,_,_,_,_,h=>by simp only[opQ.tupAt]at h;cases h
 |.p _ _ _,_,_,_,_,_,_,_,h=>by simp only[opQ.tupAt]at h;cases h
 |.e _ _ _ _,_,_,_,_,_,_,_,h=>by simp only[opQ.tupAt]at h;cases h
 |.s _ _ _,_,_,_,_,_,_,_,h=>by simp only[opQ.tupAt]at h;cases h
 |.ap _ _,_,_,_,_,_,_,_,h=>by simp only[opQ.tupAt]at h;cases h
 |.cl _ _,_,_,_,_,_,_,_,h=>by simp only[opQ.tupAt]at h;cases h
 |.tn,_,_,_,_,_,_,_,h=>by simp only[opQ.tupAt]at h;cases h
end Go.Pv
