/- A pure reading of Go code, function by function, over values without memory: the definitions. No condition. -/
import GoSem.Machine.Return
import Derived.Calls
set_option linter.unusedVariables false
set_option linter.unusedSectionVars false
namespace Go.Pv
open Go
inductive Tr where
 |mk (n:Int) (b o:List Tr)
def Tr.n:Tr->Int|.mk n _ _=>n
def Tr.b:Tr->List Tr|.mk _ b _=>b
def Tr.o:Tr->List Tr|.mk _ _ o=>o
inductive Ty where
 |int (k:IntKind)
 |bool
 |str
 |unit
 |pair (a b:Ty)
 |slc (e:Ty)
 |sptr (t:Ty)
 |own (tid:Nat) (e:Ty)
 |bx (t:Ty)
 |hole (n:Nat)
 |arr (n:Nat) (e:Ty)
 |mp (tid:Nat) (k v:Ty)
 |nilp
 |fo
 |hdr
 |clo (f:Nat) (a:Ty)
 deriving DecidableEq
@[reducible] def Ty.den:Ty->Type
 |.int _=>Int
 |.bool=>Bool
 |.str=>ByteArray
 |.unit=>Unit
 |.pair a b=>a.den×b.den
 |.slc e=>List e.den
 |.sptr t=>t.den
 |.own _ e=>List e.den
 |.bx t=>t.den
 |.hole _=>Unit
 |.arr _ e=>List e.den
 |.mp _ k v=>Option (List (k.den×v.den))
 |.nilp=>Unit
 |.fo=>List Tr
 |.hdr=>Nat
 |.clo _ a=>a.den
def Ty.size:Ty->Nat
 |.unit=>0
 |.pair a b=>Nat.add a.size b.size
 |.hole n=>n
 |.arr n e=>Nat.mul n e.size
 | _=>1
def Ty.agg:Ty->Bool
 |.unit=>true
 |.pair _ _=>true
 |.arr _ _=>true
 |.hole n=>match Nat.beq n 1 with|true=>false|false=>true
 | _=>false
def Ty.plain:Ty->Bool
 |.own _ _=>false
 |.bx _=>false
 |.hole _=>false
 |.pair a b=>a.plain&&b.plain
 |.slc e=>e.plain
 |.sptr t=>t.plain
 |.arr _ e=>e.plain
 |.mp _ _ _=>false
 |.clo _ a=>a.plain
 | _=>true
def Ty.apart:Ty->Bool
 |.slc _=>false
 |.sptr _=>false
 |.fo=>false
 |.hole _=>false
 |.pair a b=>a.apart&&b.apart
 |.own _ e=>e.apart
 |.bx t=>t.apart
 |.arr _ e=>e.apart
 |.mp _ k v=>k.apart&&v.apart
 |.clo _ a=>a.apart
 | _=>true
def Ty.zok:Ty->Bool
 |.own _ _=>true
 |.pair a b=>a.zok&&b.zok
 |t=>t.plain
def Ty.isOwn:Ty->Bool
 |.own _ _=>true
 | _=>false
def Ty.sh:Ty->Ty
 |.own _ e=>.slc e.sh
 |.pair a b=>.pair a.sh b.sh
 |.slc e=>.slc e.sh
 |.sptr t=>.sptr t.sh
 |.bx t=>.sptr t.sh
 |.arr n e=>.arr n e.sh
 |.clo f a=>.clo f a.sh
 |t=>t
theorem Ty.den_sh:∀t:Ty,t.sh.den=t.den
 |.int _=>rfl
 |.bool=>rfl
 |.str=>rfl
 |.unit=>rfl
 |.pair a b=>by simp only[Ty.sh,Ty.den];rw[den_sh a,den_sh b]
 |.slc e=>by simp only[Ty.sh,Ty.den];rw[den_sh e]
 |.own _ e=>by simp only[Ty.sh,Ty.den];rw[den_sh e]
 |.hole _=>rfl
 |.sptr t=>by simp only[Ty.sh,Ty.den];rw[den_sh t]
 |.bx t=>by simp only[Ty.sh,Ty.den];rw[den_sh t]
 |.arr _ e=>by simp only[Ty.sh,Ty.den];rw[den_sh e]
 |.clo _ a=>by simp only[Ty.sh,Ty.den];rw[den_sh a]
 |.mp _ _ _=>rfl
 |.nilp=>rfl
 |.fo=>rfl
 |.hdr=>rfl
def toSh(t:Ty)(x:t.den):t.sh.den:=cast (Ty.den_sh t).symm x
@[reducible] def Ty.nd:Ty:=.pair (.int .i64) (.pair .fo (.pair .fo .unit))
@[reducible] def trO(x:Tr):Ty.nd.den:=(x.n,x.b,x.o,())
@[reducible] def trI(x:Ty.nd.den):Tr:=.mk x.1 x.2.1 x.2.2.1
def Ze {ρ:Type}(t u:Ty)(x:t.den)(K:u.den->Option ρ):Option ρ:=
 if h:t=u then K (cast (congrArg Ty.den h) x)else none
abbrev Id:=List Nat
inductive SK where
 |hd (fp:List Bool) (off:Nat)
 |el (fp:List Bool) (off j sz:Nat)
 |bx (fp:List Bool) (off:Nat)
inductive AV where
 |dead
 |v (t:Ty) (x:t.den)
 |pr (a b:AV)
 |hole (n:Nat)
 |ref (o:Id)
 |hs (o:Id) (lo n:Nat)
 |p (o:Id) (fp:List Bool) (off:Nat)
 |e (o:Id) (i:Nat) (fp:List Bool) (off:Nat)
 |s (o:Id) (i:Nat) (k:SK)
 |ap (o:Id) (n:Nat)
 |cl (f:Nat) (a:AV)
 |tn
 |tp (a b:AV)
inductive Ob where
 |box (a:AV)
 |list (tid:Nat) (e:Ty) (xs:List e.den)
 |map (tid:Nat) (k v:Ty) (es:Option (List (k.den×v.den)))
abbrev Obs:=List (Id×Ob)
structure St where
 s:List AV
 o:Obs
def nif {α:Type}(c:Bool)(a b:α):α:=match c with|true=>a|false=>b
def nlen {α:Type}:List α->Nat
 |[]=>0
 | _::l=>Nat.succ (nlen l)
def nrep {α:Type}(a:α):Nat->List α
 |0=>[]
 |n+1=>a::nrep a n
def lget {α:Type}(xs:List α)(i:Nat):Option α:=xs[i]?
def nth {α:Type}:List α->Nat->Option α
 |[],_=>none
 |a::_,0=>some a
 | _::l,n+1=>nth l n
def St.get(σ:St)(i:Nat):AV:=match nth σ.s i with|some a=>a|none=>.dead
def idEq:Id->Id->Bool
 |[],[]=>true
 |a::l,b::m=>nif (Nat.beq a b) (idEq l m) false
 | _,_=>false
def pre:Id->Id->Bool
 |[],_=>true
 |a::l,b::m=>nif (Nat.beq a b) (pre l m) false
 | _,_=>false
def look:Obs->Id->Option Ob
 |[],_=>none
 |(j,b)::l,i=>nif (idEq j i) (some b) (look l i)
def has:Obs->Id->Bool
 |[],_=>false
 |(j,_)::l,i=>nif (idEq j i) true (has l i)
def hasP:Obs->Id->Bool
 |[],_=>false
 |(j,_)::l,i=>nif (pre i j) true (hasP l i)
def Z4u {α ρ:Type}:List α->Nat->α->(List α->ρ)->ρ
 |[],_,_,K=>K []
 | _::l,0,a,K=>K (a::l)
 |b::l,n+1,a,K=>Z4u l n a fun l'=>K (b::l')
def Z1a {ρ:Type}:Obs->Id->(Obs->ρ)->ρ
 |[],_,K=>K []
 |(j,b)::l,i,K=>Z1a l i fun l'=>nif (idEq j i) (K l') (K ((j,b)::l'))
def Z7v {ρ:Type}:Obs->Id->(Obs->ρ)->ρ
 |[],_,K=>K []
 |(j,b)::l,i,K=>Z7v l i fun l'=>nif (pre i j) (K l') (K ((j,b)::l'))
def putK {ρ:Type}:Obs->Id->Ob->(Obs->ρ)->ρ
 |[],_,_,K=>K []
 |(j,b)::l,i,c,K=>putK l i c fun l'=>nif (idEq j i) (K ((j,c)::l')) (K ((j,b)::l'))
def newK {ρ:Type}(O:Obs)(i:Id)(b:Ob)(K:Obs->Option ρ):Option ρ:=nif (has O i) none (K ((i,b)::O))
def St.setK {ρ:Type}(σ:St)(i:Nat)(a:AV)(K:St->ρ):ρ:=match σ with|⟨s,o⟩=>Z4u s i a fun s'=>K ⟨s',o⟩
def avK {ρ:Type}(a:AV)(K:AV->ρ):ρ:=
 match a with
 |.dead=>K .dead
 |.v t x=>K (.v t x)
 |.pr a b=>K (.pr a b)
 |.hole n=>K (.hole n)
 |.ref o=>K (.ref o)
 |.hs o lo n=>K (.hs o lo n)
 |.p o p n=>K (.p o p n)
 |.e o i p n=>K (.e o i p n)
 |.s o i k=>K (.s o i k)
 |.ap o n=>K (.ap o n)
 |.cl f a=>K (.cl f a)
 |.tn=>K .tn
 |.tp a b=>K (.tp a b)
def mkPr {ρ:Type}(a b:AV)(K:AV->ρ):ρ:=
 match a,b with
 |.v t x,.v u y=>K (.v (.pair t u) (x,y))
 |a,b=>K (.pr a b)
def AV.size:AV->Nat
 |.v t _=>t.size
 |.pr a b=>Nat.add a.size b.size
 |.hole n=>n
 |.ref _=>1
 |.hs _ _ _=>1
 |.p _ _ _=>1
 |.e _ _ _ _=>1
 |.s _ _ _=>1
 |.ap _ _=>1
 |.cl _ _=>1
 | _=>0
def AV.agg:AV->Bool
 |.v t _=>t.agg
 |.pr _ _=>true
 |.hole n=>nif (Nat.beq n 1) false true
 | _=>false
def AV.ok:AV->Bool
 |.dead=>false
 |.tn=>false
 |.tp _ _=>false
 |.s _ _ _=>false
 |.pr a b=>nif a.ok b.ok false
 |.cl _ a=>a.ok
 | _=>true
def swA {ρ:Type}(O:Obs):AV->(AV->ρ)->ρ
 |.dead,K=>K .dead
 |.v t x,K=>K (.v t x)
 |.pr a b,K=>swA O a fun a'=>swA O b fun b'=>mkPr a' b' K
 |.hole n,K=>K (.hole n)
 |.ref o,K=>nif (has O o) (K (.ref o)) (K (.hole 1))
 |.hs o lo n,K=>nif (has O o) (K (.hs o lo n)) (K (.hole 1))
 |.p o p n,K=>nif (has O o) (K (.p o p n)) (K (.hole 1))
 |.e o i p n,K=>nif (has O o) (K (.e o i p n)) (K (.hole 1))
 |.s _ _ _,K=>K (.hole 1)
 |.ap o n,K=>nif (has O o) (K (.ap o n)) (K (.hole 1))
 |.cl f a,K=>swA O a fun a'=>K (.cl f a')
 |.tn,K=>K .tn
 |.tp a b,K=>swA O a fun a'=>swA O b fun b'=>K (.tp a' b')
def swS {ρ:Type}(O:Obs):List AV->(List AV->ρ)->ρ
 |[],K=>K []
 |a::l,K=>swA O a fun a'=>swS O l fun l'=>K (a'::l')
def swO {ρ:Type}(O:Obs):Obs->(Obs->ρ)->ρ
 |[],K=>K []
 |(i,.box a)::l,K=>swA O a fun a'=>swO O l fun l'=>K ((i,.box a')::l')
 |(i,.list t e xs)::l,K=>swO O l fun l'=>K ((i,.list t e xs)::l')
 |(i,.map t k v es)::l,K=>swO O l fun l'=>K ((i,.map t k v es)::l')
def St.sweepK {ρ:Type}(σ:St)(K:St->ρ):ρ:=match σ with|⟨s,O⟩=>swS O s fun s'=>swO O O fun O'=>K ⟨s',O'⟩
def St.clearK {ρ:Type}(σ:St)(d:Nat)(K:St->ρ):ρ:=
 match σ with
 |⟨s,O⟩=>nif (hasP O [d]) (Z7v O [d] fun O'=>(⟨s,O'⟩:St).sweepK K) (K ⟨s,O⟩)
def fld:Nat->List Bool
 |0=>[false]
 |n+1=>true::fld n
def getF {ρ:Type}:AV->List Bool->(AV->Option ρ)->Option ρ
 |a,[],K=>K a
 |.pr a _,false::p,K=>getF a p K
 |.pr _ b,true::p,K=>getF b p K
 |.v (.pair a _) x,false::p,K=>getF (.v a x.1) p K
 |.v (.pair _ b) x,true::p,K=>getF (.v b x.2) p K
 | _,_::_,_=>none
termination_by structural _ p=>p
def setF {ρ:Type}:AV->List Bool->AV->(AV->Option ρ)->Option ρ
 |a,[],c,K=>nif c.ok (nif (Nat.beq a.size c.size) (K c) none) none
 |.pr a b,false::p,c,K=>setF a p c fun a'=>mkPr a' b K
 |.pr a b,true::p,c,K=>setF b p c fun b'=>mkPr a b' K
 |.v (.pair a b) x,false::p,c,K=>setF (.v a x.1) p c fun a'=>mkPr a' (.v b x.2) K
 |.v (.pair a b) x,true::p,c,K=>setF (.v b x.2) p c fun b'=>mkPr (.v a x.1) b' K
 | _,_::_,_,_=>none
termination_by structural _ p=>p
def offF:AV->List Bool->Nat
 | _,[]=>0
 |.pr a _,false::p=>offF a p
 |.pr a b,true::p=>Nat.add a.size (offF b p)
 |.v (.pair a _) x,false::p=>offF (.v a x.1) p
 |.v (.pair a b) x,true::p=>Nat.add a.size (offF (.v b x.2) p)
 | _,_::_=>0
termination_by structural _ p=>p
def offT:Ty->List Bool->Nat
 | _,[]=>0
 |.pair a _,false::p=>offT a p
 |.pair a b,true::p=>Nat.add a.size (offT b p)
 | _,_::_=>0
termination_by structural _ p=>p
def subT:Ty->List Bool->Option Ty
 |t,[]=>some t
 |.pair a _,false::p=>subT a p
 |.pair _ b,true::p=>subT b p
 | _,_::_=>none
termination_by structural _ p=>p
def Z3w {ρ:Type}:(e:Ty)->e.den->List Bool->((tid:Nat)->(e2:Ty)->List e2.den->Option ρ)->Option ρ
 |.own tid e2,xs,[],K=>K tid e2 xs
 |.pair a _,x,false::p,K=>Z3w a x.1 p K
 |.pair _ b,x,true::p,K=>Z3w b x.2 p K
 | _,_,_,_=>none
def Z4v {ρ:Type}:(e:Ty)->e.den->List Bool->((tid:Nat)->(e2:Ty)->List e2.den->(List e2.den->Option ρ)->Option ρ)->(e.den->Option ρ)->Option ρ
 |.own tid e2,xs,[],f,K=>f tid e2 xs K
 |.pair a _,x,false::p,f,K=>Z4v a x.1 p f fun y=>K (y,x.2)
 |.pair _ b,x,true::p,f,K=>Z4v b x.2 p f fun y=>K (x.1,y)
 | _,_,_,_,_=>none
def Zb5(t:Ty)(p:List Bool):Bool:=match subT t p with|some u=>u.plain|none=>false
def unpK {ρ:Type}:(t:Ty)->t.den->Id->Obs->(AV->Obs->Option ρ)->Option ρ
 |.int k,x,_,O,K=>K (.v (.int k) x) O
 |.bool,x,_,O,K=>K (.v .bool x) O
 |.str,x,_,O,K=>K (.v .str x) O
 |.unit,x,_,O,K=>K (.v .unit x) O
 |.slc e,x,_,O,K=>nif e.plain (K (.v (.slc e) x) O) none
 |.sptr t,x,_,O,K=>nif t.plain (K (.v (.sptr t) x) O) none
 |.hole n,_,_,O,K=>K (.hole n) O
 |.nilp,x,_,O,K=>K (.v .nilp x) O
 |.fo,x,_,O,K=>K (.v .fo x) O
 |.hdr,x,_,O,K=>K (.v .hdr x) O
 |.arr n e,x,_,O,K=>nif e.plain (K (.v (.arr n e) x) O) none
 |.clo f a,x,_,O,K=>nif a.plain (K (.v (.clo f a) x) O) none
 |.mp tid k v,es,r,O,K=>newK O r (.map tid k v es) fun O'=>K (.ref r) O'
 |.own tid e,xs,r,O,K=>newK O r (.list tid e xs) fun O'=>K (.ref r) O'
 |.bx t,x,r,O,K=>unpK t x (r++[2]) O fun a O'=>newK O' r (.box a) fun O''=>K (.p r [] 0) O''
 |.pair a b,x,r,O,K=>unpK a x.1 (r++[0]) O fun a' O'=>unpK b x.2 (r++[1]) O' fun b' O''=>mkPr a' b' fun c=>K c O''
def pkK {ρ:Type}:AV->Obs->((t:Ty)->t.den->Obs->Option ρ)->Option ρ
 |.v t x,O,K=>K t x O
 |.pr a b,O,K=>pkK a O fun t x O1=>pkK b O1 fun u y O2=>K (.pair t u) (x,y) O2
 |.hole n,O,K=>K (.hole n) () O
 | .ref o,O,K=>match look O o with
   |some (.list tid e xs)=>Z1a O o fun O'=>K (.own tid e) xs O'
   |some (.map tid k v es)=>Z1a O o fun O'=>K (.mp tid k v) es O'
   | _=>none
 | _,_,_=>none
def pkE {ρ:Type}(a:AV)(O:Obs)(K:(t:Ty)->t.den->Obs->Option ρ):Option ρ:=
 match a with
 | .hs o 0 n=>match look O o with
   |some (.list tid e xs)=>Z1a O o fun O'=>K (.own tid e) (xs.take n) O'
   | _=>none
 |a=>pkK a O K
def vwK {ρ:Type}:Nat->AV->Obs->((t:Ty)->t.den->Bool->Option ρ)->Option ρ
 |0,_,_,_=>none
 | _+1,.v t x,_,K=>K t x false
 |k+1,.pr a b,O,K=>vwK k a O fun t x c=>vwK k b O fun u y d=>K (.pair t u) (x,y) (nif c true d)
 | _+1,.ref o,O,K=>match look O o with
   |some (.list _ e xs)=>K (Ty.slc e).sh (toSh (.slc e) xs) true
   | _=>none
 | _+1,.hs o lo n,O,K=>match look O o with
   |some (.list _ e xs)=>K (Ty.slc e).sh (toSh (.slc e) ((xs.drop lo).take n)) true
   | _=>none
 | _+1,.s o i (.hd fp n),O,K=>match look O o with
   |some (.list _ e xs)=>nif (Nat.beq (offT e fp) n) ((lget xs i).bind fun y=>Z3w e y fp fun _ e2 ys=>K (Ty.slc e2).sh (toSh (.slc e2) ys) true) none
   | _=>none
 | k+1,.p o fp n,O,K=>match look O o with
   |some (.box a)=>nif (Nat.beq (offF a fp) n) (getF a fp fun b=>vwK k b O fun t x _=>K (.sptr t) x true) none
   | _=>none
 | _ +1,.e o i fp n,O,K=>match look O o with
   | some (.list _ e xs)=>nif (Nat.beq (offT e fp) n) ((lget xs i).bind fun y=>getF (.v e y) fp fun b=>match b with
     |.v u z=>K (Ty.sptr u).sh (toSh (.sptr u) z) true
     | _=>none) none
   | _=>none
 | _+1,.ap o n,O,K=>match look O o with
   |some (.list _ e xs)=>nif e.plain (K (.sptr (.arr n e)) xs true) none
   | _=>none
 |k+1,.cl f a,O,K=>vwK k a O fun t x c=>K (.clo f t) x c
 | _+1,_,_,_=>none
def foK {ρ:Type}(t u:Ty)(x:t.den)(K:u.den->Option ρ)(z:Option ρ):Option ρ:=
 match t,u,x,K with
 |.own _ (.pair (.int .i64) (.pair .fo (.pair .fo .unit))),.fo,xs,K=>K (List.map trI xs)
 | _,_,_,_=>z
def fitK {ρ:Type}(t u:Ty)(x:t.den)(K:u.den->Option ρ):Option ρ:=
 if h:t=u then K (cast (congrArg Ty.den h) x)else foK t u x K (nif t.sh.plain (Ze t.sh u (toSh t x) K) none)
structure Dv where
 t:Ty
 x:t.den
inductive TD where
 |int (k:IntKind)
 |bool
 |str
 |slice (e:Nat)
 |array (n e:Nat)
 |map (k e:Nat)
 |ptr (e:Nat)
 |struct (fs:List (Nat×Nat))
 |other
structure TI where
 size:Nat
 bytes:Nat
 agg:Bool
 eq:Bool
 zero:Dv
 d:TD
inductive PM where
 |val|mov|lend|lendv
 deriving DecidableEq
structure Sg where
 ps:List (PM×Ty)
 rs:List Ty
@[reducible] def chain:List Ty->Ty
 |[]=>.unit
 |t::l=>.pair t (chain l)
@[reducible] def Zo:List (PM×Ty)->List Ty
 |[]=>[]
 |(.lend,t)::l=>t::Zo l
 |(.lendv,t)::l=>t::Zo l
 |(.val,_)::l=>Zo l
 |(.mov,_)::l=>Zo l
@[reducible] def Z23:List (PM×Ty)->List Ty
 |[]=>[]
 |(_,t)::l=>t::Z23 l
@[reducible] def Sg.A(s:Sg):Ty:=chain (Z23 s.ps)
@[reducible] def Sg.R(s:Sg):Ty:=.pair (chain s.rs) (chain (Zo s.ps))
structure Env where
 P:Program
 fnL:List (Nat×Func)
 tiL:List (Nat×TI)
 sgL:List (Nat×Sg)
 cloL:List (Nat×Nat×Nat)
 liveL:List (Nat×List (List Nat))
 cutL:List (Nat×List (Nat×List Nat))
 ovL:List (Nat×List (Nat×Ty))
 shutL:List (Nat×List Nat)
def lk {α:Type}:List (Nat×α)->Nat->Option α
 |[],_=>none
 |(j,b)::l,i=>nif (Nat.beq j i) (some b) (lk l i)
def Env.fn(E:Env)(f:Nat):Option Func:=lk E.fnL f
def Env.ti(E:Env)(f:Nat):Option TI:=lk E.tiL f
def Env.sg(E:Env)(f:Nat):Option Sg:=lk E.sgL f
def Env.live(E:Env)(f:Nat):List (List Nat):=match lk E.liveL f with|some l=>l|none=>[]
def Env.cuts(E:Env)(f:Nat):List (Nat×List Nat):=match lk E.cutL f with|some l=>l|none=>[]
def Env.ov(E:Env)(f d:Nat):Option Ty:=match lk E.ovL f with|some l=>lk l d|none=>none
def Env.shut(E:Env)(f d:Nat):Bool:=match lk E.shutL f with|some l=>l.any (Nat.beq d)|none=>false
section ops
variable {ρ:Type}(E:Env)
def St.ev(σ:St):Operand->AV
 |.tmp t=>σ.get t
 |.const (.int k n)=>nif (decide (k.min<=n)&&decide (n<=k.max)) (.v (.int k) n) .dead
 |.const (.bool b)=>.v .bool b
 |.const (.string s)=>nif (Nat.ble s.size 1000000) (.v .str s) .dead
 |.func f=>.cl f (.v .unit ())
 | _=>.dead
def Z1q:Operand->Bool
 |.const (.slice none 0 0)=>true
 | _=>false
def tiK(T:Nat)(K:TI->Option ρ):Option ρ:=match E.ti T with|some i=>K i|none=>none
def Z1f(T:Nat)(K:Nat->TI->Option ρ):Option ρ:=tiK E T fun i=>match i.d with|.slice e=>tiK E e fun j=>K e j| _=>none
def ikN:IntKind->Nat
 |.i8=>0|.i16=>1|.i32=>2|.i64=>3|.u8=>4|.u16=>5|.u32=>6|.u64=>7
def ovT(f d:Nat)(t:Ty):Ty:=match E.ov f d with|some u=>u|none=>t
def mkK(f d:Nat)(i:Id)(O:Obs)(t:Ty)(x:t.den)(K:AV->Obs->Option ρ):Option ρ:=
 nif (E.shut f d) (nif t.sh.plain (K (.v t.sh (toSh t x)) O) none) (unpK t x i O K)
def Z9z(f d:Nat)(i:Id)(O:Obs)(T:Nat)(K:AV->Obs->Option ρ):Option ρ:=
 tiK E T fun j=>mkK E f d i O j.zero.t j.zero.x K
def nilK(f d:Nat)(i:Id)(O:Obs)(T:Nat)(K:AV->Obs->Option ρ):Option ρ:=
 tiK E T fun j=>nif j.zero.t.isOwn (mkK E f d i O j.zero.t j.zero.x K) none
def bitsI(op:BinOp)(k:IntKind)(x y:Int):Int:=
 let a:=BitVec.ofInt k.bits x
 let b:=BitVec.ofInt k.bits y
 k.wrap (match op with|.and=>(a&&&b).toNat|.or=>(a|||b).toNat|.xor=>(a^^^b).toNat| _=>(a&&&~~~b).toNat:Nat)
def shlI(k:IntKind)(x y:Int):Int:=k.wrap (x*2^min y.toNat k.bits)
def shrI(k:IntKind)(x y:Int):Int:=x.fdiv (2^min y.toNat k.bits)
def intK(op:BinOp)(k:IntKind)(x y:Int)(K:AV->Option ρ):Option ρ:=
 match op with
 |.add=>K (.v (.int k) (k.wrap (x+y)))
 |.sub=>K (.v (.int k) (k.wrap (x-y)))
 |.mul=>K (.v (.int k) (k.wrap (x*y)))
 |.quo=>bif decide (y=0)then none else K (.v (.int k) (k.wrap (x.tdiv y)))
 |.rem=>bif decide (y=0)then none else K (.v (.int k) (x.tmod y))
 |.eql=>K (.v .bool (x==y))
 |.neq=>K (.v .bool (x !=y))
 |.lss=>K (.v .bool (decide (x<y)))
 |.leq=>K (.v .bool (decide (x<=y)))
 |.gtr=>K (.v .bool (decide (x>y)))
 |.geq=>K (.v .bool (decide (x≥y)))
 |.and=>K (.v (.int k) (bitsI .and k x y))
 |.or=>K (.v (.int k) (bitsI .or k x y))
 |.xor=>K (.v (.int k) (bitsI .xor k x y))
 |.andNot=>K (.v (.int k) (bitsI .andNot k x y))
 | _=>none
def Ty.eqOk:Ty->Bool
 |.int _=>true
 |.bool=>true
 |.pair a b=>nif a.eqOk b.eqOk false
 |.unit=>true
 | _=>false
def Ty.keyOk:Ty->Bool
 |.str=>true
 |.pair a b=>nif a.eqOk b.eqOk false
 |.int _=>true
 | _=>false
def Ty.flat:Ty->Bool
 |.int _=>true
 |.bool=>true
 |.str=>true
 |.unit=>true
 |.pair a b=>nif a.flat b.flat false
 | _=>false
def Ty.mvOk:Ty->Bool
 |.bx _=>true
 |t=>t.flat
def eqV:(t:Ty)->t.den->t.den->Bool
 |.int _,x,y=>x==y
 |.str,x,y=>x==y
 |.bool,x,y=>x==y
 |.pair a .unit,x,y=>eqV a x.1 y.1
 |.pair a b,x,y=>eqV a x.1 y.1&&eqV b x.2 y.2
 | _,_,_=>true
def eqFs(f:Nat->Ty->Bool):Nat->List (Nat×Nat)->Ty->Bool
 | _,[],.unit=>true
 |o,(p,T)::l,.pair a b=>nif (Nat.beq o p) (nif (f T a) (eqFs f (Nat.add o a.size) l b) false) false
 | _,_,_=>false
def eqM(f:Nat->Ty->Bool)(d:TD)(t:Ty):Bool:=
 match d,t with
 |.int k,.int k'=>Nat.beq (ikN k) (ikN k')
 |.bool,.bool=>true
 |.str,.str=>true
 |.struct fs,.pair a b=>eqFs f 0 fs (.pair a b)
 | _,_=>false
def eqT:Nat->Nat->Ty->Bool
 |0,_,_=>false
 | k+1,T,t=>match E.ti T with
   |some i=>nif i.eq (nif (Nat.beq i.size t.size) (nif (i.agg==t.agg) (eqM (eqT k) i.d t) false) false) false
   |none=>false
def Zb6(T:Nat):Bool:=match E.ti T with|some i=>(match i.d with|.bool=>true| _=>false)|none=>false
def binK(op:BinOp)(T:Nat)(a b:AV)(K:AV->Option ρ):Option ρ:=
 match op,a,b with
 |.shl,.v (.int k) x,.v (.int _) y=>bif decide (y<0)then none else K (.v (.int k) (shlI k x y))
 |.shr,.v (.int k) x,.v (.int _) y=>bif decide (y<0)then none else K (.v (.int k) (shrI k x y))
 |op,.v (.int k) x,.v (.int k') y=>nif (Nat.beq (ikN k) (ikN k')) (intK op k x y K) none
 |.add,.v .str x,.v .str y=>bif decide (x.size+y.size<=9223372036854775807)then K (.v .str (x++y))else none
 |.eql,.v .str x,.v .str y=>K (.v .bool (x.toList==y.toList))
 |.neq,.v .str x,.v .str y=>K (.v .bool (!(x.toList==y.toList)))
 |.eql,.v .bool x,.v .bool y=>nif (Zb6 E T) (K (.v .bool (x==y))) none
 |.neq,.v .bool x,.v .bool y=>nif (Zb6 E T) (K (.v .bool (!(x==y)))) none
 |.eql,.v (.pair a b) x,.v u y=>nif (Ty.pair a b).eqOk (nif (eqT E 8 T (.pair a b)) (Ze u (.pair a b) y fun y=>K (.v .bool (eqV (.pair a b) x y))) none) none
 |.neq,.v (.pair a b) x,.v u y=>nif (Ty.pair a b).eqOk (nif (eqT E 8 T (.pair a b)) (Ze u (.pair a b) y fun y=>K (.v .bool (!(eqV (.pair a b) x y)))) none) none
 | _,_,_=>none
def Zhs:Operand->Bool
 |.const (.map none)=>true
 |.const (.pointer none)=>true
 | _=>false
def nilB(d:TD)(y:Operand)(O:Obs)(a:AV):Option Bool:=
 match d with
 | .map _ _=>(match y with
   | .const (.map none)=>(match a with
     |.ref o=>(match look O o with|some (.map _ _ _ es)=>some es.isNone| _=>none)
     | _=>none)
   | _=>none)
 | .ptr _=>(match y with
   | .const (.pointer none)=>(match a with
     |.v .nilp _=>some true
     |.s _ _ (.bx _ _)=>some false
     | _=>none)
   | _=>none)
 | _=>none
def Z75(op:BinOp)(T:Nat)(y:Operand)(O:Obs)(a:AV)(K:AV->Option ρ):Option ρ:=
 tiK E T fun i=>match nilB i.d y O a with
   |some b=>(match op with|.eql=>K (.v .bool b)|.neq=>K (.v .bool (!b))| _=>none)
   |none=>none
def unK(op:UnOp)(a:AV)(K:AV->Option ρ):Option ρ:=
 match op,a with
 |.not,.v .bool b=>K (.v .bool (!b))
 |.neg,.v (.int k) n=>K (.v (.int k) (k.wrap (0-n)))
 |.xor,.v (.int k) n=>K (.v (.int k) (bitsI .xor k (if k.signed then -1 else k.max) n))
 | _,_=>none
def lenK(d:TD)(O:Obs)(a:AV)(K:AV->Option ρ):Option ρ:=
 match d with
 | .str=>(match a with
   |.v .str s=>K (.v (.int .i64) (s.size:Int))
   | _=>none)
 | .slice _=>(match a with
   |.v (.slc _) xs=>K (.v (.int .i64) (xs.length:Int))
   |.v .fo xs=>K (.v (.int .i64) (List.length (α:=Tr) xs:Int))
   |.v .hdr n=>K (.v (.int .i64) (n:Int))
   |.hs _ _ n=>K (.v (.int .i64) (n:Int))
   | .ref o=>(match look O o with
     |some (.list _ _ xs)=>K (.v (.int .i64) (xs.length:Int))
     | _=>none)
   | .s o i (.hd fp n)=>(match look O o with
     |some (.list _ e xs)=>nif (Nat.beq (offT e fp) n) ((lget xs i).bind fun y=>Z3w e y fp fun _ _ ys=>K (.v (.int .i64) (ys.length:Int))) none
     | _=>none)
   | _=>none)
 | .map _ _=>(match a with
   | .ref o=>(match look O o with
     |some (.map _ _ _ es)=>bif decide ((es.getD []).length<=9223372036854775807)then K (.v (.int .i64) ((es.getD []).length:Int))else none
     | _=>none)
   | _=>none)
 | _=>none
def Z3x(O:Obs)(size:Nat)(x i:AV)(K:AV->Option ρ):Option ρ:=
 match i with
 | .v (.int _) i=>
   match x with
   |.v (.slc e) xs=>nif (Nat.beq e.size size) (bif decide (0<=i)then(lget xs i.toNat).bind fun y=>K (.v (.sptr e) y)else none) none
   |.v .fo xs=>nif (Nat.beq 3 size) (bif decide (0<=i)then(lget (α:=Tr) xs i.toNat).bind fun y=>K (.v (.sptr Ty.nd) (trO y))else none) none
   | .ref o=>match look O o with
     |some (.list _ e xs)=>nif (Nat.beq e.size size) (bif decide (0<=i)&&decide (i.toNat<xs.length)then K (.e o i.toNat [] 0)else none) none
     | _=>none
   | .hs o lo n=>match look O o with
     |some (.list _ e xs)=>nif (Nat.beq e.size size) (bif decide (0<=i)&&decide (i.toNat<n)&&decide (lo+i.toNat<xs.length)then K (.e o (lo+i.toNat) [] 0)else none) none
     | _=>none
   | .s o q (.hd fp n)=>match look O o with
     |some (.list _ e xs)=>nif (Nat.beq (offT e fp) n) ((lget xs q).bind fun y=>Z3w e y fp fun _ e2 ys=>nif e2.plain (nif (Nat.beq e2.size size) (bif decide (0<=i)&&decide (i.toNat<ys.length)then K (.s o q (.el fp n i.toNat size))else none) none) none) none
     | _=>none
   | _=>none
 | _=>none
def Z5a(O:Obs)(n size:Nat)(x i:AV)(K:AV->Option ρ):Option ρ:=
 match i with
 | .v (.int _) i=>
   match x with
   |.v (.sptr (.arr m e)) xs=>nif (Nat.beq m n) (nif (Nat.beq e.size size) (bif decide (0<=i)then(lget xs i.toNat).bind fun y=>K (.v (.sptr e) y)else none) none) none
   | .ap o m=>match look O o with
     |some (.list _ e xs)=>nif (Nat.beq m n) (nif (Nat.beq e.size size) (bif decide (0<=i)&&decide (i.toNat<xs.length)then K (.e o i.toNat [] 0)else none) none) none
     | _=>none
   | _=>none
 | _=>none
def Z5b(n size:Nat)(agg:Bool)(x i:AV)(K:AV->Option ρ):Option ρ:=
 match i with
 | .v (.int _) i=>
   match x with
   |.v (.arr m e) xs=>nif (Nat.beq m n) (nif (Nat.beq e.size size) (nif (e.agg==agg) (bif decide (0<=i)then(lget xs i.toNat).bind fun y=>K (.v e y)else none) none) none) none
   | _=>none
 | _=>none
def mfind(k:Ty){β:Type}:List (k.den×β)->k.den->Option β
 |[],_=>none
 |(a,b)::l,x=>bif eqV k x a then some b else mfind k l x
def midx(k:Ty){β:Type}:List (k.den×β)->k.den->Option Nat
 |[],_=>none
 |(a,_)::l,x=>bif eqV k x a then some 0 else(midx k l x).map Nat.succ
def mset {α β:Type}:List (α×β)->Nat->β->List (α×β)
 |[],_,_=>[]
 |e::l,0,y=>(e.1,y)::l
 |e::l,i+1,y=>e::mset l i y
def mput(k:Ty){β:Type}:List (k.den×β)->k.den->β->List (k.den×β)
 |[],x,y=>[(x,y)]
 |(a,b)::l,x,y=>bif eqV k x a then(x,y)::l else(a,b)::mput k l x y
def Z6a(T:Nat)(K:Nat->Nat->Option ρ):Option ρ:=tiK E T fun i=>match i.d with|.map k v=>K k v| _=>none
def Za0 (O:Obs)(kT vT:Nat)(m x:AV)(ok:Bool)(K:AV->Option ρ):Option ρ:=
 match m,x with
 | .ref o,.v u y=>match look O o with
   | some (.map _ k v es)=>nif k.keyOk (nif (eqT E 8 kT k) (Ze u k y fun y=>nif v.flat (tiK E vT fun j=>Ze j.zero.t v j.zero.x fun z=>
     match ok with
     |true=>K (.tp (.v v ((mfind k (es.getD []) y).getD z)) (.tp (.v .bool (mfind k (es.getD []) y).isSome) .tn))
     | false=>K (.v v ((mfind k (es.getD []) y).getD z))) (match v with
       | .bx _=>(match ok with
         |true=>none
         |false=>tiK E vT fun j=>Ze j.zero.t .nilp j.zero.x fun _=>bif(midx k (es.getD []) y).isSome then(midx k (es.getD []) y).bind fun i=>K (.s o i (.bx [] 0))else K (.v .nilp ()))
       | _=>none)) none) none
   | _=>none
 | _,_=>none
def Z5c(O:Obs)(kT:Nat)(m x z:AV)(K:Obs->Bool->Option ρ):Option ρ:=
 match m,x,z with
 | .ref o,.v u y,.v t z=>match look O o with
   |some (.map tid k v es)=>nif k.keyOk (nif (eqT E 8 kT k) (Ze u k y fun y=>Ze t v z fun z=>es.bind fun l=>putK O o (.map tid k v (some (mput k l y z))) fun O'=>K O' false) none) none
   | _=>none
 | .ref o,.v u y,.p b [] 0=>match look O o with
   | some (.map tid k (.bx v) es)=>nif k.keyOk (nif (eqT E 8 kT k) (Ze u k y fun y=>match look O b with
     |some (.box c)=>pkK c O fun t z O1=>Ze t v z fun z=>Z1a O1 b fun O2=>nif (has O2 o) (es.bind fun l=>putK O2 o (.map tid k (.bx v) (some (mput k l y z))) fun O'=>K O' true) none
     | _=>none) none) none
   | _=>none
 | _,_,_=>none
def bt(s:ByteArray)(i:Nat):Option Int:=(s.data[i]?).map fun b=>(b.toNat:Int)
def idxK(x i:AV)(K:AV->Option ρ):Option ρ:=
 match x,i with
 |.v .str s,.v (.int _) i=>bif decide (0<=i)then(bt s i.toNat).bind fun b=>K (.v (.int .u8) b)else none
 | _,_=>none
def bndK(x:Option AV)(dflt:Nat)(K:Nat->Option ρ):Option ρ:=
 match x with
 |none=>K dflt
 |some (.v (.int _) i)=>bif decide (0<=i)then K i.toNat else none
 |some _=>none
def Zc5(T:Nat):Bool:=match E.ti T with|some i=>(match i.d with|.str=>true| _=>false)|none=>false
def Z76(T:Nat)(O:Obs)(x:AV)(lo hi:Option AV)(K:AV->Option ρ):Option ρ:=
 match x with
 |.v .str s=>nif (Zc5 E T) (bndK lo 0 fun l=>bndK hi s.size fun h=>bif decide (l<=h)&&decide (h<=s.size)then K (.v .str (s.extract l h))else none) none
 |.v (.slc e) xs=>Z1f E T fun _ j=>nif (Nat.beq e.size j.size) (bndK lo 0 fun l=>bndK hi xs.length fun h=>bif decide (l<=h)&&decide (h<=xs.length)then K (.v (.slc e) ((xs.drop l).take (h-l)))else none) none
 | .ref o=>match look O o with
   |some (.list _ e xs)=>Z1f E T fun _ j=>nif (Nat.beq e.size j.size) (bndK lo 0 fun l=>bndK hi xs.length fun h=>bif decide (l<=h)&&decide (h<=xs.length)then K (.hs o l (h-l))else none) none
   | _=>none
 | .hs o a n=>match look O o with
   |some (.list _ e _)=>Z1f E T fun _ j=>nif (Nat.beq e.size j.size) (bndK lo 0 fun l=>bndK hi n fun h=>bif decide (l<=h)&&decide (h<=n)then K (.hs o (a+l) (h-l))else none) none
   | _=>none
 | _=>none
def Z2z(S:Nat)(off:List Bool->Nat)(size:List Bool->Option (Nat×Bool))(f:Nat)(K:List Bool->Option ρ):Option ρ:=
 tiK E S fun i=>match i.d with
   | .struct fs=>match nth fs f with
     | some (o,T)=>tiK E T fun j=>match size (fld f)with
       |some (n,g)=>nif (Nat.beq (off (fld f)) o) (nif (Nat.beq n j.size) (nif (Nat.beq n 0) none (nif (g==j.agg) (K (fld f)) none)) none) none
       |none=>none
     |none=>none
   | _=>none
def Zc6(a:AV)(p:List Bool):Option (Nat×Bool):=getF a p fun b=>some (b.size,b.agg)
def Zc7(t:Ty)(p:List Bool):Option (Nat×Bool):=match subT t p with|some u=>some (u.size,u.agg)|none=>none
def Z3y(O:Obs)(S:Nat)(x:AV)(f:Nat)(K:AV->Option ρ):Option ρ:=
 match x with
 |.v (.sptr t) y=>Z2z E S (offT t) (Zc7 t) f fun p=>getF (.v t y) p fun b=>match b with|.v u z=>K (.v (.sptr u) z)| _=>none
 | .p o fp n=>match look O o with
   |some (.box a)=>getF a fp fun b=>Z2z E S (offF b) (Zc6 b) f fun p=>K (.p o (fp++p) (Nat.add n (offF b p)))
   | _=>none
 | .e o i fp n=>match look O o with
   | some (.list _ e _)=>match subT e fp with
     |some u=>Z2z E S (offT u) (Zc7 u) f fun p=>K (.e o i (fp++p) (Nat.add n (offT u p)))
     |none=>none
   | _=>none
 | .s o i (.bx fp n)=>match look O o with
   | some (.map _ _ (.bx t) _)=>match subT t fp with
     |some u=>Z2z E S (offT u) (Zc7 u) f fun p=>K (.s o i (.bx (fp++p) (Nat.add n (offT u p))))
     |none=>none
   | _=>none
 | _=>none
def fldK(S:Nat)(x:AV)(f:Nat)(K:AV->Option ρ):Option ρ:=
 nif x.agg (Z2z E S (offF x) (Zc6 x) f fun p=>getF x p K) none
def Za1(O:Obs)(size:Nat)(agg:Bool)(a:AV)(K:AV->Option ρ):Option ρ:=
 match a with
 |.v (.sptr t) x=>nif (Nat.beq t.size size) (nif (t.agg==agg) (K (.v t x)) none) none
 | .p o fp n=>match look O o with
   |some (.box a)=>nif (Nat.beq (offF a fp) n) (getF a fp fun b=>nif (Nat.beq b.size size) (nif (b.agg==agg) (K b) none) none) none
   | _=>none
 | .e o i fp n=>match look O o with
   | some (.list _ e xs)=>nif (Zb5 e fp) (nif (Nat.beq (offT e fp) n) ((lget xs i).bind fun y=>getF (.v e y) fp fun b=>nif (Nat.beq b.size size) (nif (b.agg==agg) (K b) none) none) none)
     (match subT e fp with
       |some (.own _ _)=>nif (Nat.beq (offT e fp) n) (nif (Nat.beq 1 size) (nif agg none (K (.s o i (.hd fp n)))) none) none
       | _=>none)
   | _=>none
 | .s o i (.el fp n j sz)=>match look O o with
   |some (.list _ e xs)=>nif (Nat.beq (offT e fp) n) ((lget xs i).bind fun y=>Z3w e y fp fun _ e2 ys=>nif e2.plain (nif (Nat.beq e2.size sz) (nif (Nat.beq sz size) (nif (e2.agg==agg) ((lget ys j).bind fun z=>K (.v e2 z)) none) none) none) none) none
   | _=>none
 | .s o i (.bx fp n)=>match look O o with
   | some (.map _ _ (.bx t) es)=>nif (Nat.beq (offT t fp) n) (match subT t fp with
     |some (.own _ _)=>(lget (es.getD []) i).bind fun e=>Z3w t e.2 fp fun _ _ ys=>nif (Nat.beq 1 size) (nif agg none (K (.v .hdr ys.length))) none
     |some u=>nif u.plain ((lget (es.getD []) i).bind fun e=>getF (.v t e.2) fp fun b=>nif (Nat.beq b.size size) (nif (b.agg==agg) (K b) none) none) none
     |none=>none) none
   | _=>none
 | .ap o n=>match look O o with
   |some (.list _ e xs)=>nif e.plain (nif (Nat.beq (Nat.mul n e.size) size) (nif agg (K (.v (.arr n e) xs)) none) none) none
   | _=>none
 | _=>none
def Z5v (O:Obs)(size:Nat)(agg:Bool)(a x:AV)(K:Obs->Bool->Option ρ):Option ρ:=
 nif (Nat.beq x.size size) (nif (x.agg==agg) (match a with
   | .p o fp n=>match look O o with
     |some (.box c)=>nif (Nat.beq (offF c fp) n) (setF c fp x fun c'=>putK O o (.box c') fun O'=>K O' false) none
     | _=>none
   | .e o i fp n=>match look O o with
     | some (.list tid e xs)=>nif (Zb5 e fp) (nif (Nat.beq (offT e fp) n) ((lget xs i).bind fun y=>setF (.v e y) fp x fun b=>match b with
       |.v e' z=>Ze e' e z fun z'=>putK O o (.list tid e (xs.set i z')) fun O'=>K O' (nif e.plain false true)
       | _=>none) none)
       (match fp with
         |[]=>nif (Nat.beq n 0) ((lget xs i).bind fun _=>pkK x O fun u y O1=>nif (has O1 o) (Ze u e y fun z=>putK O1 o (.list tid e (xs.set i z)) fun O'=>K O' true) none) none
         | _::_=>none)
     | _=>none
   | .s o i (.el fp n j sz)=>match look O o with
     | some (.list tid e xs)=>nif (Nat.beq (offT e fp) n) ((lget xs i).bind fun y=>Z4v e y fp (fun _ e2 ys K2=>nif e2.plain (nif (Nat.beq e2.size sz) (nif (Nat.beq sz size) ((lget ys j).bind fun _=>match x with
       |.v e' z=>Ze e' e2 z fun z'=>K2 (ys.set j z')
       | _=>none) none) none) none) fun y'=>putK O o (.list tid e (xs.set i y')) fun O'=>K O' false) none
     | _=>none
   | _=>none) none) none
def Z3o(T:Nat)(ev:Operand->AV):AV->List (Nat×Operand)->(AV->Option ρ)->Option ρ
 |a,[],K=>K a
 | a,(i,x)::l,K=>Z2z E T (offF a) (Zc6 a) i fun p=>match Zc6 a p with
   |some (n,_)=>nif (Nat.beq (ev x).size n) (setF a p (ev x) fun a'=>Z3o T ev a' l K) none
   |none=>none
def Zc8:List (Nat×Nat)->Bool
 |[]=>true
 |(_,T)::l=>match E.ti T with|some _=>Zc8 l|none=>false
def Z3p(ev:Operand->AV)(e:Ty):Obs->List (Nat×Operand)->Nat->(List e.den->Obs->Option ρ)->Option ρ
 |O,[],_,K=>K [] O
 |O,(i,a)::l,j,K=>nif (Nat.beq i j) (pkE (ev a) O fun u y O1=>Ze u e y fun z=>Z3p ev e O1 l (Nat.succ j) fun zs O2=>K (z::zs) O2) none
def Z7w(T:Nat)(nil:Bool)(a:AV)(O:Obs)(K:(tid:Nat)->(e:Ty)->List e.den->Obs->Option ρ):Option ρ:=
 nif nil (Z1f E T fun e j=>K e j.zero.t [] O)<|
 match a with
 | .ref o=>match look O o with
   |some (.list tid e xs)=>Z1a O o fun O'=>K tid e xs O'
   | _=>none
 | .hs o 0 n=>match look O o with
   |some (.list tid e xs)=>bif decide (n<=xs.length)then Z1a O o fun O'=>K tid e (xs.take n) O' else none
   | _=>none
 | _=>none
def srcK(e:Ty)(a:AV)(O:Obs)(K:List e.den->Obs->Option ρ):Option ρ:=
 match a with
 |.v (.slc e') ys=>Ze (.slc e') (.slc e) ys fun zs=>K zs O
 | .hs o lo n=>match look O o with
   |some (.list _ e' ys)=>nif e'.plain (Ze (.slc e') (.slc e) ((ys.drop lo).take n) fun zs=>K zs O) none
   | _=>none
 | .ref o=>match look O o with
   | some (.list _ e' ys)=>nif e'.plain (Ze (.slc e') (.slc e) ys fun zs=>K zs O)
     (Ze (.slc e') (.slc e) ys fun zs=>Z1a O o fun O'=>K zs O')
   | _=>none
 | _=>none
def Z4b(f d:Nat)(ev:Operand->AV)(O:Obs)(T T':Nat)(s x:Operand)(K:AV->Obs->Option ρ):Option ρ:=
 Z1f E T' fun _ _=>Z1f E T fun eT j=>Z7w E T (Z1q s) (ev s) O fun tid e xs O1=>nif (Z1q x) none<|srcK e (ev x) O1 fun ys O2=>
   nif (Nat.beq tid eT) (nif (Nat.beq e.size j.size) (nif (nif (Nat.beq e.size 0) true (Nat.beq j.bytes 0)) none (bif decide ((xs.length+ys.length)*j.bytes<=140737488355328)then
     mkK E f d [d] O2 (.own tid e) (xs++ys) K else none)) none) none
def Z5d(f d:Nat)(ev:Operand->AV)(O:Obs)(T:Nat)(s x:Operand)(K:AV->Obs->Option ρ):Option ρ:=
 match ev x with
 | .v (.int .i64) n=>Z1f E T fun eT j=>Z7w E T (Z1q s) (ev s) O fun tid e xs O1=>
   nif (Nat.beq tid eT) (nif (Nat.beq e.size j.size) (nif j.zero.t.plain (nif (nif (Nat.beq e.size 0) true (Nat.beq j.bytes 0)) none
     (Ze j.zero.t e j.zero.x fun z=>bif decide (0<=n)&&decide ((xs.length+n.toNat)*j.bytes<=140737488355328)then
       mkK E f d [d] O1 (.own tid e) (xs++List.replicate n.toNat z) K else none)) none) none) none
 | _=>none
def Z3e(f d:Nat)(ev:Operand->AV)(O:Obs)(T T':Nat)(s x:Operand)(K:AV->Obs->Option ρ):Option ρ:=
 tiK E T' fun i=>match i.d with
   |.slice _=>Z4b E f d ev O T T' s x K
   |.int .i64=>Z5d E f d ev O T s x K
   | _=>none
def bytesOf(ys:List Int):ByteArray:=⟨(ys.map fun n=>UInt8.ofNat n.toNat).toArray⟩
def Za2(src dst:Nat)(x:AV)(K:AV->Option ρ):Option ρ:=
 tiK E src fun i=>tiK E dst fun j=>
 match i.d,j.d,x with
 |.int _,.int k',.v (.int _) n=>K (.v (.int k') (k'.wrap n))
 |.str,.str,.v .str s=>K (.v .str s)
 | _,_,_=>none
def Za3(src dst:Nat)(O:Obs)(x:AV)(K:AV->Option ρ):Option ρ:=
 match x with
 | .ref o=>tiK E src fun i=>tiK E dst fun j=>(match i.d,j.d with
   | .slice e,.str=>tiK E e fun q=>(match q.d with
     | .int .u8=>(match look O o with
       |some (.list _ (.int .u8) xs)=>K (.v .str (bytesOf xs))
       | _=>none)
     | _=>none)
   | _,_=>none)
 |a=>Za2 E src dst a K
def boxK(f d:Nat)(O:Obs)(a:AV)(K:AV->Obs->Option ρ):Option ρ:=
 nif (E.shut f d)
   (match a with
     |.v t y=>nif t.plain (mkK E f d [d] O (.bx t) y K) none
     | _=>none)
   (newK O [d] (.box a) fun O'=>K (.p [d] [] 0) O')
def Z5w(f d:Nat)(O:Obs)(T:Nat)(K:AV->Obs->Option ρ):Option ρ:=
 tiK E T fun i=>match i.zero with
   |⟨.arr n e,xs⟩=>nif e.plain (nif (Nat.ble n 1000000) (newK O [d] (.list T e xs) fun O'=>K (.ap [d] n) O') none) none
   | _=>Z9z E f d [d,1] O T fun a O'=>newK O' [d] (.box a) fun O''=>K (.p [d] [] 0) O''
def Z77(O0:Obs)(o:Id):List Nat->Option Id
 |[]=>none
 |j::l=>nif (hasP O0 (o++[j])) (Z77 O0 o l) (match o with|[]=>none|k::q=>some (k::(q++[j])))
def Zc:(ps:List (PM×Ty))->List (Bool×AV)->Obs->((chain (Z23 ps)).den->Obs->Bool->Option ρ)->Option ρ
 |[],[],O,K=>K () O false
 | (.val,t)::ps,(nil,a)::as,O,K=>Zc ps as O fun l O' b=>
   nif t.plain (nif nil (match t with|.slc _=>K (show(Ty.den _)from([],l)) O' b| _=>none)
   (vwK 12 a O' fun u y c=>Ze u t y fun x=>K (x,l) O' (nif b true c))) none
 | (.mov,t)::ps,(nil,a)::as,O,K=>
   nif nil (match t with|.own _ _=>Zc ps as O fun l O' b=>K (show(Ty.den _)from([],l)) O' b| _=>none)
   (pkK a O fun u y O1=>Ze u t y fun x=>Zc ps as O1 fun l O' b=>K (x,l) O' b)
 |(.lend,t)::ps,(true,a)::as,O,K=>none
 |(.lendv,t)::ps,(true,a)::as,O,K=>none
 | (.lend,t)::ps,(false,a)::as,O,K=>(match a with
   | .p o [] 0=>match look O o with
     |some (.box c)=>pkK c O fun u y O1=>Ze u t y fun x=>Z1a O1 o fun O2=>Zc ps as O2 fun l O' b=>K (x,l) O' b
     | _=>none
   | .s o i (.bx [] 0)=>match look O o with
     |some (.map _ _ (.bx u) es)=>(lget (es.getD []) i).bind fun e=>Ze u t e.2 fun x=>Z1a O o fun O1=>Zc ps as O1 fun l O' b=>K (x,l) O' b
     | _=>none
   | _=>none)
 | (.lendv,t)::ps,(false,a)::as,O,K=>(match a with
   | .s o i (.hd fp n)=>match look O o with
     |some (.list _ e xs)=>nif (Nat.beq (offT e fp) n) ((lget xs i).bind fun y=>Z3w e y fp fun tid e2 ys=>Ze (.own tid e2) t ys fun x=>Z1a O o fun O1=>Zc ps as O1 fun l O' b=>K (x,l) O' b) none
     | _=>none
   |a=>pkK a O fun u y O1=>Ze u t y fun x=>Zc ps as O1 fun l O' b=>K (x,l) O' b)
 | _,_,_,_=>none
def Z24:(t:Ty)->t.den->AV->Obs->(Obs->Option ρ)->Option ρ
 |.pair a b,x,.pr c d,O,K=>Z24 a x.1 c O fun O1=>Z24 b x.2 d O1 K
 |.own tid e,xs,.ref o,O,K=>newK O o (.list tid e xs) K
 | _,_,.v _ _,O,K=>K O
 | _,_,.hole _,O,K=>K O
 | _,_,_,_,_=>none
def Zl(O0:Obs):(ps:List (PM×Ty))->List (Bool×AV)->(chain (Zo ps)).den->Obs->(Obs->Option ρ)->Option ρ
 |[],_,_,O,K=>K O
 |(.val,_)::ps,_::as,l,O,K=>Zl O0 ps as l O K
 |(.mov,_)::ps,_::as,l,O,K=>Zl O0 ps as l O K
 | (.lend,t)::ps,(_,a)::as,l,O,K=>(match a with
   | .p o [] 0=>(match Z77 O0 o [9,10,11]with
     |some r=>nif (hasP O r) none (unpK t l.1 r O fun c1 O1=>newK O1 o (.box c1) fun O2=>Zl O0 ps as l.2 O2 K)
     |none=>none)
   | .s o i (.bx [] 0)=>(match look O0 o with
     |some (.map tid k (.bx u) es)=>Ze t u l.1 fun y=>newK O o (.map tid k (.bx u) (some (mset (es.getD []) i y))) fun O1=>Zl O0 ps as l.2 O1 K
     | _=>none)
   | _=>none)
 | (.lendv,t)::ps,(_,a)::as,l,O,K=>(match a with
   | .s o i (.hd fp _)=>match look O0 o with
     |some (.list tid e xs)=>(lget xs i).bind fun x=>Z4v e x fp (fun tid2 e2 _ K2=>Ze t (.own tid2 e2) l.1 K2) fun y=>newK O o (.list tid e (xs.set i y)) fun O1=>Zl O0 ps as l.2 O1 K
     | _=>none
   |a=>Z24 t l.1 a O fun O1=>Zl O0 ps as l.2 O1 K)
 | _,_,_,_,_=>none
def tupK(f d:Nat)(O:Obs):(rs:List Ty)->Nat->(chain rs).den->(AV->Obs->Option ρ)->Option ρ
 |[],_,_,K=>K .tn O
 |t::rs,j,l,K=>mkK E f (Nat.add d (Nat.mul 1000 j)) [d,j] O t l.1 fun a O'=>tupK f d O' rs (Nat.succ j) l.2 fun as O''=>K (.tp a as) O''
def resK(f:Nat)(d:Option Nat)(O:Obs)(rs:List Ty)(l:(chain rs).den)(K:AV->Obs->Option ρ):Option ρ:=
 match d,rs,l with
 | _,[],_=>K .dead O
 |some d,[t],l=>mkK E f d [d] O t l.1 K
 |some d,rs,l=>tupK E f d O rs 1 l K
 |none,_,_=>none
def Zho:List (Bool×AV)->Option Nat
 |[]=>none
 |(_,.cl f _)::_=>some f
 |(_,.v (.clo f _) _)::_=>some f
 | _::l=>Zho l
def lk2:List (Nat×Nat×Nat)->Nat->Nat->Option Nat
 |[],_,_=>none
 |(a,b,c)::l,x,y=>nif (Nat.beq a x) (nif (Nat.beq b y) (some c) (lk2 l x y)) (lk2 l x y)
def keyK(g:Nat)(args:List (Bool×AV))(K:Nat->Option ρ):Option ρ:=
 match Zho args with
 |none=>nif (Nat.ble g 99999) (K g) none
 | some f=>match lk2 E.cloL g f with
   |some k=>K k
   |none=>none
def capT:(t:Ty)->t.den->(List (Bool×AV)->Option ρ)->Option ρ
 |.unit,_,K=>K []
 |.pair a b,x,K=>nif (Nat.beq a.size 1) (nif a.agg none (capT b x.2 fun l=>K ((false,.v a x.1)::l))) none
 | _,_,_=>none
def capK:AV->(List (Bool×AV)->Option ρ)->Option ρ
 |.v t x,K=>capT t x K
 |.pr a b,K=>nif a.ok (nif (Nat.beq a.size 1) (nif a.agg none (capK b fun l=>K ((false,a)::l))) none) none
 | _,_=>none
def Z5x:List AV->(AV->Option ρ)->Option ρ
 |[],K=>K (.v .unit ())
 |a::l,K=>nif a.ok (nif (Nat.beq a.size 1) (nif a.agg none (Z5x l fun b=>mkPr a b K)) none) none
def Z4q(call:(g:Nat)->(s:Sg)->s.A.den->Option s.R.den)(f:Nat)(d:Option Nat)(O:Obs)(g:Nat)(args:List (Bool×AV))(K:AV->Obs->Option ρ):Option ρ:=
 match E.sg g with
 |some s=>Zc s.ps args O fun l O1 b=>nif (b&&!(s.rs.all Ty.apart&&(Zo s.ps).all Ty.apart)) none<|
     (call g s l).bind fun r=>Zl O s.ps args r.2 O1 fun O2=>resK E f d O2 s.rs r.1 K
 |none=>none
def isW(o:Oper):Bool:=
 match o.op with
 |.move x|.assign x=>Z1q x
 |.alloc _=>true
 |.box _ _=>true
 |.build _ _=>true
 |.buildSlice _ _ _=>true
 |.store _ _ _=>true
 |.makeSlice _ _ _=>true
 |.makeMap _ _=>true
 |.mapUpdate _ _ _ _=>true
 |.call {callee:=.builtin .len,.. }=>false
 |.call {callee:=.builtin .max,.. }=>false
 |.call {callee:=.builtin .min,.. }=>false
 |.call _=>true
 | _=>false
def opQ(o:Oper)(ev:Operand->AV)(O:Obs)(K:AV->Option ρ):Option ρ:=
 match o.op with
 |.move x|.assign x=>K (ev x)
 | .pick c a b=>(match ev c with
   |.v .bool c=>bif c then K (ev a)else K (ev b)
   | _=>none)
 |.load T a=>tiK E T fun i=>Za1 O i.size i.agg (ev a) K
 | .nilCheck x=>(match ev x with
   |.p a b n=>K (.p a b n)
   |.e a b c n=>K (.e a b c n)
   |.ap a n=>K (.ap a n)
   |.s a i (.el fp n j sz)=>K (.s a i (.el fp n j sz))
   |.s a i (.bx fp n)=>K (.s a i (.bx fp n))
   |.v (.sptr t) y=>K (.v (.sptr t) y)
   | _=>none)
 |.binOp op T x y _=>nif (Zhs y) (Z75 E op T y O (ev x) K) (binK E op T (ev x) (ev y) K)
 |.unOp op _ x=>unK op (ev x) K
 |.convert s t x=>Za3 E s t O (ev x) K
 |.slice T x lo hi none=>Z76 E T O (ev x) (lo.map ev) (hi.map ev) K
 |.fieldAddr S x f=>Z3y E O S (ev x) f K
 |.field S x f=>fldK E S (ev x) f K
 | .indexAddr T x i=>tiK E T fun t=>(match t.d with
   |.slice _=>Z1f E T fun _ j=>Z3x O j.size (ev x) (ev i) K
   |.array n e=>tiK E e fun j=>Z5a O n j.size (ev x) (ev i) K
   | _=>none)
 | .index T x i=>tiK E T fun t=>(match t.d with
   |.str=>idxK (ev x) (ev i) K
   |.array n e=>tiK E e fun j=>Z5b n j.size j.agg (ev x) (ev i) K
   | _=>none)
 |.lookup T m x ok=>Z6a E T fun k v=>Za0 E O k v (ev m) (ev x) ok K
 | .makeFunc (.func f) first caps=>(match first.toList with
   |[]=>Z5x (caps.toList.map ev) fun a=>K (.cl f a)
   | _=>none)
 |.extract x i=>tupAt (ev x) i K
 | .call {callee:=.builtin .len,args,argTypes}=>(match args.toList,argTypes.toList with
   |[x],T::_=>tiK E T fun t=>nif (Z1q x) (match t.d with|.slice _=>K (.v (.int .i64) 0)| _=>none) (lenK t.d O (ev x) K)
   | _,_=>none)
 | .call {callee:=.builtin .max,args,.. }=>(match args.toList.map ev with
   |[.v (.int k) x,.v (.int k') y]=>nif (Nat.beq (ikN k) (ikN k')) (K (.v (.int k) (max x y))) none
   | _=>none)
 | .call {callee:=.builtin .min,args,.. }=>(match args.toList.map ev with
   |[.v (.int k) x,.v (.int k') y]=>nif (Nat.beq (ikN k) (ikN k')) (K (.v (.int k) (min x y))) none
   | _=>none)
 | _=>none
where
 tupAt:AV->Nat->(AV->Option ρ)->Option ρ
   |.tp a _,0,K=>K a
   |.tp _ b,n+1,K=>tupAt b n K
   | _,_,_=>none
def opW(call:(g:Nat)->(s:Sg)->s.A.den->Option s.R.den)(f:Nat)(o:Oper)(ev:Operand->AV)(O:Obs)(K:AV->Obs->Bool->Option ρ):Option ρ:=
 match o.op with
 |.move _|.assign _=>(match o.dst with|some d=>nilK E f d [d] O o.type fun a O'=>K a O' false|none=>none)
 | .alloc T=>(match o.dst with
   |some d=>Z5w E f d O T fun a O'=>K a O' false
   |none=>none)
 | .box T x=>(match o.dst with
   | some d=>nif (Z1q x) none
     (tiK E T fun i=>nif (ev x).ok (nif (Nat.beq (ev x).size i.size) (nif ((ev x).agg==i.agg) (boxK E f d O (ev x) fun a O'=>K a O' false) none) none) none)
   |none=>none)
 | .build T ps=>(match o.dst with
   | some d=>tiK E T fun i=>(match i.d with
     |.struct fs=>nif (Zc8 E fs) (unpK i.zero.t i.zero.x [d,1] O fun a O'=>Z3o E T ev a ps.toList fun b=>K b O' false) none
     | _=>none)
   |none=>none)
 | .buildSlice T n ps=>(match o.dst with
   | some d=>Z1f E T fun e j=>
     (match ps.toList with
       |[]=>nif (Nat.beq n 0) (mkK E f d [d] O (.own e (ovT E f d j.zero.t)) [] fun a O'=>K a O' false) none
       |(0,a)::l=>nif (Nat.beq (Nat.succ (nlen l)) n) (nif (nif (Nat.beq (Nat.mul n j.size) 0) false (Nat.ble (Nat.mul n j.size) 16777216)) (pkE (ev a) O fun u y O1=>nif (Nat.beq u.size j.size) (nif (u.agg==j.agg) (Z3p ev u O1 l 1 fun ys O2=>mkK E f d [d] O2 (.own e u) (y::ys) fun a O3=>K a O3 true) none) none) none) none
       | _=>none)
   |none=>none)
 | .store T a x=>tiK E T fun i=>nif (Z1q x) none
   (Z5v O i.size i.agg (ev a) (ev x) fun O' b=>K .dead O' b)
 | .makeSlice T l c=>(match o.dst,ev l,ev c with
   | some d,.v (.int .i64) n,.v (.int .i64) m=>Z1f E T fun e j=>
     nif j.zero.t.zok (bif decide (n=m)&&decide (0<=n)&&decide (n*j.bytes<=281474976710656)then mkK E f d [d] O (.own e j.zero.t) (List.replicate n.toNat j.zero.x) fun a O'=>K a O' false else none) none
   | _,_,_=>none)
 | .makeMap T none=>(match o.dst with
   |some d=>Z6a E T fun k v=>tiK E k fun jk=>tiK E v fun jv=>nif jk.zero.t.keyOk (nif (ovT E f d jv.zero.t).mvOk (newK O [d] (.map T jk.zero.t (ovT E f d jv.zero.t) (some [])) fun O'=>K (.ref [d]) O' false) none) none
   |none=>none)
 |.mapUpdate T m x z=>Z6a E T fun k _=>Z5c E O k (ev m) (ev x) (ev z) fun O' b=>K .dead O' b
 | .call {callee:=.builtin .append,args,argTypes}=>(match o.dst,args.toList,argTypes.toList with
   |some d,[s,x],[T,T']=>Z3e E f d ev O T T' s x fun a O'=>K a O' true
   | _,_,_=>none)
 | .call {callee:=.value g,args,.. }=>(match ev g with
   |.cl g c=>capK c fun cs=>keyK E g (args.toList.map fun x=>(Z1q x,ev x)) fun key=>Z4q E call f o.dst O key ((args.toList.map fun x=>(Z1q x,ev x))++cs) fun a O'=>K a O' true
   |.v (.clo g t) y=>capT t y fun cs=>keyK E g (args.toList.map fun x=>(Z1q x,ev x)) fun key=>Z4q E call f o.dst O key ((args.toList.map fun x=>(Z1q x,ev x))++cs) fun a O'=>K a O' true
   | _=>none)
 | _=>none
def opA(call:(g:Nat)->(s:Sg)->s.A.den->Option s.R.den)(f:Nat)(o:Oper)(ev:Operand->AV)(O:Obs)(K:AV->Obs->Bool->Option ρ):Option ρ:=
 nif (isW o) (opW E call f o ev O K) (opQ E o ev O fun a=>K a O false)
def St.putK(σ:St)(d:Option Nat)(a:AV)(K:St->ρ):ρ:=
 match d with
 |some d=>avK a fun a'=>σ.setK d a' K
 |none=>K σ
def opK(call:(g:Nat)->(s:Sg)->s.A.den->Option s.R.den)(f:Nat)(o:Oper)(σ:St)(K:St->Option ρ):Option ρ:=
 match o.dst with
 |none=>opA E call f o σ.ev σ.o fun _ O b=>nif b ((⟨σ.s,O⟩:St).sweepK K) (K ⟨σ.s,O⟩)
 |some d=>σ.clearK d fun σ=>opA E call f o σ.ev σ.o fun a O b=>(⟨σ.s,O⟩:St).putK (some d) a fun σ'=>nif b (σ'.sweepK K) (K σ')
end ops
inductive AC where
 |skip
 |reg (ops:List Oper) (draw:Bool)
 |seq (a b:AC)
 |cond (c:Operand) (a b:AC)
 |blk (id:Nat) (c:AC)
 |loop (lv:List Nat) (c:AC)
 |cut (lv:List Nat) (c:AC)
 |exit (id:Nat)
 |ret
 |bad
def Z5r:Code->Nat
 |.seq a b=>Nat.succ (Nat.add (Z5r a) (Z5r b))
 |.cond _ a b=>Nat.add (Z5r a) (Z5r b)
 |.block _ c=>Z5r c
 |.loop c=>Z5r c
 | _=>0
def Z3q:Code->Nat
 |.seq a b=>Nat.add (Z3q a) (Z3q b)
 |.cond _ a b=>Nat.add (Z3q a) (Z3q b)
 |.block _ c=>Z3q c
 |.loop c=>Nat.succ (Z3q c)
 | _=>0
def Zc9 {α:Type}:Nat->List α->List α
 |0,l=>l
 | _+1,[]=>[]
 |n+1,_::l=>Zc9 n l
def ann(cuts:List (Nat×List Nat)):Code->List (List Nat)->Nat->AC
 |.skip,_,_=>.skip
 |.region _ ops draw,_,_=>.reg ops.toList draw
 | .seq a b,l,n=>match lk cuts n with
   |some lv=>.seq (ann cuts a l (Nat.succ n)) (.cut lv (ann cuts b (Zc9 (Z3q a) l) (Nat.add (Nat.succ n) (Z5r a))))
   |none=>.seq (ann cuts a l (Nat.succ n)) (ann cuts b (Zc9 (Z3q a) l) (Nat.add (Nat.succ n) (Z5r a)))
 |.cond c a b,l,n=>.cond c (ann cuts a l n) (ann cuts b (Zc9 (Z3q a) l) (Nat.add n (Z5r a)))
 |.block id c,l,n=>.blk id (ann cuts c l n)
 |.loop c,lv::l,n=>.loop lv (ann cuts c l n)
 |.exit id,_,_=>.exit id
 |.ret,_,_=>.ret
 | _,_,_=>.bad
inductive Ex where
 |nrm|exit (id:Nat)|ret
abbrev Ren:=List (Id×Id)
def home:Ren->Id->Option Id
 |[],_=>none
 |(a,b)::m,o=>nif (idEq a o) (some b) (home m o)
def add1(m:Ren)(o r:Id):Ren:=match home m o with|some _=>m|none=>(o,r)::m
def homA(O:Obs):Nat->AV->Id->Ren->Ren
 |0,_,_,m=>m
 |k+1,.pr a b,r,m=>homA O k b (r++[1]) (homA O k a (r++[0]) m)
 | _+1,.ref o,r,m=>add1 m o r
 | _+1,.hs o _ _,r,m=>add1 m o r
 | _+1,.e o _ _ _,r,m=>add1 m o r
 | _+1,.s o _ _,r,m=>add1 m o r
 | _+1,.ap o _,r,m=>add1 m o r
 |k+1,.cl _ a,r,m=>homA O k a (r++[4]) m
 | k +1,.p o _ _,r,m=>match home m o with
   |some _=>m
   | none=>match look O o with
     |some (.box a)=>homA O k a (r++[5]) ((o,r)::m)
     | _=>m
 | _+1,_,_,m=>m
def homS(σ:St):List Nat->Ren->Ren
 |[],m=>m
 |v::l,m=>homS σ l (homA σ.o 20 (σ.get v) [Nat.add 500000 v] m)
def Z8k {ρ:Type}(m:Ren)(o r:Id)(K:Ren->ρ):ρ:=match home m o with|some _=>K m|none=>K ((o,r)::m)
def Z6b {ρ:Type}(O:Obs):Nat->AV->Id->Ren->(Ren->ρ)->ρ
 |0,_,_,m,K=>K m
 |k+1,.pr a b,r,m,K=>Z6b O k a (r++[0]) m fun m1=>Z6b O k b (r++[1]) m1 K
 | _+1,.ref o,r,m,K=>Z8k m o r K
 | _+1,.hs o _ _,r,m,K=>Z8k m o r K
 | _+1,.e o _ _ _,r,m,K=>Z8k m o r K
 | _+1,.s o _ _,r,m,K=>Z8k m o r K
 | _+1,.ap o _,r,m,K=>Z8k m o r K
 |k+1,.cl _ a,r,m,K=>Z6b O k a (r++[4]) m K
 | k +1,.p o _ _,r,m,K=>match home m o with
   |some _=>K m
   | none=>match look O o with
     |some (.box a)=>Z6b O k a (r++[5]) ((o,r)::m) K
     | _=>K m
 | _+1,_,_,m,K=>K m
def Zef {ρ:Type}(σ:St):List Nat->Ren->(Ren->ρ)->ρ
 |[],m,K=>K m
 |v::l,m,K=>Z6b σ.o 20 (σ.get v) [Nat.add 500000 v] m fun m1=>Zef σ l m1 K
def renA {ρ:Type}(m:Ren):AV->(AV->ρ)->ρ
 |.dead,K=>K .dead
 |.v t x,K=>K (.v t x)
 |.pr a b,K=>renA m a fun a'=>renA m b fun b'=>mkPr a' b' K
 |.hole n,K=>K (.hole n)
 |.ref o,K=>match home m o with|some o'=>K (.ref o')|none=>K (.hole 1)
 |.hs o lo n,K=>match home m o with|some o'=>K (.hs o' lo n)|none=>K (.hole 1)
 |.p o p n,K=>match home m o with|some o'=>K (.p o' p n)|none=>K (.hole 1)
 |.e o i p n,K=>match home m o with|some o'=>K (.e o' i p n)|none=>K (.hole 1)
 |.s o i k,K=>match home m o with|some o'=>K (.s o' i k)|none=>K (.hole 1)
 |.ap o i,K=>match home m o with|some o'=>K (.ap o' i)|none=>K (.hole 1)
 |.cl f a,K=>renA m a fun a'=>K (.cl f a')
 |.tn,K=>K .tn
 |.tp a b,K=>renA m a fun a'=>renA m b fun b'=>K (.tp a' b')
def renS {ρ:Type}(m:Ren)(lv:List Nat):Nat->List AV->(List AV->ρ)->ρ
 | _,[],K=>K []
 |i,a::l,K=>renS m lv (Nat.succ i) l fun l'=>nif (lv.any (Nat.beq · i)) (renA m a fun a'=>K (a'::l')) (K (.dead::l'))
def renO {ρ:Type}(m:Ren)(O:Obs):Ren->(Obs->ρ)->ρ
 |[],K=>K []
 | (o,r)::l,K=>renO m O l fun l'=>match look O o with
   |some (.box a)=>renA m a fun a'=>K ((r,.box a')::l')
   |some (.list t e xs)=>K ((r,.list t e xs)::l')
   |some (.map t k v es)=>K ((r,.map t k v es)::l')
   |none=>K l'
def diff:List Id->Bool
 |[]=>true
 |a::l=>nif (l.any (idEq a)) false (diff l)
def norm {ρ:Type}(lv:List Nat)(σ:St)(K:St->Option ρ):Option ρ:=
 Zef σ lv [] fun m=>nif (nif (diff (m.map (·.1))) (diff (m.map (·.2))) false)
   (renS m lv 0 σ.s fun s=>renO m σ.o m fun o=>K ⟨s,o⟩) none
section exec
variable {ρ:Type}(E:Env)(call:(g:Nat)->(s:Sg)->s.A.den->Option s.R.den)(f:Nat)
def Zg8:List Oper->Bool
 |[]=>false
 | o::l=>match o.op with
   |.call {callee:=.builtin .len,.. }=>true
   | _=>Zg8 l
def hdrS {ρ:Type}(o:Id)(n t:Nat):Nat->List AV->(List AV->ρ)->ρ
 | _,[],K=>K []
 | i,a::l,K=>hdrS o n t (Nat.succ i) l fun l'=>nif (Nat.beq i t) (K (a::l')) (match a with
   |.ref q=>nif (idEq q o) (K (.v .hdr n::l')) (K (.ref q::l'))
   |a=>avK a fun a=>K (a::l'))
def hdrK (all:List Oper)(o:Oper)(σ:St)(K:St->Option ρ):Option ρ:=
 nif (Zg8 all) (match o.op with
   | .call {callee:=.builtin .append,args,.. }=>(match args.toList with
     | .tmp t::_=>(match σ.get t with
       | .ref q=>(match look σ.o q with
         |some (.list _ _ xs)=>(match σ with|⟨s,O⟩=>hdrS q xs.length t 0 s fun s'=>K ⟨s',O⟩)
         | _=>K σ)
       | _=>K σ)
     | _=>K σ)
   | _=>K σ) (K σ)
def opsK (all:List Oper):List Oper->St->(St->Option ρ)->Option ρ
 |[],σ,K=>K σ
 | o :: l,σ,K=>match o.guard with
   |none=>hdrK all o σ fun σ=>opK E call f o σ fun σ'=>opsK all l σ' K
   | some (j,b)=>match nth all j with
     | some ⟨some d,_,_,_,_,_⟩=>match σ.get d with
       | .v .bool x=>bif x
         then σ.setK d (.v .bool true) fun σ=>(match b with|true=>opK E call f o σ fun σ'=>opsK all l σ' K|false=>σ.putK o.dst .tn fun σ'=>opsK all l σ' K)
         else σ.setK d (.v .bool false) fun σ=>(match b with|false=>opK E call f o σ fun σ'=>opsK all l σ' K|true=>σ.putK o.dst .tn fun σ'=>opsK all l σ' K)
       |.tn=>σ.putK o.dst .tn fun σ'=>opsK all l σ' K
       | _=>none
     | _=>none
def Zq:AV->List Id->List Id
 |.pr a b,l=>Zq a (Zq b l)
 |.tp a b,l=>Zq a (Zq b l)
 |.cl _ a,l=>Zq a l
 |.ref o,l=>o::l
 |.hs o _ _,l=>o::l
 |.p o _ _,l=>o::l
 |.e o _ _ _,l=>o::l
 |.s o _ _,l=>o::l
 |.ap o _,l=>o::l
 | _,l=>l
def Zca:List AV->List Id
 |[]=>[]
 |a::l=>Zq a (Zca l)
def inI:List Id->Id->Bool
 |[],_=>false
 |j::l,i=>nif (idEq j i) true (inI l i)
def allI(p:Id->Bool):List Id->Bool
 |[]=>true
 |i::l=>nif (p i) (allI p l) false
def Z5y(O:Obs):Nat->List Id->List Id->(List Id->ρ)->ρ
 |0,_,fp,K=>K fp
 | _+1,[],fp,K=>K fp
 | k+1,o::l,fp,K=>nif (inI fp o) (Z5y O k l fp K) (match look O o with
   |some (.box a)=>Z5y O k (Zq a l) (o::fp) K
   |some _=>Z5y O k l (o::fp) K
   |none=>Z5y O k l fp K)
def Zb7(O:Obs):List Id->(Obs->ρ)->ρ
 |[],K=>K []
 | o::l,K=>Zb7 O l fun O'=>match look O o with
   |some (.box a)=>K ((o,.box a)::O')
   |some (.list t e xs)=>K ((o,.list t e xs)::O')
   |some (.map t k v es)=>K ((o,.map t k v es)::O')
   |none=>K O'
def wk(p q:Id->Bool):AV->AV
 |.pr a b=>.pr (wk p q a) (wk p q b)
 |.tp a b=>.tp (wk p q a) (wk p q b)
 |.cl f a=>.cl f (wk p q a)
 |.ref o=>nif (p o) (.ref o) (.hole 1)
 |.hs o lo n=>nif (p o) (.hs o lo n) (.hole 1)
 |.p o fp n=>nif (p o) (.p o fp n) (.hole 1)
 |.e o i fp n=>nif (p o) (.e o i fp n) (.hole 1)
 |.ap o n=>nif (p o) (.ap o n) (.hole 1)
 |.s o i k=>nif (q o) (.s o i k) (.hole 1)
 |.dead=>.dead
 |.v t x=>.v t x
 |.hole n=>.hole n
 |.tn=>.tn
def wkK {ρ:Type}(fp:List Id):AV->(AV->ρ)->ρ
 |.pr a b,K=>wkK fp a fun a'=>wkK fp b fun b'=>K (.pr a' b')
 |.tp a b,K=>wkK fp a fun a'=>wkK fp b fun b'=>K (.tp a' b')
 |.cl f a,K=>wkK fp a fun a'=>K (.cl f a')
 |.ref o,K=>nif (inI fp o) (K (.ref o)) (K (.hole 1))
 |.hs o lo n,K=>nif (inI fp o) (K (.hs o lo n)) (K (.hole 1))
 |.p o f n,K=>nif (inI fp o) (K (.p o f n)) (K (.hole 1))
 |.e o i f n,K=>nif (inI fp o) (K (.e o i f n)) (K (.hole 1))
 |.ap o n,K=>nif (inI fp o) (K (.ap o n)) (K (.hole 1))
 |.s o i k,K=>nif (inI fp o) (K (.s o i k)) (K (.hole 1))
 |a,K=>avK a K
def Zb8(O:Obs)(fp:List Id):List Id->(Obs->ρ)->ρ
 |[],K=>K []
 | o::l,K=>Zb8 O fp l fun O'=>match look O o with
   |some (.box a)=>wkK fp a fun a'=>K ((o,.box a')::O')
   |some (.list t e xs)=>K ((o,.list t e xs)::O')
   |some (.map t k v es)=>K ((o,.map t k v es)::O')
   |none=>K O'
def Z3r(O:Obs)(fp:List Id):List Id->(List Id->ρ)->ρ
 |[],K=>K []
 | o::l,K=>Z3r O fp l fun l'=>match look O o with
   |some (.box a)=>nif (allI (inI fp) (Zq a [])) (K l') (K (o::l'))
   | _=>K l'
def Z7x(fp:List Id):Obs->(Obs->ρ)->ρ
 |[],K=>K []
 |(j,b)::O,K=>Z7x fp O fun O2=>nif (inI fp j) (K O2) (K ((j,b)::O2))
def appK:Obs->Obs->(Obs->ρ)->ρ
 |[],O,K=>K O
 |(j,b)::O',O,K=>appK O' O fun O2=>K ((j,b)::O2)
def Zeg(wr:List Id)(O' O:Obs)(K:Obs->ρ):ρ:=Zb7 O' wr fun R=>Z7x wr O fun O2=>appK R O2 K
def newI(fp:List Id):Obs->(List Id->ρ)->ρ
 |[],K=>K []
 |(j,_)::O,K=>newI fp O fun l=>nif (inI fp j) (K l) (K (j::l))
def appI:List Id->List Id->(List Id->ρ)->ρ
 |[],m,K=>K m
 |i::l,m,K=>appI l m fun l'=>K (i::l')
def Z5s(O:Obs):List Id->(List Id->ρ)->ρ
 |[],K=>K []
 | o::l,K=>Z5s O l fun l'=>match look O o with
   |some (.list _ e _)=>nif e.plain (K l') (K (o::l'))
   |some (.map _ _ v _)=>nif v.flat (K l') (K (o::l'))
   | _=>K l'
structure Lg where
 j:Nat
 rd:List Id
 wr:List Id
 pr:List Nat
 d:Option Nat
 ls:List Nat
def prOf(j:Nat):List Lg->List Nat
 |[]=>[]
 |e::l=>nif (Nat.beq e.j j) e.pr (prOf j l)
def inN:List Nat->Nat->Bool
 |[],_=>false
 |j::l,i=>nif (Nat.beq j i) true (inN l i)
def addK:List Nat->List Nat->(List Nat->ρ)->ρ
 |[],a,K=>K a
 |n::l,a,K=>nif (inN a n) (addK l a K) (addK l (n::a) K)
def Z8l(lg:List Lg):List Edge->List Nat->(List Nat->ρ)->ρ
 |[],a,K=>K a
 |e::l,a,K=>nif (nif (Region.binds .any e) (nif (inN a e.on) false true) false) (addK (prOf e.on lg) (e.on::a) fun a=>Z8l lg l a K) (Z8l lg l a K)
def Z8m(j:Nat):List Edge->Bool
 |[]=>true
 |e::l=>nif (nif (Region.binds .any e) (Nat.blt e.on j) true) (Z8m j l) false
def Z6c(l m:List Id):Bool:=allI (fun i=>nif (inI m i) false true) l
def freeL(rd wr:List Id)(pr:List Nat):List Lg->Bool
 |[]=>true
 |e::l=>nif (nif (inN pr e.j) true (nif (Z6c wr e.rd) (nif (Z6c wr e.wr) (Z6c e.wr rd) false) false)) (freeL rd wr pr l) false
def newL(ids:List Id):List Lg->Bool
 |[]=>true
 |e::l=>nif (nif (Z6c ids e.rd) (Z6c ids e.wr) false) (newL ids l) false
def Zm:Op->List Operand
 |.call {callee:=.value f,args,.. }=>f::args.toList
 |.call {callee:=.builtin _,args,.. }=>args.toList
 |.buildSlice _ _ ps=>ps.toList.map (·.2)
 |.build _ ps=>ps.toList.map (·.2)
 |.makeFunc _ first caps=>first.toList++caps.toList
 |.slice _ x l h none=>x::(l.toList++h.toList)
 |.makeMap _ none=>[]
 |op=>op.operands.toList
def Z25:List Operand->List Nat
 |[]=>[]
 |.tmp t::l=>t::Z25 l
 | _::l=>Z25 l
def Zy(all:List Oper)(o:Oper):List Nat:=
 match o.guard with
 | some (g,_)=>(match nth all g with
   |some ⟨some d,_,_,_,_,_⟩=>d::Z25 (Zm o.op)
   | _=>Z25 (Zm o.op))
 |none=>Z25 (Zm o.op)
def Za4(d:Option Nat)(l:List Nat):Bool:=match d with|some d=>inN l d|none=>false
def Zb9(dx:Option Nat)(lx:List Nat)(dy:Option Nat)(ly:List Nat):Bool:=
 nif (Za4 dx ly) false (nif (Za4 dy lx) false (match dx,dy with|some a,some b=>nif (Nat.beq a b) false true| _,_=>true))
def Z7y(d:Option Nat)(ls:List Nat)(pr:List Nat):List Lg->Bool
 |[]=>true
 |e::l=>nif (nif (inN pr e.j) true (Zb9 e.d e.ls d ls)) (Z7y d ls pr l) false
def Z4c {ρ:Type}:List Oper->St->(St->ρ)->ρ
 |[],σ,K=>K σ
 | o::l,σ,K=>nif (isW o) (match o.dst with
   |some d=>σ.clearK d fun σ'=>Z4c l σ' K
   |none=>Z4c l σ K) (Z4c l σ K)
def Zba:List Id->(List Id->ρ)->ρ
 |[],K=>K []
 |i::l,K=>Zba l fun l'=>K (i::l')
def Zbb:List Nat->(List Nat->ρ)->ρ
 |[],K=>K []
 |i::l,K=>Zbb l fun l'=>K (i::l')
def Z4w {ρ:Type}(ids:List Id):AV->(AV->ρ)->ρ
 |.s o i k,K=>nif (inI ids o) (K (.hole 1)) (K (.s o i k))
 |.pr a b,K=>Z4w ids a fun a'=>Z4w ids b fun b'=>K (.pr a' b')
 |.tp a b,K=>Z4w ids a fun a'=>Z4w ids b fun b'=>K (.tp a' b')
 |.cl f a,K=>Z4w ids a fun a'=>K (.cl f a')
 |a,K=>avK a K
def Zcb {ρ:Type}(ids:List Id):List AV->(List AV->ρ)->ρ
 |[],K=>K []
 |a::l,K=>Z4w ids a fun a'=>Zcb ids l fun l'=>K (a'::l')
def St.evT(l:List Nat)(σ:St):Operand->AV
 |.tmp t=>nif (inN l t) (σ.get t) .dead
 |x=>σ.ev x
def Zg9:Option AV->Bool
 |some a=>(match Zq a []with|[]=>true| _=>false)
 |none=>false
def wkN(a:AV):AV:=wk (fun _=>false) (fun _=>false) a
def St.evD(o:Oper)(ls:List Nat)(σ:St):Operand->AV:=
 match o.op with
 | .extract x i=>(match Zg9 (opQ.tupAt (σ.evT ls x) i fun a=>some a)with
   |true=>fun v=>(match v with|.tmp t=>wkN (σ.evT ls (.tmp t))|v=>σ.evT ls v)
   |false=>σ.evT ls)
 | _=>σ.evT ls
def Zga(o:Oper)(O:Obs)(ms:List Id)(K:List Id->Option ρ):Option ρ:=
 match o.op with
 |.move _=>K ms
 |.assign _=>K ms
 |.pick _ _ _=>K ms
 |.nilCheck _=>K ms
 |.fieldAddr _ _ _=>K ms
 |.field _ _ _=>K ms
 |.binOp _ _ _ _ _=>K ms
 |.unOp _ _ _=>K ms
 |.convert _ _ _=>K ms
 |.extract _ _=>K ms
 | _=>Z5y O 200 ms [] K
def valB:List (PM×Ty)->Bool
 |[]=>true
 |(.val,_)::l=>valB l
 | _::_=>false
def Z78(o:Oper)(ev:Operand->AV):Bool:=
 match o.op with
 |.move _=>true
 |.assign _=>true
 |.alloc _=>true
 |.box _ _=>true
 |.build _ _=>true
 |.makeSlice _ _ _=>true
 |.makeMap _ _=>true
 | .call {callee:=.value g,args,.. }=>(match ev g with
   | .cl g _=>(match keyK E g (args.toList.map fun x=>(Z1q x,ev x)) fun key=>some key with
     |some key=>(match E.sg key with|some s=>valB s.ps|none=>false)
     |none=>false)
   | .v (.clo g _) _=>(match keyK E g (args.toList.map fun x=>(Z1q x,ev x)) fun key=>some key with
     |some key=>(match E.sg key with|some s=>valB s.ps|none=>false)
     |none=>false)
   | _=>false)
 | _=>false
def stI(o:Oper)(ev:Operand->AV):Option Id:=
 match o.op with
 |.store _ a _=>(match ev a with|.p q _ _=>some q| _=>none)
 | .call {callee:=.builtin .append,args,.. }=>(match args.toList with
   | [s,x]=>(match ev x with
     | .hs _ _ _=>(match ev s with
       |.ref q=>some q
       | _=>none)
     | _=>none)
   | _=>none)
 | _=>none
def wrK(o:Oper)(ev:Operand->AV)(b:Bool)(O O0:Obs)(fp nw:List Id)(K:List Id->Option ρ):Option ρ:=
 nif (Z78 E o ev) (Z3r O fp fp fun m=>nif b (Z5s O0 fp fun l=>appI l m fun l=>appI l nw K) (appI m nw K)) (match stI o ev with
   |some q=>Z3r O fp fp fun m=>nif b (Z5s O0 fp fun l=>appI l m fun l=>appI l nw fun l=>K (q::l)) (appI m nw fun l=>K (q::l))
   |none=>appI fp nw K)
def noS:AV->Bool
 |.s _ _ _=>false
 |.pr a b=>nif (noS a) (noS b) false
 |.tp a b=>nif (noS a) (noS b) false
 |.cl _ a=>noS a
 | _=>true
def Zdl(o:Oper):Option Nat:=
 match o.op with
 |.move (.tmp t)=>some t
 |.assign (.tmp t)=>some t
 | _=>none
def Z8e (o:Oper)(j:Nat)(pr ls:List Nat)(lg:List Lg)(σ:St)(K:List Lg->St->Option ρ):Option ρ:=
 Zba (Zca ((Zm o.op).map (σ.evD o ls))) fun ms=>Zga o σ.o ms fun fp=>nif (allI (inI fp) ms) (Zb8 σ.o fp fp fun O0=>nif (allI (has σ.o) fp) (
   nif (isW o)
     (nif (match o.dst with|some d=>hasP O0 [d]|none=>false) none<|
       opW E call f o (σ.evD o ls) O0 fun a O1 b=>avK a fun a=>newI fp O1 fun nw=>wrK E o (σ.evD o ls) b σ.o O0 fp nw fun wr=>nif (allI (fun i=>nif (has σ.o i) false true) nw) (nif (newL nw lg) (nif (freeL fp wr pr lg) (nif (allI (fun i=>nif (inI fp i) true (inI nw i)) (Zq a []))
         (Zeg wr O1 σ.o fun O2=>nif b (Zcb wr σ.s fun s=>(⟨s,O2⟩:St).putK o.dst a fun σ'=>K (⟨j,fp,wr,pr,o.dst,ls⟩::lg) σ') ((⟨σ.s,O2⟩:St).putK o.dst a fun σ'=>K (⟨j,fp,wr,pr,o.dst,ls⟩::lg) σ')) none) none) none) none)
     (opQ E o (σ.evD o ls) O0 fun a=>avK a fun a=>nif (freeL fp [] pr lg) (nif (allI (inI fp) (Zq a [])) (σ.putK o.dst a fun σ'=>K (⟨j,fp,[],pr,o.dst,ls⟩::lg) σ') none) none)) none) none
def Z79(o:Oper)(j:Nat)(pr ls:List Nat)(lg:List Lg)(σ:St)(K:List Lg->St->Option ρ):Option ρ:=
 match Zdl o with
 |some t=>nif (noS (σ.get t)) (avK (σ.get t) fun a=>σ.putK o.dst a fun σ'=>K (⟨j,[],[],pr,o.dst,ls⟩::lg) σ') (Z8e E call f o j pr ls lg σ K)
 |none=>Z8e E call f o j pr ls lg σ K
def Z3f (all:List Oper):List Oper->Nat->List Lg->St->(St->Option ρ)->Option ρ
 |[],_,_,σ,K=>σ.sweepK K
 | o :: l, j,lg,σ,K=>Z8l lg o.after.toList [] fun pr=>Zbb (Zy all o) fun ls=>nif (nif (Z8m j o.after.toList) (Z7y o.dst ls pr lg) false) (match o.guard with
   |none=>Z79 E call f o j pr ls lg σ fun lg' σ'=>Z3f all l (Nat.succ j) lg' σ' K
   | some (g,b)=>match nth all g with
     | some ⟨some d,_,_,_,_,_⟩=>match σ.get d with
       | .v .bool x=>bif x
         then σ.setK d (.v .bool true) fun σ=>(match b with
           |true=>Z79 E call f o j pr ls lg σ fun lg' σ'=>Z3f all l (Nat.succ j) lg' σ' K
           |false=>σ.putK o.dst .tn fun σ'=>Z3f all l (Nat.succ j) (⟨j,[],[],pr,o.dst,ls⟩::lg) σ' K)
         else σ.setK d (.v .bool false) fun σ=>(match b with
           |false=>Z79 E call f o j pr ls lg σ fun lg' σ'=>Z3f all l (Nat.succ j) lg' σ' K
           |true=>σ.putK o.dst .tn fun σ'=>Z3f all l (Nat.succ j) (⟨j,[],[],pr,o.dst,ls⟩::lg) σ' K)
       |.tn=>σ.putK o.dst .tn fun σ'=>Z3f all l (Nat.succ j) (⟨j,[],[],pr,o.dst,ls⟩::lg) σ' K
       | _=>none
     | _=>none) none
def seqC(run:St->(Ex->St->Option ρ)->Option ρ)(K:Ex->St->Option ρ):Ex->St->Option ρ
 |.nrm,σ=>run σ K
 |.exit i,σ=>K (.exit i) σ
 |.ret,σ=>K .ret σ
def blkC(id:Nat)(K:Ex->St->Option ρ):Ex->St->Option ρ
 |.nrm,σ=>K .nrm σ
 |.exit i,σ=>nif (Nat.beq i id) (K .nrm σ) (K (.exit i) σ)
 |.ret,σ=>K .ret σ
def loopC(lv:List Nat)(J:St->Option ρ)(K:Ex->St->Option ρ):Ex->St->Option ρ
 |.nrm,σ=>norm lv σ J
 |.exit i,σ=>K (.exit i) σ
 |.ret,σ=>K .ret σ
def iterK(lv:List Nat)(body:St->(Ex->St->Option ρ)->Option ρ)(K:Ex->St->Option ρ):Nat->St->Option ρ
 |0,_=>none
 |n+1,σ=>body σ (loopC lv (iterK lv body K n) K)
def cutK(body:St->(Ex->St->Option ρ)->Option ρ)(K:Ex->St->Option ρ):Nat->St->Option ρ
 |0,_=>none
 | _+1,σ=>body σ K
def Z15(k:Nat):AC->St->(Ex->St->Option ρ)->Option ρ
 |.skip,σ,K=>K .nrm σ
 |.reg ops draw,σ,K=>nif draw (Z4c ops σ fun σ=>Z3f E call f ops ops 0 [] σ (K .nrm)) (opsK E call f ops ops σ (K .nrm))
 |.seq a b,σ,K=>Z15 k a σ (seqC (Z15 k b) K)
 | .cond c a b,σ,K=>match σ.ev c with
   |.v .bool x=>bif x then Z15 k a σ K else Z15 k b σ K
   | _=>none
 |.blk id c,σ,K=>Z15 k c σ (blkC id K)
 |.loop lv c,σ,K=>norm lv σ (iterK lv (Z15 k c) K k)
 |.cut lv c,σ,K=>norm lv σ (cutK (Z15 k c) K k)
 |.exit id,σ,K=>K (.exit id) σ
 |.ret,σ,K=>K .ret σ
 |.bad,_,_=>none
def sites:AC->Nat
 |.seq a b=>Nat.add (sites a) (sites b)
 |.cond _ a b=>Nat.add (sites a) (sites b)
 |.blk _ c=>sites c
 |.loop _ c=>Nat.succ (sites c)
 |.cut _ c=>Nat.succ (sites c)
 | _=>0
def Z6d:AC->Nat->List Nat
 |.seq a b,i=>nif (Nat.blt i (sites a)) (Z6d a i) (Z6d b (Nat.sub i (sites a)))
 |.cond _ a b,i=>nif (Nat.blt i (sites a)) (Z6d a i) (Z6d b (Nat.sub i (sites a)))
 |.blk _ c,i=>Z6d c i
 |.loop lv c,i=>match i with|0=>lv|i+1=>Z6d c i
 |.cut lv c,i=>match i with|0=>lv|i+1=>Z6d c i
 | _,_=>[]
def Z4x:AC->Nat->AC
 |.seq a b,i=>nif (Nat.blt i (sites a)) (Z4x a i) (Z4x b (Nat.sub i (sites a)))
 |.cond _ a b,i=>nif (Nat.blt i (sites a)) (Z4x a i) (Z4x b (Nat.sub i (sites a)))
 |.blk _ c,i=>Z4x c i
 |.loop _ c,i=>match i with|0=>c|i+1=>Z4x c i
 |.cut _ c,i=>match i with|0=>c|i+1=>Z4x c i
 | _,_=>.bad
def Z4y(k:Nat)(J:Nat->St->Option ρ):AC->Nat->Nat->(Ex->St->Option ρ)->Ex->St->Option ρ
 |.seq a b,m,i,K=>nif (Nat.blt i (sites a)) (Z4y k J a m i (seqC (Z15 E call f k b) K)) (Z4y k J b (Nat.add m (sites a)) (Nat.sub i (sites a)) K)
 |.cond _ a b,m,i,K=>nif (Nat.blt i (sites a)) (Z4y k J a m i K) (Z4y k J b (Nat.add m (sites a)) (Nat.sub i (sites a)) K)
 |.blk id c,m,i,K=>Z4y k J c m i (blkC id K)
 |.loop lv c,m,i,K=>match i with|0=>K|i+1=>Z4y k J c (Nat.succ m) i (loopC lv (J m) K)
 |.cut _ c,m,i,K=>match i with|0=>K|i+1=>Z4y k J c (Nat.succ m) i K
 | _,_,_,K=>K
def inK:(ps:List (PM×Ty))->(chain (Z23 ps)).den->Nat->(List AV->Obs->Option ρ)->Option ρ
 |[],_,_,K=>K [] []
 |(.val,t)::ps,l,i,K=>nif t.plain (inK ps l.2 (Nat.succ i) fun s O=>K (.v t l.1::s) O) none
 |(.mov,t)::ps,l,i,K=>inK ps l.2 (Nat.succ i) fun s O=>unpK t l.1 [i] O fun a O'=>K (a::s) O'
 |(.lendv,t)::ps,l,i,K=>inK ps l.2 (Nat.succ i) fun s O=>unpK t l.1 [i] O fun a O'=>K (a::s) O'
 |(.lend,t)::ps,l,i,K=>inK ps l.2 (Nat.succ i) fun s O=>unpK t l.1 [i,3] O fun a O'=>newK O' [i] (.box a) fun O''=>K (.p [i] [] 0::s) O''
def outV(t:Ty)(a:AV)(O:Obs)(K:t.den->Obs->Option ρ):Option ρ:=
 match a with
 | .hs o lo n=>match look O o with
   | some (.list tid e xs)=>bif decide (lo+n<=xs.length)then Z1a O o fun O'=>nif t.isOwn (nif (Nat.beq lo 0) (Ze (.own tid e) t (xs.take n) fun z=>K z O') none)
     (nif t.plain (Ze (Ty.slc e).sh t (toSh (.slc e) ((xs.drop lo).take n)) fun z=>K z O') none)else none
   | _=>none
 | .p o [] 0=>match look O o with
   |some (.box c)=>Z1a O o fun O1=>pkK c O1 fun u y O2=>fitK (.bx u) t y fun z=>K z O2
   | _=>none
 |a=>pkK a O fun u y O1=>fitK u t y fun z=>K z O1
def Z6e(s:List AV):(rs:List Ty)->List ResultVar->Obs->((chain rs).den->Obs->Option ρ)->Option ρ
 |[],[],O,K=>K () O
 | t::rs,.tmp i::l,O,K=>(match nth s i with
   |some a=>outV t a O fun x O1=>Z6e s rs l O1 fun xs O2=>K (x,xs) O2
   |none=>none)
 | t ::rs,.cell i T::l,O,K=>(match nth s i with
   | some (.p o [] 0)=>(match look O o with
     |some (.box a)=>tiK E T fun j=>nif (nif (Nat.beq a.size j.size) (a.agg==j.agg) false) (outV t a O fun x O1=>Z6e s rs l O1 fun xs O2=>K (x,xs) O2) none
     | _=>none)
   | _=>none)
 | _,_,_,_=>none
def Za5:(t:Ty)->t.den->AV->Obs->(t.den->Obs->Option ρ)->Option ρ
 | .own tid e,_,.ref o,O,K=>match look O o with
   |some (.list tid' e' ys)=>nif (Nat.beq tid tid') (Ze (.slc e') (.slc e) ys fun zs=>Z1a O o fun O'=>K zs O') none
   | _=>none
 |.pair a b,x,.pr c d,O,K=>nif (Nat.beq c.size a.size) (Za5 a x.1 c O fun y O1=>Za5 b x.2 d O1 fun z O2=>K (y,z) O2) none
 |.hole _,x,_,O,K=>K x O
 |t,x,_,O,K=>nif t.plain (K x O) none
def Z3s(s:List AV):(ps:List (PM×Ty))->(chain (Z23 ps)).den->Nat->Obs->((chain (Zo ps)).den->Option ρ)->Option ρ
 |[],_,_,_,K=>K ()
 |(.val,_)::ps,l,i,O,K=>Z3s s ps l.2 (Nat.succ i) O K
 |(.mov,_)::ps,l,i,O,K=>Z3s s ps l.2 (Nat.succ i) O K
 | (.lend,t)::ps,l,i,O,K=>(match nth s i with
   | some (.p o [] 0)=>(match look O o with
     |some (.box c)=>Z1a O o fun O1=>pkK c O1 fun u y O2=>Ze u t y fun x=>Z3s s ps l.2 (Nat.succ i) O2 fun r=>K (x,r)
     | _=>none)
   | _=>none)
 | (.lendv,t)::ps,l,i,O,K=>(match nth s i with
   |some a=>Za5 t l.1 a O fun x O1=>Z3s s ps l.2 (Nat.succ i) O1 fun r=>K (x,r)
   |none=>none)
def Zcc(s:Sg)(l:s.A.den)(rs:List ResultVar):Ex->St->Option s.R.den
 |.exit _,_=>none
 |.nrm,σ=>Z6e E σ.s s.rs rs σ.o fun r O=>Z3s σ.s s.ps l 0 O fun ls=>some (r,ls)
 |.ret,σ=>Z6e E σ.s s.rs rs σ.o fun r O=>Z3s σ.s s.ps l 0 O fun ls=>some (r,ls)
def Env.ac(E:Env)(f:Nat):AC:=match E.fn f with
 | some fn=>match fn.body with
   |some c=>ann (E.cuts f) c (E.live f) 0
   |none=>.bad
 |none=>.bad
def Env.rs(E:Env)(f:Nat):List ResultVar:=match E.fn f with|some fn=>fn.results.toList|none=>[]
def Env.nt(E:Env)(f:Nat):Nat:=match E.fn f with|some fn=>fn.ntmps|none=>0
def bodyK(k:Nat)(s:Sg)(l:s.A.den):Option s.R.den:=
 inK s.ps l 0 fun sl O=>Z15 E call f k (E.ac f) ⟨sl++nrep .dead (Nat.sub (E.nt f) (nlen s.ps)),O⟩ (Zcc E s l (E.rs f))
end exec
def sem(E:Env)(ext:(g:Nat)->(s:Sg)->Option (s.A.den->Option s.R.den)):Nat->(g:Nat)->(s:Sg)->s.A.den->Option s.R.den
 |0,_,_,_=>none
 | k+1,g,s,l=>match ext g s with
   |some F=>F l
   |none=>bodyK E (sem E ext k) g k s l
def mkS(n:Nat)(l:List (Nat×AV)):List AV:=go n 0
where
 go:Nat->Nat->List AV
   |0,_=>[]
   |m+1,i=>(match lk l i with|some a=>a|none=>.dead)::go m (Nat.succ i)
section sites
variable(E:Env)(call:(g:Nat)->(s:Sg)->s.A.den->Option s.R.den)(f k:Nat)(s:Sg)(l:s.A.den)(J:Nat->St->Option s.R.den)(i:Nat)
def siteI(n:Nat):St->Option s.R.den:=
 iterK (Z6d (E.ac f) i) (Z15 E call f k (Z4x (E.ac f) i)) (Z4y E call f k J (E.ac f) 0 i (Zcc E s l (E.rs f))) n
def Zi7(J0:St->Option s.R.den)(σ:St):Option s.R.den:=
 Z15 E call f k (Z4x (E.ac f) i) σ (loopC (Z6d (E.ac f) i) J0 (Z4y E call f k J (E.ac f) 0 i (Zcc E s l (E.rs f))))
def upJ {ρ:Type}(q:Nat)(J0:St->Option ρ)(J:Nat->St->Option ρ)(j:Nat):St->Option ρ:=nif (Nat.beq j q) J0 (J j)
variable {E call f k s l J i}
theorem loop_eq {X:Type}(S:X->St)(L:Nat->X->Option s.R.den)(step:(X->Option s.R.den)->X->Option s.R.den)
   (h0:∀x,L 0 x=none) (hs:∀n x,L (n+1) x=step (L n) x)
   (hb:∀(J0:St->Option s.R.den)(x:X),Zi7 E call f k s l J i J0 (S x)=step (fun x'=>J0 (S x')) x):∀n x,siteI E call f k s l J i n (S x)=L n x:=by
 intro n
 induction n with
 |zero=>intro x;rw[h0];rfl
 | succ n ih=>
   intro x;rw[hs];exact(hb _ x).trans (congrArg (fun r=>step r x) (funext ih))
end sites
end Go.Pv
