/- Printed texts of functions, and what they answer: part 1. No condition but those of each. -/
import Derived.Test.YtjgfofcgmcnblaaGreatPvEnv
import Derived.Test.YtjgfofcgmcnblaaGreatPvD
import Derived.KernelRfl
set_option linter.all false
set_option maxHeartbeats 2000000
namespace Go.Proofs.YtjgfofcgmcnblaaGreat.Pf
open Go Go.Pv
theorem w64 {x:Int}(h0:-9223372036854775808≤x)(h1:x≤9223372036854775807):IntKind.i64.wrap x=x:=by
  simp only[IntKind.wrap,IntKind.bits,IntKind.signed,Bool.true_and];split
  . rename_i h;have h:=of_decide_eq_true h;omega
  . rename_i h;have h:¬(x % 2^64≥2^(64-1)):=fun e=>h (decide_eq_true e)
    omega
noncomputable def cl(k:Nat):Cl:=sem E (fun _ _=>none) k
def Ev(p:Nat→Prop):Prop:=∃k0,∀k,k0≤k→p k
theorem Ev.all {p:Nat→Prop}(h:∀k,p k):Ev p:=⟨0,fun k _=>h k⟩
theorem Ev.and {p q:Nat→Prop}(h1:Ev p)(h2:Ev q):Ev fun k=>p k∧q k:=by
  obtain⟨a,h1⟩:=h1;obtain⟨b,h2⟩:=h2;exact⟨max a b,fun k hk=>⟨h1 k (by omega),h2 k (by omega)⟩⟩
theorem Ev.mono {p q:Nat→Prop}(h:Ev p)(hpq:∀k,p k→q k):Ev q:=by
  obtain⟨a,h⟩:=h;exact⟨a,fun k hk=>hpq k (h k hk)⟩
theorem Ev.ge(n:Nat):Ev fun k=>n≤k:=⟨n,fun _ h=>h⟩
def Ans(g:Nat)(s:Sg)(l:s.A.den)(r:s.R.den):Prop:=Ev fun k=>cl k g s l=some r
theorem Ans.of {g:Nat}{s:Sg}{l:s.A.den}{r:s.R.den}{f:Nat→Option s.R.den}(he:∀k,bodyK E (cl k) g k s l=f k)(h:Ev fun k=>f k=some r):Ans g s l r:=by
  obtain⟨k0,h⟩:=h;refine⟨k0+1,fun k hk=>?_⟩;obtain⟨k,rfl⟩:∃m,k=m+1:=⟨k-1,by omega⟩
  show bodyK E (cl k) g k s l=some r
  rw[he];exact h k (by omega)
theorem Ans.sem {g:Nat}{s:Sg}{l:s.A.den}{r:s.R.den}(h:Ans g s l r):∃k,Pv.sem E (fun _ _=>none) k g s l=some r:=by
  obtain⟨k0,h⟩:=h;exact⟨k0,h k0 (Nat.le_refl _)⟩
theorem ws {j n:Nat}(h:j<n)(hn:n≤9223372036854775807):IntKind.i64.wrap ((j:Int)+1)=((j+1:Nat):Int):=by
  rw[w64 (by omega) (by omega)];omega
theorem dlt {j n:Nat}(h:j<n):decide ((j:Int)<(n:Int))=true:=decide_eq_true (by omega)
theorem dnlt {j n:Nat}(h:n≤j):decide ((j:Int)<(n:Int))=false:=decide_eq_false (by omega)
theorem dle0(j:Nat):decide ((0:Int)≤(j:Int))=true:=decide_eq_true (by omega)
theorem lg {α:Type}{xs:List α}{j:Nat}(h:j<xs.length:=by omega):lget xs (Int.toNat (j:Int))=some xs[j]:=by
  rw[Int.toNat_natCast];exact List.getElem?_eq_getElem h
theorem lgn {α:Type}{xs:List α}{j:Nat}(h:j<xs.length):lget xs j=some xs[j]:=by
  exact List.getElem?_eq_getElem h
theorem Ev.step {p q:Nat→Prop}(h:Ev p)(hpq:∀k,p k→q (k+1)):Ev q:=by
  obtain⟨k0,h⟩:=h;refine⟨k0+1,fun k hk=>?_⟩;obtain⟨k,rfl⟩:∃m,k=m+1:=⟨k-1,by omega⟩
  exact hpq k (h k (by omega))
def Tq {α:Type}(d:Nat)(f:Nat→Nat→Option α)(P:α→Prop):Prop:=∃r,P r∧∃k0,∀k,k0≤k→∀q,d≤q→f k q=some r
section
variable {α β:Type}{d:Nat}{P:α→Prop}{Q:β→Prop}
theorem Tq.ret {r:α}(h:P r):Tq d (fun _ _=>some r) P:=⟨r,h,0,fun _ _ _ _=>rfl⟩
theorem Tq.bind {f:Nat→Nat→Option α}{K:Nat→Nat→α→Option β}(h:Tq d f P)(hK:∀x,P x→Tq d (fun k q=>K k q x) Q):Tq d (fun k q=>(f k q).bind (K k q)) Q:=by
  obtain⟨x,hx,k0,h⟩:=h;obtain⟨r,hr,k1,hK⟩:=hK x hx;refine⟨r,hr,max k0 k1,fun k hk q hq=>?_⟩;show(f k q).bind (K k q)=some r
  rw[h k (by omega) q hq];exact hK k (by omega) q hq
theorem Tq.some {x:α}{f:Option α}{K:Nat→Nat→α→Option β}(h:f=.some x)(hK:Tq d (fun k q=>K k q x) Q):Tq d (fun k q=>f.bind (K k q)) Q:=by
  rw[h];exact hK
theorem Tq.bif {c:Bool}{a b:Nat→Nat→Option α}(ha:c=true→Tq d a P)(hb:c=false→Tq d b P):Tq d (fun k q=>bif c then a k q else b k q) P:=by
  cases c with
  |true=>exact ha rfl
  |false=>exact hb rfl
theorem Tq.bt {c:Bool}{a b:Nat→Nat→Option α}(h:c=true)(ha:Tq d a P):Tq d (fun k q=>bif c then a k q else b k q) P:=.bif (fun _=>ha) fun e=>by rw[h]at e;cases e
theorem Tq.bf {c:Bool}{a b:Nat→Nat→Option α}(h:c=false)(hb:Tq d b P):Tq d (fun k q=>bif c then a k q else b k q) P:=.bif (fun e=>by rw[h]at e;cases e) fun _=>hb
theorem Tq.mono {f:Nat→Nat→Option α}{P Q:α→Prop}(h:Tq d f P)(hPQ:∀x,P x→Q x):Tq d f Q:=by
  obtain⟨r,hr,h⟩:=h;exact⟨r,hPQ r hr,h⟩
theorem Tq.succ {f:Nat→Nat→Option α}(h:Tq d (fun k q=>f k (q+1)) P):Tq (d+1) f P:=by
  obtain⟨r,hr,k0,h⟩:=h;refine⟨r,hr,k0,fun k hk q hq=>?_⟩;obtain⟨q,rfl⟩:∃p,q=p+1:=⟨q-1,by omega⟩
  exact h k hk q (by omega)
theorem Tq.diag {f:Nat→Nat→Option α}{e:Nat}(h:Tq d f P):Tq e (fun k _=>f k k) P:=by
  obtain⟨r,hr,k0,h⟩:=h;exact⟨r,hr,max k0 d,fun k hk q _=>h k (by omega) k (by omega)⟩
theorem Tq.eq {f g:Nat→Nat→Option α}(h:Tq d g P)(e:∀k q,f k q=g k q):Tq d f P:=by
  obtain⟨r,hr,k0,h⟩:=h;exact⟨r,hr,k0,fun k hk q hq=>(e k q).trans (h k hk q hq)⟩
end
def Gv(g:Nat)(s:Sg)(l:s.A.den)(P:s.R.den→Prop):Prop:=∃r,P r∧Ans g s l r
theorem Gv.tq {g:Nat}{s:Sg}{l:s.A.den}{P:s.R.den→Prop}{d:Nat}(h:Gv g s l P):Tq d (fun k _=>cl k g s l) P:=by
  obtain⟨r,hr,k0,h⟩:=h;exact⟨r,hr,k0,fun k hk _ _=>h k hk⟩
theorem Ans.tq {g:Nat}{s:Sg}{l:s.A.den}{r:s.R.den}{d:Nat}(h:Ans g s l r):Tq d (fun k _=>cl k g s l) (· =r):=Gv.tq ⟨r,rfl,h⟩
theorem Gv.of {g:Nat}{s:Sg}{l:s.A.den}{P:s.R.den→Prop}{f:Nat→Option s.R.den}(he:∀k,bodyK E (cl k) g k s l=f k)(h:Tq 0 (fun k _=>f k) P):Gv g s l P:=by
  obtain⟨r,hr,k0,h⟩:=h;exact⟨r,hr,Ans.of he ⟨k0,fun k hk=>h k hk 0 (Nat.le_refl _)⟩⟩
theorem Gv.ans {g:Nat}{s:Sg}{l:s.A.den}{r:s.R.den}(h:Gv g s l (· =r)):Ans g s l r:=by
  obtain⟨_,rfl,h⟩:=h;exact h
theorem Tq.ev {P:Nat→Prop}(h:Ev P):∃k0,∀k,k0≤k→P k:=h
theorem Tq.evEq {α:Type}{d:Nat}{P:α→Prop}{f g:Nat→Nat→Option α}(e:Ev fun k=>∀q,d≤q→f k q=g k q)(h:Tq d g P):Tq d f P:=by
  obtain⟨r,hr,k0,h⟩:=h;obtain⟨k1,e⟩:=e;exact⟨r,hr,max k0 k1,fun k hk q hq=>(e k (by omega) q hq).trans (h k (by omega) q hq)⟩
end Go.Proofs.YtjgfofcgmcnblaaGreat.Pf
namespace Go.Proofs.YtjgfofcgmcnblaaGreat.Pf
open Go Go.Pv IntKind
abbrev Y0_0:Type:=(Int×((List (Int×(Int×Unit)))×((List (Int×(Int×Unit)))×(Int×((List Int)×((List (Int×(Int×((List (Int×(Int×Unit)))×((List (Int×(Int×Unit)))×Unit)))))×Unit))))))
abbrev Y0_1:Type:=((List (Int×(Int×((List (Int×(Int×Unit)))×((List (Int×(Int×Unit)))×Unit))))))
abbrev Y0_2:Type:=(List (Int×(Int×((List (Int×(Int×Unit)))×((List (Int×(Int×Unit)))×Unit)))))
abbrev Y0_3:Type:=(Int×(Int×((List (Int×(Int×Unit)))×((List (Int×(Int×Unit)))×Unit))))
abbrev Y0_4:Type:=(Int×Int×List (Int×Int×Unit)×List (Int×Int×Unit)×Unit)
abbrev Y0_5:Type:=((List (Int×Int×Unit)×Unit)×Unit)
abbrev Y0_6:Type:=((Int)×((List (Int×(Int×Unit)))))
abbrev Y0_7:Type:=((List (Int×(Int×Unit))))
abbrev Y0_8:Type:=(List (Int×(Int×Unit)))
abbrev Y0_9:Type:=(Int×(Int×Unit))
abbrev Y0_10:Type:=(Bool×Unit)
abbrev Y0_11:Type:=(Int×Unit)
namespace laws_szInt64S
abbrev R:=((Int×Unit)×Unit)
def Fm(call:Cl)(k:Nat)(a0:(List Int))(a1:Int):Option R:=bif decide (i64.wrap (a1-(↑a0.length:Int))<0)then some (((-1),()),())else some ((i64.wrap (a1-(↑a0.length:Int)),()),())
def F(call:Cl)(k:Nat)(a0:(List Int))(a1:Int):Option R:=Fm call k a0 a1
theorem F_eq(call:Cl)(k:Nat)(a0:(List Int))(a1:Int):bodyK E call n_laws_szInt64S k s_laws_szInt64S (a0,a1,())=F call k a0 a1:=by kernel_rfl
end laws_szInt64S
namespace laws_szInputS
abbrev R:=((Int×Unit)×Unit)
def Fm(call:Cl)(k:Nat)(a0:Y0_8)(a1:Int):Option R:=bif decide (i64.wrap (a1-(↑a0.length:Int))<0)then some (((-1),()),())else some ((i64.wrap (a1-(↑a0.length:Int)),()),())
def F(call:Cl)(k:Nat)(a0:Y0_8)(a1:Int):Option R:=Fm call k a0 a1
theorem F_eq(call:Cl)(k:Nat)(a0:Y0_8)(a1:Int):bodyK E call n_laws_szInputS k s_laws_szInputS (a0,a1,())=F call k a0 a1:=by kernel_rfl
end laws_szInputS
namespace laws_szTermS
abbrev R:=((Int×Unit)×Unit)
def Fm(call:Cl)(k:Nat)(a0:Y0_8)(a1:Int):Option R:=bif decide (i64.wrap (a1-(↑a0.length:Int))<0)then some (((-1),()),())else some ((i64.wrap (a1-(↑a0.length:Int)),()),())
def F(call:Cl)(k:Nat)(a0:Y0_8)(a1:Int):Option R:=Fm call k a0 a1
theorem F_eq(call:Cl)(k:Nat)(a0:Y0_8)(a1:Int):bodyK E call n_laws_szTermS k s_laws_szTermS (a0,a1,())=F call k a0 a1:=by kernel_rfl
end laws_szTermS
namespace laws_szStmt
abbrev R:=((Int×Unit)×Unit)
def Fm(call:Cl)(k:Nat)(a0:Y0_3)(a1:Int):Option R:=(call 212 s_laws_szTermS (a0.2.2.1,a1,())).bind fun(y0:Y0_11×Unit)=>bif decide (y0.1.1<0)then some (((-1),()),())else(call 212 s_laws_szTermS (a0.2.2.2.1,y0.1.1,())).bind fun(y1:Y0_11×Unit)=>bif decide (y1.1.1<0)then some (((-1),()),())else some ((y1.1.1,()),())
def F(call:Cl)(k:Nat)(a0:Y0_3)(a1:Int):Option R:=Fm call k a0 a1
theorem F_eq(call:Cl)(k:Nat)(a0:Y0_3)(a1:Int):bodyK E call n_laws_szStmt k s_laws_szStmt (a0,a1,())=F call k a0 a1:=by kernel_rfl
end laws_szStmt
namespace laws_szStmtS
abbrev R:=((Int×Unit)×Unit)
def S0(a0:Y0_2)(v0_1:Int)(v0_2:Int):St:=⟨mkS 27 [(0,.v (.slc tSm) (a0)),(1,.v tI v0_1),(5,.v tI v0_2)],[]⟩
def step0(call:Cl)(k:Nat)(a0:Y0_2)(r0:(Int)→(Int)→Option R)(v0_1:Int)(v0_2:Int):Option R:=bif decide (v0_2<(↑a0.length:Int))then bif decide (0≤v0_2)then(lget a0 v0_2.toNat).bind fun(y0:Y0_4)=>(call 171 s_laws_szStmt (y0,v0_1,())).bind fun(y1:Y0_11×Unit)=>bif decide (y1.1.1<0)then some (((-1),()),())else r0 y1.1.1 (i64.wrap (v0_2+1))else none else some ((v0_1,()),())
def L0(call:Cl)(k:Nat)(a0:Y0_2):Nat→(Int)→(Int)→Option R|0,_,_=>none|n+1,v0_1,v0_2=>step0 call k a0 (L0 call k a0 n) v0_1 v0_2
def Fm(call:Cl)(k:Nat)(l0:Y0_1→(Int)→(Int)→Option R)(a0:Y0_2)(a1:Int):Option R:=bif decide (i64.wrap (a1-(↑a0.length:Int))<0)then some (((-1),()),())else l0 a0 (i64.wrap (a1-(↑a0.length:Int))) 0
def F(call:Cl)(k:Nat)(a0:Y0_2)(a1:Int):Option R:=Fm call k (fun a0_ v0_1_ v0_2_=>L0 call k a0_ k v0_1_ v0_2_) a0 a1
theorem L0_eq(call:Cl)(k:Nat)(J:Nat→St→Option R)(a0:Y0_2)(a1:Int):∀(n:Nat)(x:((Int)×(Int))),siteI E call n_laws_szStmtS k s_laws_szStmtS (a0,a1,()) J 0 n (S0 a0 x.1 x.2)=L0 call k a0 n x.1 x.2:=by
  refine loop_eq (s:=s_laws_szStmtS) (fun x=>S0 a0 x.1 x.2) (fun n x=>L0 call k a0 n x.1 x.2) (fun r x=>step0 call k a0 (fun v0_1 v0_2=>r (v0_1,v0_2)) x.1 x.2) (fun _=>rfl) (fun _ _=>rfl) fun J0 x=>?_
  kernel_rfl
theorem F_eq(call:Cl)(k:Nat)(a0:Y0_2)(a1:Int):bodyK E call n_laws_szStmtS k s_laws_szStmtS (a0,a1,())=F call k a0 a1:=by
  exact Eq.trans (b:=Fm call k (fun a0 v0_1_ v0_2_=>siteI E call n_laws_szStmtS k s_laws_szStmtS (a0,a1,()) (fun _ _=>none) 0 k (S0 a0 v0_1_ v0_2_)) a0 a1) (by kernel_rfl) (congrArg (fun l=>Fm call k l a0 a1) (funext fun a0=>funext fun v0_1_=>funext fun v0_2_=>L0_eq call k (fun _ _=>none) a0 a1 k (v0_1_,v0_2_)))
end laws_szStmtS
namespace laws_szProg
abbrev R:=((Int×Unit)×Unit)
def Fm(call:Cl)(k:Nat)(a0:Y0_0)(a1:Int):Option R:=(call 112 s_laws_szInputS (a0.2.1,a1,())).bind fun(y0:Y0_11×Unit)=>bif decide (y0.1.1<0)then some (((-1),()),())else(call 112 s_laws_szInputS (a0.2.2.1,y0.1.1,())).bind fun(y1:Y0_11×Unit)=>bif decide (y1.1.1<0)then some (((-1),()),())else(call 113 s_laws_szInt64S (a0.2.2.2.2.1,y1.1.1,())).bind fun(y2:Y0_11×Unit)=>bif decide (y2.1.1<0)then some (((-1),()),())else(call 114 s_laws_szStmtS (a0.2.2.2.2.2.1,y2.1.1,())).bind fun(y3:Y0_11×Unit)=>bif decide (y3.1.1<0)then some (((-1),()),())else some ((y3.1.1,()),())
def F(call:Cl)(k:Nat)(a0:Y0_0)(a1:Int):Option R:=Fm call k a0 a1
theorem F_eq(call:Cl)(k:Nat)(a0:Y0_0)(a1:Int):bodyK E call n_laws_szProg k s_laws_szProg (a0,a1,())=F call k a0 a1:=by kernel_rfl
end laws_szProg
namespace laws_toInt64S
abbrev R:=(((List Int)×Unit)×Unit)
def S0(a0:(List Int))(v0_1:Int)(v0_2:(List Int)):St:=⟨mkS 22 [(0,.v (.slc tI) (a0)),(3,.ref [500003]),(4,.v tI v0_1)],[([500003],.list 2 tI v0_2)]⟩
def step0(call:Cl)(k:Nat)(a0:(List Int))(r0:(Int)→((List Int))→Option R)(v0_1:Int)(v0_2:(List Int)):Option R:=bif decide (v0_1<(↑a0.length:Int))then bif decide (0≤v0_1)then(lget a0 v0_1.toNat).bind fun(y0:Int)=>bif decide (0≤v0_1)&&decide (v0_1.toNat<v0_2.length)then(lget v0_2 v0_1.toNat).bind fun(y1:Int)=>r0 (i64.wrap (v0_1+1)) (v0_2.set v0_1.toNat y0)else none else none else some ((v0_2,()),())
def L0(call:Cl)(k:Nat)(a0:(List Int)):Nat→(Int)→((List Int))→Option R|0,_,_=>none|n+1,v0_1,v0_2=>step0 call k a0 (L0 call k a0 n) v0_1 v0_2
def Fm(call:Cl)(k:Nat)(l0:((List Int))→(Int)→((List Int))→Option R)(a0:(List Int)):Option R:=bif decide ((↑a0.length:Int)=(↑a0.length:Int))&&decide (0≤(↑a0.length:Int))&&decide ((↑a0.length:Int)*(↑ti2.bytes:Int)≤281474976710656)then l0 a0 0 (List.replicate (↑a0.length:Int).toNat (Int.ofNat (nat_lit 0)))else none
def F(call:Cl)(k:Nat)(a0:(List Int)):Option R:=Fm call k (fun a0_ v0_1_ v0_2_=>L0 call k a0_ k v0_1_ v0_2_) a0
theorem L0_eq(call:Cl)(k:Nat)(J:Nat→St→Option R)(a0:(List Int)):∀(n:Nat)(x:((Int)×((List Int)))),siteI E call n_laws_toInt64S k s_laws_toInt64S (a0,()) J 0 n (S0 a0 x.1 x.2)=L0 call k a0 n x.1 x.2:=by
  refine loop_eq (s:=s_laws_toInt64S) (fun x=>S0 a0 x.1 x.2) (fun n x=>L0 call k a0 n x.1 x.2) (fun r x=>step0 call k a0 (fun v0_1 v0_2=>r (v0_1,v0_2)) x.1 x.2) (fun _=>rfl) (fun _ _=>rfl) fun J0 x=>?_
  kernel_rfl
theorem F_eq(call:Cl)(k:Nat)(a0:(List Int)):bodyK E call n_laws_toInt64S k s_laws_toInt64S (a0,())=F call k a0:=by
  exact Eq.trans (b:=Fm call k (fun a0 v0_1_ v0_2_=>siteI E call n_laws_toInt64S k s_laws_toInt64S (a0,()) (fun _ _=>none) 0 k (S0 a0 v0_1_ v0_2_)) a0) (by kernel_rfl) (congrArg (fun l=>Fm call k l a0) (funext fun a0=>funext fun v0_1_=>funext fun v0_2_=>L0_eq call k (fun _ _=>none) a0 k (v0_1_,v0_2_)))
end laws_toInt64S
namespace laws_toInput
abbrev R:=(((Int×(Int×Unit))×Unit)×Unit)
def Fm(call:Cl)(k:Nat)(a0:Y0_9):Option R:=some (((a0.1,a0.2.1,()),()),())
def F(call:Cl)(k:Nat)(a0:Y0_9):Option R:=Fm call k a0
theorem F_eq(call:Cl)(k:Nat)(a0:Y0_9):bodyK E call n_laws_toInput k s_laws_toInput (a0,())=F call k a0:=by kernel_rfl
end laws_toInput
namespace laws_toInputS
abbrev R:=(((List (Int×(Int×Unit)))×Unit)×Unit)
def S0(a0:Y0_8)(v0_1:Int)(v0_2:Y0_8):St:=⟨mkS 23 [(0,.v tTl (a0)),(3,.ref [500003]),(4,.v tI v0_1)],[([500003],.list 59 tTm v0_2)]⟩
def step0(call:Cl)(k:Nat)(a0:Y0_8)(r0:(Int)→Y0_7→Option R)(v0_1:Int)(v0_2:Y0_8):Option R:=bif decide (v0_1<(↑a0.length:Int))then bif decide (0≤v0_1)then(lget a0 v0_1.toNat).bind fun(y0:Int×Int×Unit)=>(call 173 s_laws_toInput (y0,())).bind fun(y1:(((Int×Int×Unit)×Unit)×Unit))=>bif decide (0≤v0_1)&&decide (v0_1.toNat<v0_2.length)then(lget v0_2 v0_1.toNat).bind fun(y2:Int×Int×Unit)=>r0 (i64.wrap (v0_1+1)) (v0_2.set v0_1.toNat y1.1.1)else none else none else some ((v0_2,()),())
def L0(call:Cl)(k:Nat)(a0:Y0_8):Nat→(Int)→Y0_7→Option R|0,_,_=>none|n+1,v0_1,v0_2=>step0 call k a0 (L0 call k a0 n) v0_1 v0_2
def Fm(call:Cl)(k:Nat)(l0:Y0_7→(Int)→Y0_7→Option R)(a0:Y0_8):Option R:=bif decide ((↑a0.length:Int)=(↑a0.length:Int))&&decide (0≤(↑a0.length:Int))&&decide ((↑a0.length:Int)*(↑ti59.bytes:Int)≤281474976710656)then l0 a0 0 (List.replicate (↑a0.length:Int).toNat (0,0,()))else none
def F(call:Cl)(k:Nat)(a0:Y0_8):Option R:=Fm call k (fun a0_ v0_1_ v0_2_=>L0 call k a0_ k v0_1_ v0_2_) a0
theorem L0_eq(call:Cl)(k:Nat)(J:Nat→St→Option R)(a0:Y0_8):∀(n:Nat)(x:Y0_6),siteI E call n_laws_toInputS k s_laws_toInputS (a0,()) J 0 n (S0 a0 x.1 x.2)=L0 call k a0 n x.1 x.2:=by
  refine loop_eq (s:=s_laws_toInputS) (fun x=>S0 a0 x.1 x.2) (fun n x=>L0 call k a0 n x.1 x.2) (fun r x=>step0 call k a0 (fun v0_1 v0_2=>r (v0_1,v0_2)) x.1 x.2) (fun _=>rfl) (fun _ _=>rfl) fun J0 x=>?_
  kernel_rfl
theorem F_eq(call:Cl)(k:Nat)(a0:Y0_8):bodyK E call n_laws_toInputS k s_laws_toInputS (a0,())=F call k a0:=by
  exact Eq.trans (b:=Fm call k (fun a0 v0_1_ v0_2_=>siteI E call n_laws_toInputS k s_laws_toInputS (a0,()) (fun _ _=>none) 0 k (S0 a0 v0_1_ v0_2_)) a0) (by kernel_rfl) (congrArg (fun l=>Fm call k l a0) (funext fun a0=>funext fun v0_1_=>funext fun v0_2_=>L0_eq call k (fun _ _=>none) a0 k (v0_1_,v0_2_)))
end laws_toInputS
namespace laws_toTerm
abbrev R:=(((Int×(Int×Unit))×Unit)×Unit)
def Fm(call:Cl)(k:Nat)(a0:Y0_9):Option R:=some (((a0.1,a0.2.1,()),()),())
def F(call:Cl)(k:Nat)(a0:Y0_9):Option R:=Fm call k a0
theorem F_eq(call:Cl)(k:Nat)(a0:Y0_9):bodyK E call n_laws_toTerm k s_laws_toTerm (a0,())=F call k a0:=by kernel_rfl
end laws_toTerm
namespace laws_toTermS
abbrev R:=(((List (Int×(Int×Unit)))×Unit)×Unit)
def S0(a0:Y0_8)(v0_1:Int)(v0_2:Y0_8):St:=⟨mkS 23 [(0,.v tTl (a0)),(3,.ref [500003]),(4,.v tI v0_1)],[([500003],.list 184 tTm v0_2)]⟩
def step0(call:Cl)(k:Nat)(a0:Y0_8)(r0:(Int)→Y0_7→Option R)(v0_1:Int)(v0_2:Y0_8):Option R:=bif decide (v0_1<(↑a0.length:Int))then bif decide (0≤v0_1)then(lget a0 v0_1.toNat).bind fun(y0:Int×Int×Unit)=>(call 236 s_laws_toTerm (y0,())).bind fun(y1:(((Int×Int×Unit)×Unit)×Unit))=>bif decide (0≤v0_1)&&decide (v0_1.toNat<v0_2.length)then(lget v0_2 v0_1.toNat).bind fun(y2:Int×Int×Unit)=>r0 (i64.wrap (v0_1+1)) (v0_2.set v0_1.toNat y1.1.1)else none else none else some ((v0_2,()),())
def L0(call:Cl)(k:Nat)(a0:Y0_8):Nat→(Int)→Y0_7→Option R|0,_,_=>none|n+1,v0_1,v0_2=>step0 call k a0 (L0 call k a0 n) v0_1 v0_2
def Fm(call:Cl)(k:Nat)(l0:Y0_7→(Int)→Y0_7→Option R)(a0:Y0_8):Option R:=bif decide ((↑a0.length:Int)=(↑a0.length:Int))&&decide (0≤(↑a0.length:Int))&&decide ((↑a0.length:Int)*(↑ti184.bytes:Int)≤281474976710656)then l0 a0 0 (List.replicate (↑a0.length:Int).toNat (0,0,()))else none
def F(call:Cl)(k:Nat)(a0:Y0_8):Option R:=Fm call k (fun a0_ v0_1_ v0_2_=>L0 call k a0_ k v0_1_ v0_2_) a0
theorem L0_eq(call:Cl)(k:Nat)(J:Nat→St→Option R)(a0:Y0_8):∀(n:Nat)(x:Y0_6),siteI E call n_laws_toTermS k s_laws_toTermS (a0,()) J 0 n (S0 a0 x.1 x.2)=L0 call k a0 n x.1 x.2:=by
  refine loop_eq (s:=s_laws_toTermS) (fun x=>S0 a0 x.1 x.2) (fun n x=>L0 call k a0 n x.1 x.2) (fun r x=>step0 call k a0 (fun v0_1 v0_2=>r (v0_1,v0_2)) x.1 x.2) (fun _=>rfl) (fun _ _=>rfl) fun J0 x=>?_
  kernel_rfl
theorem F_eq(call:Cl)(k:Nat)(a0:Y0_8):bodyK E call n_laws_toTermS k s_laws_toTermS (a0,())=F call k a0:=by
  exact Eq.trans (b:=Fm call k (fun a0 v0_1_ v0_2_=>siteI E call n_laws_toTermS k s_laws_toTermS (a0,()) (fun _ _=>none) 0 k (S0 a0 v0_1_ v0_2_)) a0) (by kernel_rfl) (congrArg (fun l=>Fm call k l a0) (funext fun a0=>funext fun v0_1_=>funext fun v0_2_=>L0_eq call k (fun _ _=>none) a0 k (v0_1_,v0_2_)))
end laws_toTermS
namespace laws_toStmt
abbrev R:=(((Int×(Int×((List (Int×(Int×Unit)))×((List (Int×(Int×Unit)))×Unit))))×Unit)×Unit)
def Fm(call:Cl)(k:Nat)(a0:Y0_3):Option R:=(call 213 s_laws_toTermS (a0.2.2.1,())).bind fun(y0:Y0_5)=>(call 213 s_laws_toTermS (a0.2.2.2.1,())).bind fun(y1:Y0_5)=>some (((a0.1,a0.2.1,y0.1.1,y1.1.1,()),()),())
def F(call:Cl)(k:Nat)(a0:Y0_3):Option R:=Fm call k a0
theorem F_eq(call:Cl)(k:Nat)(a0:Y0_3):bodyK E call n_laws_toStmt k s_laws_toStmt (a0,())=F call k a0:=by kernel_rfl
end laws_toStmt
namespace laws_toStmtS
abbrev R:=(((List (Int×(Int×((List (Int×(Int×Unit)))×((List (Int×(Int×Unit)))×Unit)))))×Unit)×Unit)
def S0(a0:Y0_2)(v0_1:Int)(v0_2:Y0_2):St:=⟨mkS 23 [(0,.v (.slc tSm) (a0)),(3,.ref [500003]),(4,.v tI v0_1)],[([500003],.list 114 (.pair tI (.pair tI (.pair (.own 184 tTm) (.pair (.own 184 tTm) .unit)))) v0_2)]⟩
def step0(call:Cl)(k:Nat)(a0:Y0_2)(r0:(Int)→Y0_1→Option R)(v0_1:Int)(v0_2:Y0_2):Option R:=bif decide (v0_1<(↑a0.length:Int))then bif decide (0≤v0_1)then(lget a0 v0_1.toNat).bind fun(y0:Y0_4)=>(call 174 s_laws_toStmt (y0,())).bind fun(y1:((Y0_4×Unit)×Unit))=>bif decide (0≤v0_1)&&decide (v0_1.toNat<v0_2.length)then(lget v0_2 v0_1.toNat).bind fun(y2:Y0_4)=>r0 (i64.wrap (v0_1+1)) (v0_2.set v0_1.toNat y1.1.1)else none else none else some ((v0_2,()),())
def L0(call:Cl)(k:Nat)(a0:Y0_2):Nat→(Int)→Y0_1→Option R|0,_,_=>none|n+1,v0_1,v0_2=>step0 call k a0 (L0 call k a0 n) v0_1 v0_2
def Fm(call:Cl)(k:Nat)(l0:Y0_1→(Int)→Y0_1→Option R)(a0:Y0_2):Option R:=bif decide ((↑a0.length:Int)=(↑a0.length:Int))&&decide (0≤(↑a0.length:Int))&&decide ((↑a0.length:Int)*(↑ti114.bytes:Int)≤281474976710656)then l0 a0 0 (List.replicate (↑a0.length:Int).toNat (0,0,[],[],()))else none
def F(call:Cl)(k:Nat)(a0:Y0_2):Option R:=Fm call k (fun a0_ v0_1_ v0_2_=>L0 call k a0_ k v0_1_ v0_2_) a0
theorem L0_eq(call:Cl)(k:Nat)(J:Nat→St→Option R)(a0:Y0_2):∀(n:Nat)(x:((Int)×Y0_1)),siteI E call n_laws_toStmtS k s_laws_toStmtS (a0,()) J 0 n (S0 a0 x.1 x.2)=L0 call k a0 n x.1 x.2:=by
  refine loop_eq (s:=s_laws_toStmtS) (fun x=>S0 a0 x.1 x.2) (fun n x=>L0 call k a0 n x.1 x.2) (fun r x=>step0 call k a0 (fun v0_1 v0_2=>r (v0_1,v0_2)) x.1 x.2) (fun _=>rfl) (fun _ _=>rfl) fun J0 x=>?_
  kernel_rfl
theorem F_eq(call:Cl)(k:Nat)(a0:Y0_2):bodyK E call n_laws_toStmtS k s_laws_toStmtS (a0,())=F call k a0:=by
  exact Eq.trans (b:=Fm call k (fun a0 v0_1_ v0_2_=>siteI E call n_laws_toStmtS k s_laws_toStmtS (a0,()) (fun _ _=>none) 0 k (S0 a0 v0_1_ v0_2_)) a0) (by kernel_rfl) (congrArg (fun l=>Fm call k l a0) (funext fun a0=>funext fun v0_1_=>funext fun v0_2_=>L0_eq call k (fun _ _=>none) a0 k (v0_1_,v0_2_)))
end laws_toStmtS
namespace laws_toProg
abbrev R:=(((Int×((List (Int×(Int×Unit)))×((List (Int×(Int×Unit)))×(Int×((List Int)×((List (Int×(Int×((List (Int×(Int×Unit)))×((List (Int×(Int×Unit)))×Unit)))))×Unit))))))×Unit)×Unit)
def Fm(call:Cl)(k:Nat)(a0:Y0_0):Option R:=(call 116 s_laws_toInputS (a0.2.1,())).bind fun(y0:Y0_5)=>(call 116 s_laws_toInputS (a0.2.2.1,())).bind fun(y1:Y0_5)=>(call 59 s_laws_toInt64S (a0.2.2.2.2.1,())).bind fun(y2:((List Int×Unit)×Unit))=>(call 117 s_laws_toStmtS (a0.2.2.2.2.2.1,())).bind fun(y3:((List Y0_4×Unit)×Unit))=>some (((a0.1,y0.1.1,y1.1.1,a0.2.2.2.1,y2.1.1,y3.1.1,()),()),())
def F(call:Cl)(k:Nat)(a0:Y0_0):Option R:=Fm call k a0
theorem F_eq(call:Cl)(k:Nat)(a0:Y0_0):bodyK E call n_laws_toProg k s_laws_toProg (a0,())=F call k a0:=by kernel_rfl
end laws_toProg
namespace laws_eqInt64S
abbrev R:=((Bool×Unit)×Unit)
def S0(a0:(List Int))(a1:(List Int))(v0_2:Int):St:=⟨mkS 26 [(0,.v (.slc tI) (a0)),(1,.v (.slc tI) (a1)),(5,.v tI v0_2)],[]⟩
def step0(call:Cl)(k:Nat)(a0:(List Int))(a1:(List Int))(r0:(Int)→Option R)(v0_2:Int):Option R:=bif decide (v0_2<(↑a0.length:Int))then bif decide (0≤v0_2)then(lget a0 v0_2.toNat).bind fun(y0:Int)=>bif decide (0≤v0_2)then(lget a1 v0_2.toNat).bind fun(y1:Int)=>bif y0 !=y1 then some ((false,()),())else r0 (i64.wrap (v0_2+1))else none else none else some ((true,()),())
def L0(call:Cl)(k:Nat)(a0:(List Int))(a1:(List Int)):Nat→(Int)→Option R|0,_=>none|n+1,v0_2=>step0 call k a0 a1 (L0 call k a0 a1 n) v0_2
def Fm(call:Cl)(k:Nat)(l0:((List Int))→((List Int))→(Int)→Option R)(a0:(List Int))(a1:(List Int)):Option R:=bif(↑a0.length:Int)!=(↑a1.length:Int)then some ((false,()),())else l0 a0 a1 0
def F(call:Cl)(k:Nat)(a0:(List Int))(a1:(List Int)):Option R:=Fm call k (fun a0_ a1_ v0_2_=>L0 call k a0_ a1_ k v0_2_) a0 a1
theorem L0_eq(call:Cl)(k:Nat)(J:Nat→St→Option R)(a0:(List Int))(a1:(List Int)):∀(n:Nat)(x:(Int)),siteI E call n_laws_eqInt64S k s_laws_eqInt64S (a0,a1,()) J 0 n (S0 a0 a1 x)=L0 call k a0 a1 n x:=by
  refine loop_eq (s:=s_laws_eqInt64S) (fun x=>S0 a0 a1 x) (fun n x=>L0 call k a0 a1 n x) (fun r x=>step0 call k a0 a1 (fun v0_2=>r v0_2) x) (fun _=>rfl) (fun _ _=>rfl) fun J0 x=>?_
  kernel_rfl
theorem F_eq(call:Cl)(k:Nat)(a0:(List Int))(a1:(List Int)):bodyK E call n_laws_eqInt64S k s_laws_eqInt64S (a0,a1,())=F call k a0 a1:=by
  exact Eq.trans (b:=Fm call k (fun a0 a1 v0_2_=>siteI E call n_laws_eqInt64S k s_laws_eqInt64S (a0,a1,()) (fun _ _=>none) 0 k (S0 a0 a1 v0_2_)) a0 a1) (by kernel_rfl) (congrArg (fun l=>Fm call k l a0 a1) (funext fun a0=>funext fun a1=>funext fun v0_2_=>L0_eq call k (fun _ _=>none) a0 a1 k v0_2_))
end laws_eqInt64S
namespace laws_eqInput
abbrev R:=((Bool×Unit)×Unit)
def Fm(call:Cl)(k:Nat)(a0:Y0_9)(a1:Y0_9):Option R:=bif a0.1!=a1.1 then some ((false,()),())else bif a0.2.1!=a1.2.1 then some ((false,()),())else some ((true,()),())
def F(call:Cl)(k:Nat)(a0:Y0_9)(a1:Y0_9):Option R:=Fm call k a0 a1
theorem F_eq(call:Cl)(k:Nat)(a0:Y0_9)(a1:Y0_9):bodyK E call n_laws_eqInput k s_laws_eqInput (a0,a1,())=F call k a0 a1:=by kernel_rfl
end laws_eqInput
namespace laws_eqInputS
abbrev R:=((Bool×Unit)×Unit)
def S0(a0:Y0_8)(a1:Y0_8)(v0_2:Int):St:=⟨mkS 27 [(0,.v tTl (a0)),(1,.v tTl (a1)),(5,.v tI v0_2)],[]⟩
def step0(call:Cl)(k:Nat)(a0:Y0_8)(a1:Y0_8)(r0:(Int)→Option R)(v0_2:Int):Option R:=bif decide (v0_2<(↑a0.length:Int))then bif decide (0≤v0_2)then(lget a0 v0_2.toNat).bind fun(y0:Int×Int×Unit)=>bif decide (0≤v0_2)then(lget a1 v0_2.toNat).bind fun(y1:Int×Int×Unit)=>(call 176 s_laws_eqInput (y0,y1,())).bind fun(y2:Y0_10×Unit)=>bif !y2.1.1 then some ((false,()),())else r0 (i64.wrap (v0_2+1))else none else none else some ((true,()),())
def L0(call:Cl)(k:Nat)(a0:Y0_8)(a1:Y0_8):Nat→(Int)→Option R|0,_=>none|n+1,v0_2=>step0 call k a0 a1 (L0 call k a0 a1 n) v0_2
def Fm(call:Cl)(k:Nat)(l0:Y0_7→Y0_7→(Int)→Option R)(a0:Y0_8)(a1:Y0_8):Option R:=bif(↑a0.length:Int)!=(↑a1.length:Int)then some ((false,()),())else l0 a0 a1 0
def F(call:Cl)(k:Nat)(a0:Y0_8)(a1:Y0_8):Option R:=Fm call k (fun a0_ a1_ v0_2_=>L0 call k a0_ a1_ k v0_2_) a0 a1
theorem L0_eq(call:Cl)(k:Nat)(J:Nat→St→Option R)(a0:Y0_8)(a1:Y0_8):∀(n:Nat)(x:(Int)),siteI E call n_laws_eqInputS k s_laws_eqInputS (a0,a1,()) J 0 n (S0 a0 a1 x)=L0 call k a0 a1 n x:=by
  refine loop_eq (s:=s_laws_eqInputS) (fun x=>S0 a0 a1 x) (fun n x=>L0 call k a0 a1 n x) (fun r x=>step0 call k a0 a1 (fun v0_2=>r v0_2) x) (fun _=>rfl) (fun _ _=>rfl) fun J0 x=>?_
  kernel_rfl
theorem F_eq(call:Cl)(k:Nat)(a0:Y0_8)(a1:Y0_8):bodyK E call n_laws_eqInputS k s_laws_eqInputS (a0,a1,())=F call k a0 a1:=by
  exact Eq.trans (b:=Fm call k (fun a0 a1 v0_2_=>siteI E call n_laws_eqInputS k s_laws_eqInputS (a0,a1,()) (fun _ _=>none) 0 k (S0 a0 a1 v0_2_)) a0 a1) (by kernel_rfl) (congrArg (fun l=>Fm call k l a0 a1) (funext fun a0=>funext fun a1=>funext fun v0_2_=>L0_eq call k (fun _ _=>none) a0 a1 k v0_2_))
end laws_eqInputS
namespace laws_eqTerm
abbrev R:=((Bool×Unit)×Unit)
def Fm(call:Cl)(k:Nat)(a0:Y0_9)(a1:Y0_9):Option R:=bif a0.1!=a1.1 then some ((false,()),())else bif a0.2.1!=a1.2.1 then some ((false,()),())else some ((true,()),())
def F(call:Cl)(k:Nat)(a0:Y0_9)(a1:Y0_9):Option R:=Fm call k a0 a1
theorem F_eq(call:Cl)(k:Nat)(a0:Y0_9)(a1:Y0_9):bodyK E call n_laws_eqTerm k s_laws_eqTerm (a0,a1,())=F call k a0 a1:=by kernel_rfl
end laws_eqTerm
namespace laws_eqTermS
abbrev R:=((Bool×Unit)×Unit)
def S0(a0:Y0_8)(a1:Y0_8)(v0_2:Int):St:=⟨mkS 27 [(0,.v tTl (a0)),(1,.v tTl (a1)),(5,.v tI v0_2)],[]⟩
def step0(call:Cl)(k:Nat)(a0:Y0_8)(a1:Y0_8)(r0:(Int)→Option R)(v0_2:Int):Option R:=bif decide (v0_2<(↑a0.length:Int))then bif decide (0≤v0_2)then(lget a0 v0_2.toNat).bind fun(y0:Int×Int×Unit)=>bif decide (0≤v0_2)then(lget a1 v0_2.toNat).bind fun(y1:Int×Int×Unit)=>(call 237 s_laws_eqTerm (y0,y1,())).bind fun(y2:Y0_10×Unit)=>bif !y2.1.1 then some ((false,()),())else r0 (i64.wrap (v0_2+1))else none else none else some ((true,()),())
def L0(call:Cl)(k:Nat)(a0:Y0_8)(a1:Y0_8):Nat→(Int)→Option R|0,_=>none|n+1,v0_2=>step0 call k a0 a1 (L0 call k a0 a1 n) v0_2
def Fm(call:Cl)(k:Nat)(l0:Y0_7→Y0_7→(Int)→Option R)(a0:Y0_8)(a1:Y0_8):Option R:=bif(↑a0.length:Int)!=(↑a1.length:Int)then some ((false,()),())else l0 a0 a1 0
def F(call:Cl)(k:Nat)(a0:Y0_8)(a1:Y0_8):Option R:=Fm call k (fun a0_ a1_ v0_2_=>L0 call k a0_ a1_ k v0_2_) a0 a1
theorem L0_eq(call:Cl)(k:Nat)(J:Nat→St→Option R)(a0:Y0_8)(a1:Y0_8):∀(n:Nat)(x:(Int)),siteI E call n_laws_eqTermS k s_laws_eqTermS (a0,a1,()) J 0 n (S0 a0 a1 x)=L0 call k a0 a1 n x:=by
  refine loop_eq (s:=s_laws_eqTermS) (fun x=>S0 a0 a1 x) (fun n x=>L0 call k a0 a1 n x) (fun r x=>step0 call k a0 a1 (fun v0_2=>r v0_2) x) (fun _=>rfl) (fun _ _=>rfl) fun J0 x=>?_
  kernel_rfl
theorem F_eq(call:Cl)(k:Nat)(a0:Y0_8)(a1:Y0_8):bodyK E call n_laws_eqTermS k s_laws_eqTermS (a0,a1,())=F call k a0 a1:=by
  exact Eq.trans (b:=Fm call k (fun a0 a1 v0_2_=>siteI E call n_laws_eqTermS k s_laws_eqTermS (a0,a1,()) (fun _ _=>none) 0 k (S0 a0 a1 v0_2_)) a0 a1) (by kernel_rfl) (congrArg (fun l=>Fm call k l a0 a1) (funext fun a0=>funext fun a1=>funext fun v0_2_=>L0_eq call k (fun _ _=>none) a0 a1 k v0_2_))
end laws_eqTermS
namespace laws_eqStmt
abbrev R:=((Bool×Unit)×Unit)
def Fm(call:Cl)(k:Nat)(a0:Y0_3)(a1:Y0_3):Option R:=bif a0.1!=a1.1 then some ((false,()),())else bif a0.2.1!=a1.2.1 then some ((false,()),())else(call 215 s_laws_eqTermS (a0.2.2.1,a1.2.2.1,())).bind fun(y0:Y0_10×Unit)=>bif !y0.1.1 then some ((false,()),())else(call 215 s_laws_eqTermS (a0.2.2.2.1,a1.2.2.2.1,())).bind fun(y1:Y0_10×Unit)=>bif !y1.1.1 then some ((false,()),())else some ((true,()),())
def F(call:Cl)(k:Nat)(a0:Y0_3)(a1:Y0_3):Option R:=Fm call k a0 a1
theorem F_eq(call:Cl)(k:Nat)(a0:Y0_3)(a1:Y0_3):bodyK E call n_laws_eqStmt k s_laws_eqStmt (a0,a1,())=F call k a0 a1:=by kernel_rfl
end laws_eqStmt
namespace laws_eqStmtS
abbrev R:=((Bool×Unit)×Unit)
def S0(a0:Y0_2)(a1:Y0_2)(v0_2:Int):St:=⟨mkS 27 [(0,.v (.slc tSm) (a0)),(1,.v (.slc tSm) (a1)),(5,.v tI v0_2)],[]⟩
def step0(call:Cl)(k:Nat)(a0:Y0_2)(a1:Y0_2)(r0:(Int)→Option R)(v0_2:Int):Option R:=bif decide (v0_2<(↑a0.length:Int))then bif decide (0≤v0_2)then(lget a0 v0_2.toNat).bind fun(y0:Y0_4)=>bif decide (0≤v0_2)then(lget a1 v0_2.toNat).bind fun(y1:Y0_4)=>(call 177 s_laws_eqStmt (y0,y1,())).bind fun(y2:Y0_10×Unit)=>bif !y2.1.1 then some ((false,()),())else r0 (i64.wrap (v0_2+1))else none else none else some ((true,()),())
def L0(call:Cl)(k:Nat)(a0:Y0_2)(a1:Y0_2):Nat→(Int)→Option R|0,_=>none|n+1,v0_2=>step0 call k a0 a1 (L0 call k a0 a1 n) v0_2
def Fm(call:Cl)(k:Nat)(l0:Y0_1→Y0_1→(Int)→Option R)(a0:Y0_2)(a1:Y0_2):Option R:=bif(↑a0.length:Int)!=(↑a1.length:Int)then some ((false,()),())else l0 a0 a1 0
def F(call:Cl)(k:Nat)(a0:Y0_2)(a1:Y0_2):Option R:=Fm call k (fun a0_ a1_ v0_2_=>L0 call k a0_ a1_ k v0_2_) a0 a1
theorem L0_eq(call:Cl)(k:Nat)(J:Nat→St→Option R)(a0:Y0_2)(a1:Y0_2):∀(n:Nat)(x:(Int)),siteI E call n_laws_eqStmtS k s_laws_eqStmtS (a0,a1,()) J 0 n (S0 a0 a1 x)=L0 call k a0 a1 n x:=by
  refine loop_eq (s:=s_laws_eqStmtS) (fun x=>S0 a0 a1 x) (fun n x=>L0 call k a0 a1 n x) (fun r x=>step0 call k a0 a1 (fun v0_2=>r v0_2) x) (fun _=>rfl) (fun _ _=>rfl) fun J0 x=>?_
  kernel_rfl
theorem F_eq(call:Cl)(k:Nat)(a0:Y0_2)(a1:Y0_2):bodyK E call n_laws_eqStmtS k s_laws_eqStmtS (a0,a1,())=F call k a0 a1:=by
  exact Eq.trans (b:=Fm call k (fun a0 a1 v0_2_=>siteI E call n_laws_eqStmtS k s_laws_eqStmtS (a0,a1,()) (fun _ _=>none) 0 k (S0 a0 a1 v0_2_)) a0 a1) (by kernel_rfl) (congrArg (fun l=>Fm call k l a0 a1) (funext fun a0=>funext fun a1=>funext fun v0_2_=>L0_eq call k (fun _ _=>none) a0 a1 k v0_2_))
end laws_eqStmtS
namespace laws_eqProg
abbrev R:=((Bool×Unit)×Unit)
def Fm(call:Cl)(k:Nat)(a0:Y0_0)(a1:Y0_0):Option R:=bif a0.1!=a1.1 then some ((false,()),())else(call 121 s_laws_eqInputS (a0.2.1,a1.2.1,())).bind fun(y0:Y0_10×Unit)=>bif !y0.1.1 then some ((false,()),())else(call 121 s_laws_eqInputS (a0.2.2.1,a1.2.2.1,())).bind fun(y1:Y0_10×Unit)=>bif !y1.1.1 then some ((false,()),())else bif a0.2.2.2.1!=a1.2.2.2.1 then some ((false,()),())else(call 61 s_laws_eqInt64S (a0.2.2.2.2.1,a1.2.2.2.2.1,())).bind fun(y2:Y0_10×Unit)=>bif !y2.1.1 then some ((false,()),())else(call 122 s_laws_eqStmtS (a0.2.2.2.2.2.1,a1.2.2.2.2.2.1,())).bind fun(y3:Y0_10×Unit)=>bif !y3.1.1 then some ((false,()),())else some ((true,()),())
def F(call:Cl)(k:Nat)(a0:Y0_0)(a1:Y0_0):Option R:=Fm call k a0 a1
theorem F_eq(call:Cl)(k:Nat)(a0:Y0_0)(a1:Y0_0):bodyK E call n_laws_eqProg k s_laws_eqProg (a0,a1,())=F call k a0 a1:=by kernel_rfl
end laws_eqProg
end Go.Proofs.YtjgfofcgmcnblaaGreat.Pf
namespace Go.Proofs.YtjgfofcgmcnblaaGreat.Pf
open Go Go.Pv
abbrev Ip:=Int×(Int×Unit)
abbrev Tm:=Int×(Int×Unit)
abbrev Sm:=Int×(Int×(List Tm×(List Tm×Unit)))
abbrev Pg:=Int×(List Ip×(List Ip×(Int×(List Int×(List Sm×Unit)))))
theorem mk_ok {n b:Nat}(h:n*b≤281474976710656):(decide ((n:Int)=(n:Int))&&decide ((0:Int)≤(n:Int))&&decide ((n:Int)*(b:Int)≤(281474976710656:Int)))=true:=by
  have h1:((n*b:Nat):Int)≤281474976710656:=by omega
  rw[Int.natCast_mul]at h1;rw[decide_eq_true rfl,decide_eq_true (by omega),decide_eq_true h1];rfl
theorem set_take_drop {α:Type}(acc a:List α){j:Nat}(hj:j<a.length)(hl:acc.length=a.length):(acc.set j a[j]).take (j+1)++a.drop (j+1)=acc.take j++a.drop j:=by
  rw[List.drop_eq_getElem_cons hj,List.take_set,List.take_succ_eq_append_getElem (by omega),List.set_append_right _ _ (by simp;omega)];have:j-(acc.take j).length=0:=by simp;omega
  rw[this];simp
theorem idx_ok {j n:Nat}(h:j<n):(decide ((0:Int)≤(j:Int))&&decide (((j:Int)).toNat<n))=true:=by
  rw[dle0,Int.toNat_natCast,decide_eq_true h];rfl
theorem toInput_ans(x:Ip):Ans n_laws_toInput s_laws_toInput (x,()) ((x,()),()):=by
  refine Gv.ans (Gv.of (fun k=>laws_toInput.F_eq (cl k) k x) ?_);unfold laws_toInput.F laws_toInput.Fm;exact Tq.ret rfl
theorem toTerm_ans(x:Tm):Ans n_laws_toTerm s_laws_toTerm (x,()) ((x,()),()):=by
  refine Gv.ans (Gv.of (fun k=>laws_toTerm.F_eq (cl k) k x) ?_);unfold laws_toTerm.F laws_toTerm.Fm;exact Tq.ret rfl
theorem toInt64S_loop(a:List Int)(ha:a.length≤1048576):∀(d j:Nat)(acc:List Int),a.length-j=d→acc.length=a.length→
    Tq (d+1) (fun k q=>laws_toInt64S.L0 (cl k) k a q (j:Int) acc) (· =((acc.take j++a.drop j,()),()))
  | 0,j,acc,hd,hl=>by
    refine Tq.succ ?_;show Tq _ (fun k q=>laws_toInt64S.step0 (cl k) k ..) _
    unfold laws_toInt64S.step0;refine Tq.bf (dnlt (by omega)) (Tq.ret ?_);rw[List.take_of_length_le (by omega),List.drop_of_length_le (by omega),List.append_nil]
  | d+1,j,acc,hd,hl=>by
    have hj:j<a.length:=by omega
    have hj':j<acc.length:=by omega
    refine Tq.succ ?_;show Tq _ (fun k q=>laws_toInt64S.step0 (cl k) k ..) _
    unfold laws_toInt64S.step0;refine Tq.bt (dlt hj) (Tq.bt (dle0 j) (Tq.some (lg hj) (Tq.bt (idx_ok hj') (Tq.some (lg hj') ?_))));rw[ws hj (by omega),Int.toNat_natCast,←set_take_drop acc a hj hl];exact toInt64S_loop a ha d (j+1) _ (by omega) (by simp[hl])
theorem toInt64S_ans(a:List Int)(ha:a.length≤1048576):Ans n_laws_toInt64S s_laws_toInt64S (a,()) ((a,()),()):=by
  refine Gv.ans (Gv.of (fun k=>laws_toInt64S.F_eq (cl k) k a) ?_);unfold laws_toInt64S.F laws_toInt64S.Fm;refine Tq.bt (mk_ok (b:=ti2.bytes) (by show a.length*8≤_;omega)) (Tq.diag ((toInt64S_loop a ha a.length 0 _ rfl (by simp)).mono fun x hx=>?_));rw[hx];simp
theorem toInputS_loop(a:List Ip)(ha:a.length≤1048576):∀(d j:Nat)(acc:List Ip),a.length-j=d→acc.length=a.length→
    Tq (d+1) (fun k q=>laws_toInputS.L0 (cl k) k a q (j:Int) acc) (· =((acc.take j++a.drop j,()),()))
  | 0,j,acc,hd,hl=>by
    refine Tq.succ ?_;show Tq _ (fun k q=>laws_toInputS.step0 (cl k) k ..) _
    unfold laws_toInputS.step0;refine Tq.bf (dnlt (by omega)) (Tq.ret ?_);rw[List.take_of_length_le (by omega),List.drop_of_length_le (by omega),List.append_nil]
  | d+1,j,acc,hd,hl=>by
    have hj:j<a.length:=by omega
    have hj':j<acc.length:=by omega
    refine Tq.succ ?_;show Tq _ (fun k q=>laws_toInputS.step0 (cl k) k ..) _
    unfold laws_toInputS.step0;refine Tq.bt (dlt hj) (Tq.bt (dle0 j) (Tq.some (lg hj) (Tq.bind (toInput_ans a[j]).tq fun y hy=>?_)));subst hy;refine Tq.bt (idx_ok hj') (Tq.some (lg hj') ?_);rw[ws hj (by omega),Int.toNat_natCast,←set_take_drop acc a hj hl];exact toInputS_loop a ha d (j+1) _ (by omega) (by simp[hl])
theorem toInputS_ans(a:List Ip)(ha:a.length≤1048576):Ans n_laws_toInputS s_laws_toInputS (a,()) ((a,()),()):=by
  refine Gv.ans (Gv.of (fun k=>laws_toInputS.F_eq (cl k) k a) ?_);unfold laws_toInputS.F laws_toInputS.Fm;refine Tq.bt (mk_ok (b:=ti59.bytes) (by show a.length*16≤_;omega)) (Tq.diag ((toInputS_loop a ha a.length 0 _ rfl (by simp)).mono fun x hx=>?_));rw[hx];simp
theorem toTermS_loop(a:List Tm)(ha:a.length≤1048576):∀(d j:Nat)(acc:List Tm),a.length-j=d→acc.length=a.length→
    Tq (d+1) (fun k q=>laws_toTermS.L0 (cl k) k a q (j:Int) acc) (· =((acc.take j++a.drop j,()),()))
  | 0,j,acc,hd,hl=>by
    refine Tq.succ ?_;show Tq _ (fun k q=>laws_toTermS.step0 (cl k) k ..) _
    unfold laws_toTermS.step0;refine Tq.bf (dnlt (by omega)) (Tq.ret ?_);rw[List.take_of_length_le (by omega),List.drop_of_length_le (by omega),List.append_nil]
  | d+1,j,acc,hd,hl=>by
    have hj:j<a.length:=by omega
    have hj':j<acc.length:=by omega
    refine Tq.succ ?_;show Tq _ (fun k q=>laws_toTermS.step0 (cl k) k ..) _
    unfold laws_toTermS.step0;refine Tq.bt (dlt hj) (Tq.bt (dle0 j) (Tq.some (lg hj) (Tq.bind (toTerm_ans a[j]).tq fun y hy=>?_)));subst hy;refine Tq.bt (idx_ok hj') (Tq.some (lg hj') ?_);rw[ws hj (by omega),Int.toNat_natCast,←set_take_drop acc a hj hl];exact toTermS_loop a ha d (j+1) _ (by omega) (by simp[hl])
theorem toTermS_ans(a:List Tm)(ha:a.length≤1048576):Ans n_laws_toTermS s_laws_toTermS (a,()) ((a,()),()):=by
  refine Gv.ans (Gv.of (fun k=>laws_toTermS.F_eq (cl k) k a) ?_);unfold laws_toTermS.F laws_toTermS.Fm;refine Tq.bt (mk_ok (b:=ti184.bytes) (by show a.length*16≤_;omega)) (Tq.diag ((toTermS_loop a ha a.length 0 _ rfl (by simp)).mono fun x hx=>?_));rw[hx];simp
theorem toStmt_ans(x:Sm)(h1:x.2.2.1.length≤1048576)(h2:x.2.2.2.1.length≤1048576):Ans n_laws_toStmt s_laws_toStmt (x,()) ((x,()),()):=by
  refine Gv.ans (Gv.of (fun k=>laws_toStmt.F_eq (cl k) k x) ?_);unfold laws_toStmt.F laws_toStmt.Fm;refine Tq.bind (toTermS_ans x.2.2.1 h1).tq fun y hy=>?_
  subst hy;refine Tq.bind (toTermS_ans x.2.2.2.1 h2).tq fun y hy=>?_
  subst hy;exact Tq.ret rfl
theorem toStmtS_loop(a:List Sm)(ha:a.length≤1048576)(he:∀x∈a,Ans n_laws_toStmt s_laws_toStmt (x,()) ((x,()),())):∀(d j:Nat)(acc:List Sm),a.length-j=d→acc.length=a.length→
    Tq (d+1) (fun k q=>laws_toStmtS.L0 (cl k) k a q (j:Int) acc) (· =((acc.take j++a.drop j,()),()))
  | 0,j,acc,hd,hl=>by
    refine Tq.succ ?_;show Tq _ (fun k q=>laws_toStmtS.step0 (cl k) k ..) _
    unfold laws_toStmtS.step0;refine Tq.bf (dnlt (by omega)) (Tq.ret ?_);rw[List.take_of_length_le (by omega),List.drop_of_length_le (by omega),List.append_nil]
  | d+1,j,acc,hd,hl=>by
    have hj:j<a.length:=by omega
    have hj':j<acc.length:=by omega
    refine Tq.succ ?_;show Tq _ (fun k q=>laws_toStmtS.step0 (cl k) k ..) _
    unfold laws_toStmtS.step0;refine Tq.bt (dlt hj) (Tq.bt (dle0 j) (Tq.some (lg hj) (Tq.bind (he a[j] (List.getElem_mem hj)).tq fun y hy=>?_)));subst hy;refine Tq.bt (idx_ok hj') (Tq.some (lg hj') ?_);rw[ws hj (by omega),Int.toNat_natCast,←set_take_drop acc a hj hl];exact toStmtS_loop a ha he d (j+1) _ (by omega) (by simp[hl])
theorem toStmtS_ans(a:List Sm)(ha:a.length≤1048576)(he:∀x∈a,Ans n_laws_toStmt s_laws_toStmt (x,()) ((x,()),())):Ans n_laws_toStmtS s_laws_toStmtS (a,()) ((a,()),()):=by
  refine Gv.ans (Gv.of (fun k=>laws_toStmtS.F_eq (cl k) k a) ?_);unfold laws_toStmtS.F laws_toStmtS.Fm;refine Tq.bt (mk_ok (b:=ti114.bytes) (by show a.length*64≤_;omega)) (Tq.diag ((toStmtS_loop a ha he a.length 0 _ rfl (by simp)).mono fun x hx=>?_));rw[hx];simp
def Small(p:Pg):Prop:=p.2.1.length≤1048576∧p.2.2.1.length≤1048576∧p.2.2.2.2.1.length≤1048576∧p.2.2.2.2.2.1.length≤1048576∧∀x∈p.2.2.2.2.2.1,x.2.2.1.length≤1048576∧x.2.2.2.1.length≤1048576
theorem toProg_ans(p:Pg)(h:Small p):Ans n_laws_toProg s_laws_toProg (p,()) ((p,()),()):=by
  obtain⟨h1,h2,h3,h4,h5⟩:=h;refine Gv.ans (Gv.of (fun k=>laws_toProg.F_eq (cl k) k p) ?_);unfold laws_toProg.F laws_toProg.Fm;refine Tq.bind (toInputS_ans p.2.1 h1).tq fun y hy=>?_
  subst hy;refine Tq.bind (toInputS_ans p.2.2.1 h2).tq fun y hy=>?_
  subst hy;refine Tq.bind (toInt64S_ans p.2.2.2.2.1 h3).tq fun y hy=>?_
  subst hy;refine Tq.bind (toStmtS_ans p.2.2.2.2.2.1 h4 fun x hx=>toStmt_ans x (h5 x hx).1 (h5 x hx).2).tq fun y hy=>?_
  subst hy;exact Tq.ret rfl
end Go.Proofs.YtjgfofcgmcnblaaGreat.Pf
namespace Go.Proofs.YtjgfofcgmcnblaaGreat.Pf
open Go Go.Pv IntKind
abbrev Y1_0:Type:=((Int×((List (Int×(Int×Unit)))×((List (Int×(Int×Unit)))×(Int×((List Int)×((List (Int×(Int×((List (Int×(Int×Unit)))×((List (Int×(Int×Unit)))×Unit)))))×Unit)))))))
abbrev Y1_1:Type:=(Int×((List (Int×(Int×Unit)))×((List (Int×(Int×Unit)))×(Int×((List Int)×((List (Int×(Int×((List (Int×(Int×Unit)))×((List (Int×(Int×Unit)))×Unit)))))×Unit))))))
abbrev Y1_2:Type:=(Int×(Int×((List (Int×(Int×Unit)))×((List (Int×(Int×Unit)))×Unit))))
abbrev Y1_3:Type:=((List (Int×(Int×Unit))))
abbrev Y1_4:Type:=(List (Int×(Int×Unit)))
abbrev Y1_5:Type:=((Int)×(Int))
abbrev Y1_6:Type:=(Bool×Unit)
abbrev Y1_7:Type:=(Int×Unit)
namespace impl_TakesOf
abbrev R:=((Int×Unit)×Unit)
def Fm(call:Cl)(k:Nat)(a0:Int):Option R:=bif a0==0 then some ((0,()),())else bif a0==1 then some ((0,()),())else bif a0==2 then some ((1,()),())else bif a0==3 then some ((1,()),())else bif a0==4 then some ((1,()),())else bif decide (a0≥5)then bif decide (a0≤16)then some ((2,()),())else bif a0==17 then some ((3,()),())else some (((-1),()),())else bif a0==17 then some ((3,()),())else some (((-1),()),())
def F(call:Cl)(k:Nat)(a0:Int):Option R:=Fm call k a0
theorem F_eq(call:Cl)(k:Nat)(a0:Int):bodyK E call n_impl_TakesOf k s_impl_TakesOf (a0,())=F call k a0:=by kernel_rfl
end impl_TakesOf
namespace impl_ExpOk
abbrev R:=((Bool×Unit)×Unit)
def S0(a0:Y1_4)(v0_0:Int)(v0_3:Int):St:=⟨mkS 58 [(3,.v tI v0_0),(15,.v tTl (a0)),(16,.v tI ((↑a0.length:Int))),(17,.v tI v0_3)],[]⟩
def step0(call:Cl)(k:Nat)(a0:Y1_4)(r0:(Int)→(Int)→Option R)(v0_0:Int)(v0_3:Int):Option R:=bif decide (v0_3<(↑a0.length:Int))then bif decide (0≤v0_3)then(lget a0 v0_3.toNat).bind fun(y0:Int×Int×Unit)=>(call 258 s_impl_TakesOf (y0.1,())).bind fun(y1:Y1_7×Unit)=>bif decide (y1.1.1<0)then some ((false,()),())else bif decide (y1.1.1>v0_0)then some ((false,()),())else bif decide (y0.2.1<0)then some ((false,()),())else bif decide (y0.2.1>255)then some ((false,()),())else bif decide (y0.1>2)then bif y0.2.1!=0 then some ((false,()),())else r0 (i64.wrap (v0_0+i64.wrap (1-y1.1.1))) (i64.wrap (v0_3+1))else r0 (i64.wrap (v0_0+i64.wrap (1-y1.1.1))) (i64.wrap (v0_3+1))else none else some ((v0_0==1,()),())
def L0(call:Cl)(k:Nat)(a0:Y1_4):Nat→(Int)→(Int)→Option R|0,_,_=>none|n+1,v0_0,v0_3=>step0 call k a0 (L0 call k a0 n) v0_0 v0_3
def Fm(call:Cl)(k:Nat)(l0:Y1_3→(Int)→(Int)→Option R)(a0:Y1_4):Option R:=bif(↑a0.length:Int)==0 then some ((false,()),())else bif decide ((↑a0.length:Int)>3000)then some ((false,()),())else l0 a0 0 0
def F(call:Cl)(k:Nat)(a0:Y1_4):Option R:=Fm call k (fun a0_ v0_0_ v0_3_=>L0 call k a0_ k v0_0_ v0_3_) a0
theorem L0_eq(call:Cl)(k:Nat)(J:Nat→St→Option R)(a0:Y1_4):∀(n:Nat)(x:Y1_5),siteI E call n_impl_ExpOk k s_impl_ExpOk (a0,()) J 0 n (S0 a0 x.1 x.2)=L0 call k a0 n x.1 x.2:=by
  refine loop_eq (s:=s_impl_ExpOk) (fun x=>S0 a0 x.1 x.2) (fun n x=>L0 call k a0 n x.1 x.2) (fun r x=>step0 call k a0 (fun v0_0 v0_3=>r (v0_0,v0_3)) x.1 x.2) (fun _=>rfl) (fun _ _=>rfl) fun J0 x=>?_
  kernel_rfl
theorem F_eq(call:Cl)(k:Nat)(a0:Y1_4):bodyK E call n_impl_ExpOk k s_impl_ExpOk (a0,())=F call k a0:=by
  exact Eq.trans (b:=Fm call k (fun a0 v0_0_ v0_3_=>siteI E call n_impl_ExpOk k s_impl_ExpOk (a0,()) (fun _ _=>none) 0 k (S0 a0 v0_0_ v0_3_)) a0) (by kernel_rfl) (congrArg (fun l=>Fm call k l a0) (funext fun a0=>funext fun v0_0_=>funext fun v0_3_=>L0_eq call k (fun _ _=>none) a0 k (v0_0_,v0_3_)))
end impl_ExpOk
namespace impl_bitsOf
abbrev R:=((Int×Unit)×Unit)
def S0(v0_0:Int)(v0_1:Int):St:=⟨mkS 11 [(0,.v tI v0_0),(3,.v tI v0_1)],[]⟩
def step0(call:Cl)(k:Nat)(r0:(Int)→(Int)→Option R)(v0_0:Int)(v0_1:Int):Option R:=bif decide (v0_0>0)then r0 (i64.wrap (v0_0.tdiv 2)) (i64.wrap (v0_1+1))else some ((v0_1,()),())
def L0(call:Cl)(k:Nat):Nat→(Int)→(Int)→Option R|0,_,_=>none|n+1,v0_0,v0_1=>step0 call k (L0 call k n) v0_0 v0_1
def Fm(call:Cl)(k:Nat)(l0:(Int)→(Int)→Option R)(a0:Int):Option R:=l0 a0 0
def F(call:Cl)(k:Nat)(a0:Int):Option R:=Fm call k (fun v0_0_ v0_1_=>L0 call k k v0_0_ v0_1_) a0
theorem L0_eq(call:Cl)(k:Nat)(J:Nat→St→Option R)(a0:Int):∀(n:Nat)(x:Y1_5),siteI E call n_impl_bitsOf k s_impl_bitsOf (a0,()) J 0 n (S0 x.1 x.2)=L0 call k n x.1 x.2:=by
  refine loop_eq (s:=s_impl_bitsOf) (fun x=>S0 x.1 x.2) (fun n x=>L0 call k n x.1 x.2) (fun r x=>step0 call k (fun v0_0 v0_1=>r (v0_0,v0_1)) x.1 x.2) (fun _=>rfl) (fun _ _=>rfl) fun J0 x=>?_
  kernel_rfl
theorem F_eq(call:Cl)(k:Nat)(a0:Int):bodyK E call n_impl_bitsOf k s_impl_bitsOf (a0,())=F call k a0:=by
  exact Eq.trans (b:=Fm call k (fun v0_0_ v0_1_=>siteI E call n_impl_bitsOf k s_impl_bitsOf (a0,()) (fun _ _=>none) 0 k (S0 v0_0_ v0_1_)) a0) (by kernel_rfl) (congrArg (fun l=>Fm call k l a0) (funext fun v0_0_=>funext fun v0_1_=>L0_eq call k (fun _ _=>none) a0 k (v0_0_,v0_1_)))
end impl_bitsOf
namespace impl_greatest
abbrev R:=((Int×Unit)×Unit)
def Fm(call:Cl)(k:Nat)(a0:Y1_1):Option R:=bif decide (a0.1<0)then none else some ((i64.wrap (shlI .i64 1 a0.1-1),()),())
def F(call:Cl)(k:Nat)(a0:Y1_1):Option R:=Fm call k a0
theorem F_eq(call:Cl)(k:Nat)(a0:Y1_1):bodyK E call n_impl_greatest k s_impl_greatest (a0,())=F call k a0:=by kernel_rfl
end impl_greatest
namespace impl_inputsOf
abbrev R:=((Int×Unit)×Unit)
def Fm(call:Cl)(k:Nat)(a0:Y1_1):Option R:=some ((i64.wrap ((↑(List.length a0.2.1):Int)+(↑(List.length a0.2.2.1):Int)),()),())
def F(call:Cl)(k:Nat)(a0:Y1_1):Option R:=Fm call k a0
theorem F_eq(call:Cl)(k:Nat)(a0:Y1_1):bodyK E call n_impl_inputsOf k s_impl_inputsOf (a0,())=F call k a0:=by kernel_rfl
end impl_inputsOf
namespace impl_varsOf
abbrev R:=((Int×Unit)×Unit)
def Fm(call:Cl)(k:Nat)(a0:Y1_1):Option R:=(call 225 s_impl_inputsOf (a0,())).bind fun(y0:Y1_7×Unit)=>some ((i64.wrap (y0.1.1+a0.2.2.2.1),()),())
def F(call:Cl)(k:Nat)(a0:Y1_1):Option R:=Fm call k a0
theorem F_eq(call:Cl)(k:Nat)(a0:Y1_1):bodyK E call n_impl_varsOf k s_impl_varsOf (a0,())=F call k a0:=by kernel_rfl
end impl_varsOf
namespace impl_reckonable
abbrev R:=((Bool×Unit)×Unit)
def S0(a0:Y1_1)(a1:Y1_4)(v0_3:Int):St:=⟨mkS 43 [(0,.v (.sptr tPg) (a0)),(10,.v tTl (a1)),(11,.v tI ((↑a1.length:Int))),(12,.v tI v0_3)],[]⟩
def step0(call:Cl)(k:Nat)(a0:Y1_1)(a1:Y1_4)(r0:(Int)→Option R)(v0_3:Int):Option R:=bif decide (v0_3<(↑a1.length:Int))then bif decide (0≤v0_3)then(lget a1 v0_3.toNat).bind fun(y1:Int×Int×Unit)=>bif y1.1==0 then(call 224 s_impl_greatest (a0,())).bind fun(y2:Y1_7×Unit)=>bif decide (y1.2.1>y2.1.1)then some ((false,()),())else r0 (i64.wrap (v0_3+1))else bif y1.1==1 then(call 226 s_impl_varsOf (a0,())).bind fun(y3:Y1_7×Unit)=>bif decide (y1.2.1≥y3.1.1)then some ((false,()),())else r0 (i64.wrap (v0_3+1))else bif y1.1==2 then bif decide (y1.2.1≥(↑(List.length a0.2.2.2.2.1):Int))then some ((false,()),())else r0 (i64.wrap (v0_3+1))else r0 (i64.wrap (v0_3+1))else none else some ((true,()),())
def L0(call:Cl)(k:Nat)(a0:Y1_1)(a1:Y1_4):Nat→(Int)→Option R|0,_=>none|n+1,v0_3=>step0 call k a0 a1 (L0 call k a0 a1 n) v0_3
def Fm(call:Cl)(k:Nat)(l0:Y1_0→Y1_3→(Int)→Option R)(a0:Y1_1)(a1:Y1_4):Option R:=(call 257 s_impl_ExpOk (a1,())).bind fun(y0:Y1_6×Unit)=>bif !y0.1.1 then some ((false,()),())else l0 a0 a1 0
def F(call:Cl)(k:Nat)(a0:Y1_1)(a1:Y1_4):Option R:=Fm call k (fun a0_ a1_ v0_3_=>L0 call k a0_ a1_ k v0_3_) a0 a1
theorem L0_eq(call:Cl)(k:Nat)(J:Nat→St→Option R)(a0:Y1_1)(a1:Y1_4):∀(n:Nat)(x:(Int)),siteI E call n_impl_reckonable k s_impl_reckonable (a0,a1,()) J 0 n (S0 a0 a1 x)=L0 call k a0 a1 n x:=by
  refine loop_eq (s:=s_impl_reckonable) (fun x=>S0 a0 a1 x) (fun n x=>L0 call k a0 a1 n x) (fun r x=>step0 call k a0 a1 (fun v0_3=>r v0_3) x) (fun _=>rfl) (fun _ _=>rfl) fun J0 x=>?_
  kernel_rfl
theorem F_eq(call:Cl)(k:Nat)(a0:Y1_1)(a1:Y1_4):bodyK E call n_impl_reckonable k s_impl_reckonable (a0,a1,())=F call k a0 a1:=by
  exact Eq.trans (b:=Fm call k (fun a0 a1 v0_3_=>siteI E call n_impl_reckonable k s_impl_reckonable (a0,a1,()) (fun _ _=>none) 0 k (S0 a0 a1 v0_3_)) a0 a1) (by kernel_rfl) (congrArg (fun l=>Fm call k l a0 a1) (funext fun a0=>funext fun a1=>funext fun v0_3_=>L0_eq call k (fun _ _=>none) a0 a1 k v0_3_))
end impl_reckonable
namespace impl_mayStand
abbrev R:=((Bool×Unit)×Unit)
def S0(a1:Y1_4)(v0_2:Int):St:=⟨mkS 26 [(16,.v tTl (a1)),(17,.v tI ((↑a1.length:Int))),(18,.v tI v0_2)],[]⟩
def step0(call:Cl)(k:Nat)(a1:Y1_4)(r0:(Int)→Option R)(v0_2:Int):Option R:=bif decide (v0_2<(↑a1.length:Int))then bif decide (0≤v0_2)then(lget a1 v0_2.toNat).bind fun(y1:Int×Int×Unit)=>bif y1.1==17 then some ((false,()),())else r0 (i64.wrap (v0_2+1))else none else some ((true,()),())
def L0(call:Cl)(k:Nat)(a1:Y1_4):Nat→(Int)→Option R|0,_=>none|n+1,v0_2=>step0 call k a1 (L0 call k a1 n) v0_2
def Fm(call:Cl)(k:Nat)(l0:Y1_3→(Int)→Option R)(a0:Y1_1)(a1:Y1_4):Option R:=bif decide ((↑a1.length:Int)>40)then some ((false,()),())else(call 252 s_impl_reckonable (a0,a1,())).bind fun(y0:Y1_6×Unit)=>bif !y0.1.1 then some ((false,()),())else l0 a1 0
def F(call:Cl)(k:Nat)(a0:Y1_1)(a1:Y1_4):Option R:=Fm call k (fun a1_ v0_2_=>L0 call k a1_ k v0_2_) a0 a1
theorem L0_eq(call:Cl)(k:Nat)(J:Nat→St→Option R)(a0:Y1_1)(a1:Y1_4):∀(n:Nat)(x:(Int)),siteI E call n_impl_mayStand k s_impl_mayStand (a0,a1,()) J 0 n (S0 a1 x)=L0 call k a1 n x:=by
  refine loop_eq (s:=s_impl_mayStand) (fun x=>S0 a1 x) (fun n x=>L0 call k a1 n x) (fun r x=>step0 call k a1 (fun v0_2=>r v0_2) x) (fun _=>rfl) (fun _ _=>rfl) fun J0 x=>?_
  kernel_rfl
theorem F_eq(call:Cl)(k:Nat)(a0:Y1_1)(a1:Y1_4):bodyK E call n_impl_mayStand k s_impl_mayStand (a0,a1,())=F call k a0 a1:=by
  exact Eq.trans (b:=Fm call k (fun a1 v0_2_=>siteI E call n_impl_mayStand k s_impl_mayStand (a0,a1,()) (fun _ _=>none) 0 k (S0 a1 v0_2_)) a0 a1) (by kernel_rfl) (congrArg (fun l=>Fm call k l a0 a1) (funext fun a1=>funext fun v0_2_=>L0_eq call k (fun _ _=>none) a0 a1 k v0_2_))
end impl_mayStand
namespace impl_inputRight
abbrev R:=((Bool×Unit)×Unit)
def S1(a0:Y1_1)(v1_1:Int)(v1_4:Int):St:=⟨mkS 89 [(0,.v (.sptr tPg) (a0)),(3,.v tI v1_1),(55,.v tTl (a0.2.2.1)),(56,.v tI ((↑(List.length a0.2.2.1):Int))),(57,.v tI v1_4)],[]⟩
def S0(a0:Y1_1)(v0_1:Int)(v0_4:Int):St:=⟨mkS 89 [(0,.v (.sptr tPg) (a0)),(3,.v tI v0_1),(25,.v tTl (a0.2.1)),(26,.v tI ((↑(List.length a0.2.1):Int))),(27,.v tI v0_4)],[]⟩
def step1(call:Cl)(k:Nat)(a0:Y1_1)(r1:(Int)→(Int)→Option R)(v1_1:Int)(v1_4:Int):Option R:=bif decide (v1_4<(↑(List.length a0.2.2.1):Int))then bif decide (0≤v1_4)then(lget a0.2.2.1 v1_4.toNat).bind fun(y3:Int×Int×Unit)=>bif decide (y3.1<0)then some ((false,()),())else(call 224 s_impl_greatest (a0,())).bind fun(y4:Y1_7×Unit)=>bif decide (y3.1>y4.1.1)then some ((false,()),())else bif decide (y3.2.1<0)then some ((false,()),())else bif decide (y3.2.1>99)then some ((false,()),())else(call 179 s_impl_bitsOf (y3.1,())).bind fun(y5:Y1_7×Unit)=>r1 (i64.wrap (v1_1+y5.1.1)) (i64.wrap (v1_4+1))else none else some ((decide (v1_1≤10),()),())
def L1(call:Cl)(k:Nat)(a0:Y1_1):Nat→(Int)→(Int)→Option R|0,_,_=>none|n+1,v1_1,v1_4=>step1 call k a0 (L1 call k a0 n) v1_1 v1_4
def step0(call:Cl)(k:Nat)(a0:Y1_1)(l1:Y1_0→(Int)→(Int)→Option R)(r0:(Int)→(Int)→Option R)(v0_1:Int)(v0_4:Int):Option R:=bif decide (v0_4<(↑(List.length a0.2.1):Int))then bif decide (0≤v0_4)then(lget a0.2.1 v0_4.toNat).bind fun(y0:Int×Int×Unit)=>bif decide (y0.1<0)then some ((false,()),())else(call 224 s_impl_greatest (a0,())).bind fun(y1:Y1_7×Unit)=>bif decide (y0.1>y1.1.1)then some ((false,()),())else bif y0.2.1!=0 then some ((false,()),())else(call 179 s_impl_bitsOf (y0.1,())).bind fun(y2:Y1_7×Unit)=>r0 (i64.wrap (v0_1+y2.1.1)) (i64.wrap (v0_4+1))else none else l1 a0 v0_1 0
def L0(call:Cl)(k:Nat)(a0:Y1_1):Nat→(Int)→(Int)→Option R|0,_,_=>none|n+1,v0_1,v0_4=>step0 call k a0 (fun a0_ v1_1_ v1_4_=>L1 call k a0_ k v1_1_ v1_4_) (L0 call k a0 n) v0_1 v0_4
def Fm(call:Cl)(k:Nat)(l0:Y1_0→(Int)→(Int)→Option R)(a0:Y1_1):Option R:=bif decide ((↑(List.length a0.2.1):Int)>3)then some ((false,()),())else bif decide ((↑(List.length a0.2.2.1):Int)>3)then some ((false,()),())else l0 a0 0 0
def F(call:Cl)(k:Nat)(a0:Y1_1):Option R:=Fm call k (fun a0_ v0_1_ v0_4_=>L0 call k a0_ k v0_1_ v0_4_) a0
theorem L1_eq(call:Cl)(k:Nat)(J:Nat→St→Option R)(a0:Y1_1):∀(n:Nat)(x:Y1_5),siteI E call n_impl_inputRight k s_impl_inputRight (a0,()) J 1 n (S1 a0 x.1 x.2)=L1 call k a0 n x.1 x.2:=by
  refine loop_eq (s:=s_impl_inputRight) (fun x=>S1 a0 x.1 x.2) (fun n x=>L1 call k a0 n x.1 x.2) (fun r x=>step1 call k a0 (fun v1_1 v1_4=>r (v1_1,v1_4)) x.1 x.2) (fun _=>rfl) (fun _ _=>rfl) fun J0 x=>?_
  kernel_rfl
theorem L0_eq(call:Cl)(k:Nat)(J:Nat→St→Option R)(a0:Y1_1):∀(n:Nat)(x:Y1_5),siteI E call n_impl_inputRight k s_impl_inputRight (a0,()) J 0 n (S0 a0 x.1 x.2)=L0 call k a0 n x.1 x.2:=by
  refine loop_eq (s:=s_impl_inputRight) (fun x=>S0 a0 x.1 x.2) (fun n x=>L0 call k a0 n x.1 x.2) (fun r x=>step0 call k a0 (fun(a0:Y1_1)(v1_1_:Int)(v1_4_:Int)=>L1 call k a0 k v1_1_ v1_4_) (fun v0_1 v0_4=>r (v0_1,v0_4)) x.1 x.2) (fun _=>rfl) (fun _ _=>rfl) fun J0 x=>?_
  refine Eq.trans (b:=step0 call k a0 (fun a0 v1_1_ v1_4_=>siteI E call n_impl_inputRight k s_impl_inputRight (a0,()) (upJ 0 J0 J) 1 k (S1 a0 v1_1_ v1_4_)) (fun v0_1 v0_4=>J0 (S0 a0 v0_1 v0_4)) x.1 x.2) (by kernel_rfl) ?_;rw[show(fun(a0:Y1_1)(v1_1_:Int)(v1_4_:Int)=>siteI E call n_impl_inputRight k s_impl_inputRight (a0,()) (upJ 0 J0 J) 1 k (S1 a0 v1_1_ v1_4_))=(fun(a0:Y1_1)(v1_1_:Int)(v1_4_:Int)=>L1 call k a0 k v1_1_ v1_4_)from funext fun a0=>funext fun v1_1_=>funext fun v1_4_=>L1_eq call k (upJ 0 J0 J) a0 k (v1_1_,v1_4_)]
  all_goals rfl
theorem F_eq(call:Cl)(k:Nat)(a0:Y1_1):bodyK E call n_impl_inputRight k s_impl_inputRight (a0,())=F call k a0:=by
  exact Eq.trans (b:=Fm call k (fun a0 v0_1_ v0_4_=>siteI E call n_impl_inputRight k s_impl_inputRight (a0,()) (fun _ _=>none) 0 k (S0 a0 v0_1_ v0_4_)) a0) (by kernel_rfl) (congrArg (fun l=>Fm call k l a0) (funext fun a0=>funext fun v0_1_=>funext fun v0_4_=>L0_eq call k (fun _ _=>none) a0 k (v0_1_,v0_4_)))
end impl_inputRight
namespace impl_roomRight
abbrev R:=((Bool×Unit)×Unit)
def S0(a0:Y1_1)(v0_2:Int):St:=⟨mkS 49 [(36,.v (.slc tI) (a0.2.2.2.2.1)),(37,.v tI ((↑(List.length a0.2.2.2.2.1):Int))),(38,.v tI v0_2)],[]⟩
def step0(call:Cl)(k:Nat)(a0:Y1_1)(r0:(Int)→Option R)(v0_2:Int):Option R:=bif decide (v0_2<(↑(List.length a0.2.2.2.2.1):Int))then bif decide (0≤v0_2)then(lget a0.2.2.2.2.1 v0_2.toNat).bind fun(y0:Int)=>bif decide (y0<1)then some ((false,()),())else bif decide (y0>6)then some ((false,()),())else r0 (i64.wrap (v0_2+1))else none else some ((true,()),())
def L0(call:Cl)(k:Nat)(a0:Y1_1):Nat→(Int)→Option R|0,_=>none|n+1,v0_2=>step0 call k a0 (L0 call k a0 n) v0_2
def Fm(call:Cl)(k:Nat)(l0:Y1_0→(Int)→Option R)(a0:Y1_1):Option R:=bif decide (a0.2.2.2.1<0)then some ((false,()),())else bif decide (a0.2.2.2.1>6)then some ((false,()),())else bif decide ((↑(List.length a0.2.2.2.2.1):Int)>2)then some ((false,()),())else bif decide ((↑(List.length a0.2.2.2.2.2.1):Int)>40)then some ((false,()),())else l0 a0 0
def F(call:Cl)(k:Nat)(a0:Y1_1):Option R:=Fm call k (fun a0_ v0_2_=>L0 call k a0_ k v0_2_) a0
theorem L0_eq(call:Cl)(k:Nat)(J:Nat→St→Option R)(a0:Y1_1):∀(n:Nat)(x:(Int)),siteI E call n_impl_roomRight k s_impl_roomRight (a0,()) J 0 n (S0 a0 x)=L0 call k a0 n x:=by
  refine loop_eq (s:=s_impl_roomRight) (fun x=>S0 a0 x) (fun n x=>L0 call k a0 n x) (fun r x=>step0 call k a0 (fun v0_2=>r v0_2) x) (fun _=>rfl) (fun _ _=>rfl) fun J0 x=>?_
  kernel_rfl
theorem F_eq(call:Cl)(k:Nat)(a0:Y1_1):bodyK E call n_impl_roomRight k s_impl_roomRight (a0,())=F call k a0:=by
  exact Eq.trans (b:=Fm call k (fun a0 v0_2_=>siteI E call n_impl_roomRight k s_impl_roomRight (a0,()) (fun _ _=>none) 0 k (S0 a0 v0_2_)) a0) (by kernel_rfl) (congrArg (fun l=>Fm call k l a0) (funext fun a0=>funext fun v0_2_=>L0_eq call k (fun _ _=>none) a0 k v0_2_))
end impl_roomRight
namespace impl_holdsPlace
abbrev R:=((Bool×Unit)×Unit)
def Fm(call:Cl)(k:Nat)(a0:Y1_1)(a1:Y1_4)(a2:Bool):Option R:=bif !a2 then some (((↑a1.length:Int)==0,()),())else(call 240 s_impl_mayStand (a0,a1,())).bind fun(y0:Y1_6×Unit)=>some ((y0.1.1,()),())
def F(call:Cl)(k:Nat)(a0:Y1_1)(a1:Y1_4)(a2:Bool):Option R:=Fm call k a0 a1 a2
theorem F_eq(call:Cl)(k:Nat)(a0:Y1_1)(a1:Y1_4)(a2:Bool):bodyK E call n_impl_holdsPlace k s_impl_holdsPlace (a0,a1,a2,())=F call k a0 a1 a2:=by kernel_rfl
end impl_holdsPlace
namespace impl_stmtRight
abbrev R:=((Bool×Unit)×Unit)
def Fm(call:Cl)(k:Nat)(a0:Y1_1)(a1:Y1_2):Option R:=bif a1.1==0 then(call 225 s_impl_inputsOf (a0,())).bind fun(y0:Y1_7×Unit)=>(call 226 s_impl_varsOf (a0,())).bind fun(y1:Y1_7×Unit)=>bif decide (a1.2.1<y0.1.1)then some ((false,()),())else bif decide (a1.2.1>i64.wrap (y1.1.1-1))then some ((false,()),())else(call 227 s_impl_holdsPlace (a0,a1.2.2.1,false,())).bind fun(y2:Y1_6×Unit)=>bif y2.1.1 then(call 227 s_impl_holdsPlace (a0,a1.2.2.2.1,true,())).bind fun(y3:Y1_6×Unit)=>some ((y3.1.1,()),())else some ((false,()),())else bif a1.1==1 then bif decide (a1.2.1<0)then some ((false,()),())else bif decide (a1.2.1>i64.wrap ((↑(List.length a0.2.2.2.2.1):Int)-1))then some ((false,()),())else(call 227 s_impl_holdsPlace (a0,a1.2.2.1,true,())).bind fun(y4:Y1_6×Unit)=>bif y4.1.1 then(call 227 s_impl_holdsPlace (a0,a1.2.2.2.1,true,())).bind fun(y5:Y1_6×Unit)=>some ((y5.1.1,()),())else some ((false,()),())else bif a1.1==2 then bif a1.1==2 then bif decide (a1.2.1<0)then some ((false,()),())else bif decide (a1.2.1>0)then some ((false,()),())else(call 227 s_impl_holdsPlace (a0,a1.2.2.1,false,())).bind fun(y6:Y1_6×Unit)=>bif y6.1.1 then(call 227 s_impl_holdsPlace (a0,a1.2.2.2.1,true,())).bind fun(y7:Y1_6×Unit)=>some ((y7.1.1,()),())else some ((false,()),())else bif a1.1==5 then bif decide (a1.2.1<0)then some ((false,()),())else bif decide (a1.2.1>4)then some ((false,()),())else(call 227 s_impl_holdsPlace (a0,a1.2.2.1,false,())).bind fun(y8:Y1_6×Unit)=>bif y8.1.1 then(call 227 s_impl_holdsPlace (a0,a1.2.2.2.1,false,())).bind fun(y9:Y1_6×Unit)=>some ((y9.1.1,()),())else some ((false,()),())else bif a1.1==7 then bif a1.1==7 then bif decide (a1.2.1<0)then some ((false,()),())else bif decide (a1.2.1>9)then some ((false,()),())else(call 227 s_impl_holdsPlace (a0,a1.2.2.1,false,())).bind fun(y10:Y1_6×Unit)=>bif y10.1.1 then(call 227 s_impl_holdsPlace (a0,a1.2.2.2.1,false,())).bind fun(y11:Y1_6×Unit)=>some ((y11.1.1,()),())else some ((false,()),())else bif a1.1==3 then bif a1.1==3 then bif decide (a1.2.1<0)then some ((false,()),())else bif decide (a1.2.1>0)then some ((false,()),())else(call 227 s_impl_holdsPlace (a0,a1.2.2.1,false,())).bind fun(y12:Y1_6×Unit)=>bif y12.1.1 then(call 227 s_impl_holdsPlace (a0,a1.2.2.2.1,false,())).bind fun(y13:Y1_6×Unit)=>some ((y13.1.1,()),())else some ((false,()),())else some ((false,()),())else bif a1.1==4 then bif a1.1==4 then bif decide (a1.2.1<0)then some ((false,()),())else bif decide (a1.2.1>0)then some ((false,()),())else(call 227 s_impl_holdsPlace (a0,a1.2.2.1,false,())).bind fun(y14:Y1_6×Unit)=>bif y14.1.1 then(call 227 s_impl_holdsPlace (a0,a1.2.2.2.1,false,())).bind fun(y15:Y1_6×Unit)=>some ((y15.1.1,()),())else some ((false,()),())else some ((false,()),())else bif a1.1==8 then bif decide (a1.2.1<0)then some ((false,()),())else bif decide (a1.2.1>0)then some ((false,()),())else(call 227 s_impl_holdsPlace (a0,a1.2.2.1,false,())).bind fun(y16:Y1_6×Unit)=>bif y16.1.1 then(call 227 s_impl_holdsPlace (a0,a1.2.2.2.1,false,())).bind fun(y17:Y1_6×Unit)=>some ((y17.1.1,()),())else some ((false,()),())else some ((false,()),())else bif a1.1==9 then bif decide (a1.2.1<0)then some ((false,()),())else bif decide (a1.2.1>9)then some ((false,()),())else(call 227 s_impl_holdsPlace (a0,a1.2.2.1,false,())).bind fun(y18:Y1_6×Unit)=>bif y18.1.1 then(call 227 s_impl_holdsPlace (a0,a1.2.2.2.1,false,())).bind fun(y19:Y1_6×Unit)=>some ((y19.1.1,()),())else some ((false,()),())else bif a1.1==3 then bif a1.1==3 then bif decide (a1.2.1<0)then some ((false,()),())else bif decide (a1.2.1>0)then some ((false,()),())else(call 227 s_impl_holdsPlace (a0,a1.2.2.1,false,())).bind fun(y20:Y1_6×Unit)=>bif y20.1.1 then(call 227 s_impl_holdsPlace (a0,a1.2.2.2.1,false,())).bind fun(y21:Y1_6×Unit)=>some ((y21.1.1,()),())else some ((false,()),())else some ((false,()),())else bif a1.1==4 then bif a1.1==4 then bif decide (a1.2.1<0)then some ((false,()),())else bif decide (a1.2.1>0)then some ((false,()),())else(call 227 s_impl_holdsPlace (a0,a1.2.2.1,false,())).bind fun(y22:Y1_6×Unit)=>bif y22.1.1 then(call 227 s_impl_holdsPlace (a0,a1.2.2.2.1,false,())).bind fun(y23:Y1_6×Unit)=>some ((y23.1.1,()),())else some ((false,()),())else some ((false,()),())else bif a1.1==8 then bif decide (a1.2.1<0)then some ((false,()),())else bif decide (a1.2.1>0)then some ((false,()),())else(call 227 s_impl_holdsPlace (a0,a1.2.2.1,false,())).bind fun(y24:Y1_6×Unit)=>bif y24.1.1 then(call 227 s_impl_holdsPlace (a0,a1.2.2.2.1,false,())).bind fun(y25:Y1_6×Unit)=>some ((y25.1.1,()),())else some ((false,()),())else some ((false,()),())else bif a1.1==6 then bif decide (a1.2.1<0)then some ((false,()),())else bif decide (a1.2.1>0)then some ((false,()),())else(call 227 s_impl_holdsPlace (a0,a1.2.2.1,false,())).bind fun(y26:Y1_6×Unit)=>bif y26.1.1 then(call 227 s_impl_holdsPlace (a0,a1.2.2.2.1,true,())).bind fun(y27:Y1_6×Unit)=>some ((y27.1.1,()),())else some ((false,()),())else bif a1.1==5 then bif decide (a1.2.1<0)then some ((false,()),())else bif decide (a1.2.1>4)then some ((false,()),())else(call 227 s_impl_holdsPlace (a0,a1.2.2.1,false,())).bind fun(y28:Y1_6×Unit)=>bif y28.1.1 then(call 227 s_impl_holdsPlace (a0,a1.2.2.2.1,false,())).bind fun(y29:Y1_6×Unit)=>some ((y29.1.1,()),())else some ((false,()),())else bif a1.1==7 then bif a1.1==7 then bif decide (a1.2.1<0)then some ((false,()),())else bif decide (a1.2.1>9)then some ((false,()),())else(call 227 s_impl_holdsPlace (a0,a1.2.2.1,false,())).bind fun(y30:Y1_6×Unit)=>bif y30.1.1 then(call 227 s_impl_holdsPlace (a0,a1.2.2.2.1,false,())).bind fun(y31:Y1_6×Unit)=>some ((y31.1.1,()),())else some ((false,()),())else bif a1.1==3 then bif a1.1==3 then bif decide (a1.2.1<0)then some ((false,()),())else bif decide (a1.2.1>0)then some ((false,()),())else(call 227 s_impl_holdsPlace (a0,a1.2.2.1,false,())).bind fun(y32:Y1_6×Unit)=>bif y32.1.1 then(call 227 s_impl_holdsPlace (a0,a1.2.2.2.1,false,())).bind fun(y33:Y1_6×Unit)=>some ((y33.1.1,()),())else some ((false,()),())else some ((false,()),())else bif a1.1==4 then bif a1.1==4 then bif decide (a1.2.1<0)then some ((false,()),())else bif decide (a1.2.1>0)then some ((false,()),())else(call 227 s_impl_holdsPlace (a0,a1.2.2.1,false,())).bind fun(y34:Y1_6×Unit)=>bif y34.1.1 then(call 227 s_impl_holdsPlace (a0,a1.2.2.2.1,false,())).bind fun(y35:Y1_6×Unit)=>some ((y35.1.1,()),())else some ((false,()),())else some ((false,()),())else bif a1.1==8 then bif decide (a1.2.1<0)then some ((false,()),())else bif decide (a1.2.1>0)then some ((false,()),())else(call 227 s_impl_holdsPlace (a0,a1.2.2.1,false,())).bind fun(y36:Y1_6×Unit)=>bif y36.1.1 then(call 227 s_impl_holdsPlace (a0,a1.2.2.2.1,false,())).bind fun(y37:Y1_6×Unit)=>some ((y37.1.1,()),())else some ((false,()),())else some ((false,()),())else bif a1.1==9 then bif decide (a1.2.1<0)then some ((false,()),())else bif decide (a1.2.1>9)then some ((false,()),())else(call 227 s_impl_holdsPlace (a0,a1.2.2.1,false,())).bind fun(y38:Y1_6×Unit)=>bif y38.1.1 then(call 227 s_impl_holdsPlace (a0,a1.2.2.2.1,false,())).bind fun(y39:Y1_6×Unit)=>some ((y39.1.1,()),())else some ((false,()),())else bif a1.1==3 then bif a1.1==3 then bif decide (a1.2.1<0)then some ((false,()),())else bif decide (a1.2.1>0)then some ((false,()),())else(call 227 s_impl_holdsPlace (a0,a1.2.2.1,false,())).bind fun(y40:Y1_6×Unit)=>bif y40.1.1 then(call 227 s_impl_holdsPlace (a0,a1.2.2.2.1,false,())).bind fun(y41:Y1_6×Unit)=>some ((y41.1.1,()),())else some ((false,()),())else some ((false,()),())else bif a1.1==4 then bif a1.1==4 then bif decide (a1.2.1<0)then some ((false,()),())else bif decide (a1.2.1>0)then some ((false,()),())else(call 227 s_impl_holdsPlace (a0,a1.2.2.1,false,())).bind fun(y42:Y1_6×Unit)=>bif y42.1.1 then(call 227 s_impl_holdsPlace (a0,a1.2.2.2.1,false,())).bind fun(y43:Y1_6×Unit)=>some ((y43.1.1,()),())else some ((false,()),())else some ((false,()),())else bif a1.1==8 then bif decide (a1.2.1<0)then some ((false,()),())else bif decide (a1.2.1>0)then some ((false,()),())else(call 227 s_impl_holdsPlace (a0,a1.2.2.1,false,())).bind fun(y44:Y1_6×Unit)=>bif y44.1.1 then(call 227 s_impl_holdsPlace (a0,a1.2.2.2.1,false,())).bind fun(y45:Y1_6×Unit)=>some ((y45.1.1,()),())else some ((false,()),())else some ((false,()),())
def F(call:Cl)(k:Nat)(a0:Y1_1)(a1:Y1_2):Option R:=Fm call k a0 a1
theorem F_eq(call:Cl)(k:Nat)(a0:Y1_1)(a1:Y1_2):bodyK E call n_impl_stmtRight k s_impl_stmtRight (a0,a1,())=F call k a0 a1:=by kernel_rfl
end impl_stmtRight
namespace spec_l1In
abbrev R:=((Bool×Unit)×Unit)
def Fm(call:Cl)(k:Nat)(a0:Int)(a1:Int)(a2:Int):Option R:=bif decide (a0≥a1)then some ((decide (a0≤a2),()),())else some ((false,()),())
def F(call:Cl)(k:Nat)(a0:Int)(a1:Int)(a2:Int):Option R:=Fm call k a0 a1 a2
theorem F_eq(call:Cl)(k:Nat)(a0:Int)(a1:Int)(a2:Int):bodyK E call n_spec_l1In k s_spec_l1In (a0,a1,a2,())=F call k a0 a1 a2:=by kernel_rfl
end spec_l1In
namespace spec_l1Max
abbrev R:=((Int×Unit)×Unit)
def Fm(call:Cl)(k:Nat)(a0:Int)(a1:Int):Option R:=bif decide (a0>a1)then some ((a0,()),())else some ((a1,()),())
def F(call:Cl)(k:Nat)(a0:Int)(a1:Int):Option R:=Fm call k a0 a1
theorem F_eq(call:Cl)(k:Nat)(a0:Int)(a1:Int):bodyK E call n_spec_l1Max k s_spec_l1Max (a0,a1,())=F call k a0 a1:=by kernel_rfl
end spec_l1Max
namespace spec_TakesOf
abbrev R:=((Int×Unit)×Unit)
def Fm(call:Cl)(k:Nat)(a0:Int):Option R:=(call 123 s_spec_l1In (a0,0,17,())).bind fun(y0:Y1_6×Unit)=>bif !y0.1.1 then some (((-1),()),())else bif decide (0≤a0)&&decide (a0.toNat<[(0:Int),(0:Int),(1:Int),(1:Int),(1:Int),(2:Int),(2:Int),(2:Int),(2:Int),(2:Int),(2:Int),(2:Int),(2:Int),(2:Int),(2:Int),(2:Int),(2:Int),(3:Int)].length)then(lget [(0:Int),(0:Int),(1:Int),(1:Int),(1:Int),(2:Int),(2:Int),(2:Int),(2:Int),(2:Int),(2:Int),(2:Int),(2:Int),(2:Int),(2:Int),(2:Int),(2:Int),(3:Int)] a0.toNat).bind fun(y1:Int)=>some ((y1,()),())else none
def F(call:Cl)(k:Nat)(a0:Int):Option R:=Fm call k a0
theorem F_eq(call:Cl)(k:Nat)(a0:Int):bodyK E call n_spec_TakesOf k s_spec_TakesOf (a0,())=F call k a0:=by kernel_rfl
end spec_TakesOf
namespace spec_ExpOk
abbrev R:=((Bool×Unit)×Unit)
def S0(a0:Y1_4)(v0_1:Int)(v0_2:Int):St:=⟨mkS 59 [(0,.v tTl (a0)),(3,.v tI v0_1),(4,.v tI v0_2)],[]⟩
def step0(call:Cl)(k:Nat)(a0:Y1_4)(r0:(Int)→(Int)→Option R)(v0_1:Int)(v0_2:Int):Option R:=bif decide (v0_2<(↑a0.length:Int))then bif decide (0≤v0_2)then(lget a0 v0_2.toNat).bind fun(y0:Int×Int×Unit)=>(call 233 s_spec_TakesOf (y0.1,())).bind fun(y1:Y1_7×Unit)=>bif decide (y1.1.1<0)then some ((false,()),())else bif decide (y1.1.1>v0_1)then some ((false,()),())else bif decide (0≤v0_2)then(lget a0 v0_2.toNat).bind fun(y2:Int×Int×Unit)=>(call 123 s_spec_l1In (y2.2.1,0,255,())).bind fun(y3:Y1_6×Unit)=>bif !y3.1.1 then some ((false,()),())else bif decide (0≤v0_2)then(lget a0 v0_2.toNat).bind fun(y4:Int×Int×Unit)=>bif decide (y4.1>2)then bif decide (0≤v0_2)then(lget a0 v0_2.toNat).bind fun(y5:Int×Int×Unit)=>bif y5.2.1!=0 then some ((false,()),())else r0 (i64.wrap (i64.wrap (v0_1-y1.1.1)+1)) (i64.wrap (v0_2+1))else none else r0 (i64.wrap (i64.wrap (v0_1-y1.1.1)+1)) (i64.wrap (v0_2+1))else none else none else none else some ((v0_1==1,()),())
def L0(call:Cl)(k:Nat)(a0:Y1_4):Nat→(Int)→(Int)→Option R|0,_,_=>none|n+1,v0_1,v0_2=>step0 call k a0 (L0 call k a0 n) v0_1 v0_2
def Fm(call:Cl)(k:Nat)(l0:Y1_3→(Int)→(Int)→Option R)(a0:Y1_4):Option R:=bif decide ((↑a0.length:Int)>3000)then some ((false,()),())else l0 a0 0 0
def F(call:Cl)(k:Nat)(a0:Y1_4):Option R:=Fm call k (fun a0_ v0_1_ v0_2_=>L0 call k a0_ k v0_1_ v0_2_) a0
theorem L0_eq(call:Cl)(k:Nat)(J:Nat→St→Option R)(a0:Y1_4):∀(n:Nat)(x:Y1_5),siteI E call n_spec_ExpOk k s_spec_ExpOk (a0,()) J 0 n (S0 a0 x.1 x.2)=L0 call k a0 n x.1 x.2:=by
  refine loop_eq (s:=s_spec_ExpOk) (fun x=>S0 a0 x.1 x.2) (fun n x=>L0 call k a0 n x.1 x.2) (fun r x=>step0 call k a0 (fun v0_1 v0_2=>r (v0_1,v0_2)) x.1 x.2) (fun _=>rfl) (fun _ _=>rfl) fun J0 x=>?_
  kernel_rfl
theorem F_eq(call:Cl)(k:Nat)(a0:Y1_4):bodyK E call n_spec_ExpOk k s_spec_ExpOk (a0,())=F call k a0:=by
  exact Eq.trans (b:=Fm call k (fun a0 v0_1_ v0_2_=>siteI E call n_spec_ExpOk k s_spec_ExpOk (a0,()) (fun _ _=>none) 0 k (S0 a0 v0_1_ v0_2_)) a0) (by kernel_rfl) (congrArg (fun l=>Fm call k l a0) (funext fun a0=>funext fun v0_1_=>funext fun v0_2_=>L0_eq call k (fun _ _=>none) a0 k (v0_1_,v0_2_)))
end spec_ExpOk
namespace spec_l3Size
abbrev R:=((Int×Unit)×Unit)
def S0(a0:Y1_1)(v0_0:Int)(v0_1:Int):St:=⟨mkS 14 [(1,.p [500001] [] 0),(3,.v tI v0_0),(4,.v tI v0_1)],[([500001],.box (.v tPg ((a0.1),((a0.2.1),((a0.2.2.1),((a0.2.2.2.1),((a0.2.2.2.2.1),((a0.2.2.2.2.2.1),()))))))))]⟩
def step0(call:Cl)(k:Nat)(a0:Y1_1)(r0:(Int)→(Int)→Option R)(v0_0:Int)(v0_1:Int):Option R:=bif decide (v0_1<a0.1)then r0 (i64.wrap (v0_0*2)) (i64.wrap (v0_1+1))else some ((v0_0,()),())
def L0(call:Cl)(k:Nat)(a0:Y1_1):Nat→(Int)→(Int)→Option R|0,_,_=>none|n+1,v0_0,v0_1=>step0 call k a0 (L0 call k a0 n) v0_0 v0_1
def Fm(call:Cl)(k:Nat)(l0:Y1_0→(Int)→(Int)→Option R)(a0:Y1_1):Option R:=l0 a0 1 0
def F(call:Cl)(k:Nat)(a0:Y1_1):Option R:=Fm call k (fun a0_ v0_0_ v0_1_=>L0 call k a0_ k v0_0_ v0_1_) a0
theorem L0_eq(call:Cl)(k:Nat)(J:Nat→St→Option R)(a0:Y1_1):∀(n:Nat)(x:Y1_5),siteI E call n_spec_l3Size k s_spec_l3Size (a0,()) J 0 n (S0 a0 x.1 x.2)=L0 call k a0 n x.1 x.2:=by
  refine loop_eq (s:=s_spec_l3Size) (fun x=>S0 a0 x.1 x.2) (fun n x=>L0 call k a0 n x.1 x.2) (fun r x=>step0 call k a0 (fun v0_0 v0_1=>r (v0_0,v0_1)) x.1 x.2) (fun _=>rfl) (fun _ _=>rfl) fun J0 x=>?_
  kernel_rfl
theorem F_eq(call:Cl)(k:Nat)(a0:Y1_1):bodyK E call n_spec_l3Size k s_spec_l3Size (a0,())=F call k a0:=by
  exact Eq.trans (b:=Fm call k (fun a0 v0_0_ v0_1_=>siteI E call n_spec_l3Size k s_spec_l3Size (a0,()) (fun _ _=>none) 0 k (S0 a0 v0_0_ v0_1_)) a0) (by kernel_rfl) (congrArg (fun l=>Fm call k l a0) (funext fun a0=>funext fun v0_0_=>funext fun v0_1_=>L0_eq call k (fun _ _=>none) a0 k (v0_0_,v0_1_)))
end spec_l3Size
namespace spec_l3Bits
abbrev R:=((Int×Unit)×Unit)
def S0(v0_0:Int)(v0_1:Int):St:=⟨mkS 11 [(0,.v tI v0_0),(3,.v tI v0_1)],[]⟩
def step0(call:Cl)(k:Nat)(r0:(Int)→(Int)→Option R)(v0_0:Int)(v0_1:Int):Option R:=bif decide (v0_0>0)then r0 (i64.wrap (v0_0.tdiv 2)) (i64.wrap (v0_1+1))else some ((v0_1,()),())
def L0(call:Cl)(k:Nat):Nat→(Int)→(Int)→Option R|0,_,_=>none|n+1,v0_0,v0_1=>step0 call k (L0 call k n) v0_0 v0_1
def Fm(call:Cl)(k:Nat)(l0:(Int)→(Int)→Option R)(a0:Int):Option R:=l0 a0 0
def F(call:Cl)(k:Nat)(a0:Int):Option R:=Fm call k (fun v0_0_ v0_1_=>L0 call k k v0_0_ v0_1_) a0
theorem L0_eq(call:Cl)(k:Nat)(J:Nat→St→Option R)(a0:Int):∀(n:Nat)(x:Y1_5),siteI E call n_spec_l3Bits k s_spec_l3Bits (a0,()) J 0 n (S0 x.1 x.2)=L0 call k n x.1 x.2:=by
  refine loop_eq (s:=s_spec_l3Bits) (fun x=>S0 x.1 x.2) (fun n x=>L0 call k n x.1 x.2) (fun r x=>step0 call k (fun v0_0 v0_1=>r (v0_0,v0_1)) x.1 x.2) (fun _=>rfl) (fun _ _=>rfl) fun J0 x=>?_
  kernel_rfl
theorem F_eq(call:Cl)(k:Nat)(a0:Int):bodyK E call n_spec_l3Bits k s_spec_l3Bits (a0,())=F call k a0:=by
  exact Eq.trans (b:=Fm call k (fun v0_0_ v0_1_=>siteI E call n_spec_l3Bits k s_spec_l3Bits (a0,()) (fun _ _=>none) 0 k (S0 v0_0_ v0_1_)) a0) (by kernel_rfl) (congrArg (fun l=>Fm call k l a0) (funext fun v0_0_=>funext fun v0_1_=>L0_eq call k (fun _ _=>none) a0 k (v0_0_,v0_1_)))
end spec_l3Bits
namespace spec_l3Vars
abbrev R:=((Int×Unit)×Unit)
def Fm(call:Cl)(k:Nat)(a0:Y1_1):Option R:=some ((i64.wrap (i64.wrap ((↑(List.length a0.2.1):Int)+(↑(List.length a0.2.2.1):Int))+a0.2.2.2.1),()),())
def F(call:Cl)(k:Nat)(a0:Y1_1):Option R:=Fm call k a0
theorem F_eq(call:Cl)(k:Nat)(a0:Y1_1):bodyK E call n_spec_l3Vars k s_spec_l3Vars (a0,())=F call k a0:=by kernel_rfl
end spec_l3Vars
namespace spec_l3Inputs
abbrev R:=((Bool×Unit)×Unit)
def S0(a0:Y1_1)(a1:Y1_4)(a2:Bool)(v0_2:Int):St:=⟨mkS 47 [(1,.v tTl (a1)),(2,.v .bool (a2)),(3,.p [500003] [] 0),(7,.v tI v0_2)],[([500003],.box (.v tPg ((a0.1),((a0.2.1),((a0.2.2.1),((a0.2.2.2.1),((a0.2.2.2.2.1),((a0.2.2.2.2.2.1),()))))))))]⟩
def step0(call:Cl)(k:Nat)(a0:Y1_1)(a1:Y1_4)(a2:Bool)(r0:(Int)→Option R)(v0_2:Int):Option R:=bif decide (v0_2<(↑a1.length:Int))then bif decide (0≤v0_2)then(lget a1 v0_2.toNat).bind fun(y0:Int×Int×Unit)=>(call 219 s_spec_l3Size (a0,())).bind fun(y1:Y1_7×Unit)=>(call 123 s_spec_l1In (y0.1,0,i64.wrap (y1.1.1-1),())).bind fun(y2:Y1_6×Unit)=>bif !y2.1.1 then some ((false,()),())else bif decide (0≤v0_2)then(lget a1 v0_2.toNat).bind fun(y3:Int×Int×Unit)=>(call 123 s_spec_l1In (y3.2.1,0,99,())).bind fun(y4:Y1_6×Unit)=>bif !y4.1.1 then some ((false,()),())else bif a2 then bif decide (0≤v0_2)then(lget a1 v0_2.toNat).bind fun(y5:Int×Int×Unit)=>bif y5.2.1!=0 then some ((false,()),())else r0 (i64.wrap (v0_2+1))else none else r0 (i64.wrap (v0_2+1))else none else none else some ((decide ((↑a1.length:Int)≤3),()),())
def L0(call:Cl)(k:Nat)(a0:Y1_1)(a1:Y1_4)(a2:Bool):Nat→(Int)→Option R|0,_=>none|n+1,v0_2=>step0 call k a0 a1 a2 (L0 call k a0 a1 a2 n) v0_2
def Fm(call:Cl)(k:Nat)(l0:Y1_0→Y1_3→(Bool)→(Int)→Option R)(a0:Y1_1)(a1:Y1_4)(a2:Bool):Option R:=l0 a0 a1 a2 0
def F(call:Cl)(k:Nat)(a0:Y1_1)(a1:Y1_4)(a2:Bool):Option R:=Fm call k (fun a0_ a1_ a2_ v0_2_=>L0 call k a0_ a1_ a2_ k v0_2_) a0 a1 a2
theorem L0_eq(call:Cl)(k:Nat)(J:Nat→St→Option R)(a0:Y1_1)(a1:Y1_4)(a2:Bool):∀(n:Nat)(x:(Int)),siteI E call n_spec_l3Inputs k s_spec_l3Inputs (a0,a1,a2,()) J 0 n (S0 a0 a1 a2 x)=L0 call k a0 a1 a2 n x:=by
  refine loop_eq (s:=s_spec_l3Inputs) (fun x=>S0 a0 a1 a2 x) (fun n x=>L0 call k a0 a1 a2 n x) (fun r x=>step0 call k a0 a1 a2 (fun v0_2=>r v0_2) x) (fun _=>rfl) (fun _ _=>rfl) fun J0 x=>?_
  kernel_rfl
theorem F_eq(call:Cl)(k:Nat)(a0:Y1_1)(a1:Y1_4)(a2:Bool):bodyK E call n_spec_l3Inputs k s_spec_l3Inputs (a0,a1,a2,())=F call k a0 a1 a2:=by
  exact Eq.trans (b:=Fm call k (fun a0 a1 a2 v0_2_=>siteI E call n_spec_l3Inputs k s_spec_l3Inputs (a0,a1,a2,()) (fun _ _=>none) 0 k (S0 a0 a1 a2 v0_2_)) a0 a1 a2) (by kernel_rfl) (congrArg (fun l=>Fm call k l a0 a1 a2) (funext fun a0=>funext fun a1=>funext fun a2=>funext fun v0_2_=>L0_eq call k (fun _ _=>none) a0 a1 a2 k v0_2_))
end spec_l3Inputs
namespace spec_l3AllBits
abbrev R:=((Int×Unit)×Unit)
def S1(a0:Y1_1)(v1_0:Int)(v1_1:Int):St:=⟨mkS 39 [(1,.p [500001] [] 0),(3,.v tI v1_0),(5,.v tI v1_1)],[([500001],.box (.v tPg ((a0.1),((a0.2.1),((a0.2.2.1),((a0.2.2.2.1),((a0.2.2.2.2.1),((a0.2.2.2.2.2.1),()))))))))]⟩
def S0(a0:Y1_1)(v0_0:Int)(v0_1:Int):St:=⟨mkS 39 [(1,.p [500001] [] 0),(3,.v tI v0_0),(4,.v tI v0_1)],[([500001],.box (.v tPg ((a0.1),((a0.2.1),((a0.2.2.1),((a0.2.2.2.1),((a0.2.2.2.2.1),((a0.2.2.2.2.2.1),()))))))))]⟩
def step1(call:Cl)(k:Nat)(a0:Y1_1)(r1:(Int)→(Int)→Option R)(v1_0:Int)(v1_1:Int):Option R:=bif decide (v1_1<(↑a0.2.2.1.length:Int))then bif decide (0≤v1_1)then(lget a0.2.2.1 v1_1.toNat).bind fun(y2:Int×Int×Unit)=>(call 94 s_spec_l3Bits (y2.1,())).bind fun(y3:Y1_7×Unit)=>r1 (i64.wrap (v1_0+y3.1.1)) (i64.wrap (v1_1+1))else none else some ((v1_0,()),())
def L1(call:Cl)(k:Nat)(a0:Y1_1):Nat→(Int)→(Int)→Option R|0,_,_=>none|n+1,v1_0,v1_1=>step1 call k a0 (L1 call k a0 n) v1_0 v1_1
def step0(call:Cl)(k:Nat)(a0:Y1_1)(l1:Y1_0→(Int)→(Int)→Option R)(r0:(Int)→(Int)→Option R)(v0_0:Int)(v0_1:Int):Option R:=bif decide (v0_1<(↑a0.2.1.length:Int))then bif decide (0≤v0_1)then(lget a0.2.1 v0_1.toNat).bind fun(y0:Int×Int×Unit)=>(call 94 s_spec_l3Bits (y0.1,())).bind fun(y1:Y1_7×Unit)=>r0 (i64.wrap (v0_0+y1.1.1)) (i64.wrap (v0_1+1))else none else l1 a0 v0_0 0
def L0(call:Cl)(k:Nat)(a0:Y1_1):Nat→(Int)→(Int)→Option R|0,_,_=>none|n+1,v0_0,v0_1=>step0 call k a0 (fun a0_ v1_0_ v1_1_=>L1 call k a0_ k v1_0_ v1_1_) (L0 call k a0 n) v0_0 v0_1
def Fm(call:Cl)(k:Nat)(l0:Y1_0→(Int)→(Int)→Option R)(a0:Y1_1):Option R:=l0 a0 0 0
def F(call:Cl)(k:Nat)(a0:Y1_1):Option R:=Fm call k (fun a0_ v0_0_ v0_1_=>L0 call k a0_ k v0_0_ v0_1_) a0
theorem L1_eq(call:Cl)(k:Nat)(J:Nat→St→Option R)(a0:Y1_1):∀(n:Nat)(x:Y1_5),siteI E call n_spec_l3AllBits k s_spec_l3AllBits (a0,()) J 1 n (S1 a0 x.1 x.2)=L1 call k a0 n x.1 x.2:=by
  refine loop_eq (s:=s_spec_l3AllBits) (fun x=>S1 a0 x.1 x.2) (fun n x=>L1 call k a0 n x.1 x.2) (fun r x=>step1 call k a0 (fun v1_0 v1_1=>r (v1_0,v1_1)) x.1 x.2) (fun _=>rfl) (fun _ _=>rfl) fun J0 x=>?_
  kernel_rfl
theorem L0_eq(call:Cl)(k:Nat)(J:Nat→St→Option R)(a0:Y1_1):∀(n:Nat)(x:Y1_5),siteI E call n_spec_l3AllBits k s_spec_l3AllBits (a0,()) J 0 n (S0 a0 x.1 x.2)=L0 call k a0 n x.1 x.2:=by
  refine loop_eq (s:=s_spec_l3AllBits) (fun x=>S0 a0 x.1 x.2) (fun n x=>L0 call k a0 n x.1 x.2) (fun r x=>step0 call k a0 (fun(a0:Y1_1)(v1_0_:Int)(v1_1_:Int)=>L1 call k a0 k v1_0_ v1_1_) (fun v0_0 v0_1=>r (v0_0,v0_1)) x.1 x.2) (fun _=>rfl) (fun _ _=>rfl) fun J0 x=>?_
  refine Eq.trans (b:=step0 call k a0 (fun a0 v1_0_ v1_1_=>siteI E call n_spec_l3AllBits k s_spec_l3AllBits (a0,()) (upJ 0 J0 J) 1 k (S1 a0 v1_0_ v1_1_)) (fun v0_0 v0_1=>J0 (S0 a0 v0_0 v0_1)) x.1 x.2) (by kernel_rfl) ?_;rw[show(fun(a0:Y1_1)(v1_0_:Int)(v1_1_:Int)=>siteI E call n_spec_l3AllBits k s_spec_l3AllBits (a0,()) (upJ 0 J0 J) 1 k (S1 a0 v1_0_ v1_1_))=(fun(a0:Y1_1)(v1_0_:Int)(v1_1_:Int)=>L1 call k a0 k v1_0_ v1_1_)from funext fun a0=>funext fun v1_0_=>funext fun v1_1_=>L1_eq call k (upJ 0 J0 J) a0 k (v1_0_,v1_1_)]
  all_goals rfl
theorem F_eq(call:Cl)(k:Nat)(a0:Y1_1):bodyK E call n_spec_l3AllBits k s_spec_l3AllBits (a0,())=F call k a0:=by
  exact Eq.trans (b:=Fm call k (fun a0 v0_0_ v0_1_=>siteI E call n_spec_l3AllBits k s_spec_l3AllBits (a0,()) (fun _ _=>none) 0 k (S0 a0 v0_0_ v0_1_)) a0) (by kernel_rfl) (congrArg (fun l=>Fm call k l a0) (funext fun a0=>funext fun v0_0_=>funext fun v0_1_=>L0_eq call k (fun _ _=>none) a0 k (v0_0_,v0_1_)))
end spec_l3AllBits
namespace spec_l3Room
abbrev R:=((Bool×Unit)×Unit)
def S0(a0:Y1_1)(v0_0:Int):St:=⟨mkS 34 [(1,.p [500001] [] 0),(3,.v tI v0_0)],[([500001],.box (.v tPg ((a0.1),((a0.2.1),((a0.2.2.1),((a0.2.2.2.1),((a0.2.2.2.2.1),((a0.2.2.2.2.2.1),()))))))))]⟩
def step0(call:Cl)(k:Nat)(a0:Y1_1)(r0:(Int)→Option R)(v0_0:Int):Option R:=bif decide (v0_0<(↑a0.2.2.2.2.1.length:Int))then bif decide (0≤v0_0)then(lget a0.2.2.2.2.1 v0_0.toNat).bind fun(y1:Int)=>(call 123 s_spec_l1In (y1,1,6,())).bind fun(y2:Y1_6×Unit)=>bif !y2.1.1 then some ((false,()),())else r0 (i64.wrap (v0_0+1))else none else some ((true,()),())
def L0(call:Cl)(k:Nat)(a0:Y1_1):Nat→(Int)→Option R|0,_=>none|n+1,v0_0=>step0 call k a0 (L0 call k a0 n) v0_0
def Fm(call:Cl)(k:Nat)(l0:Y1_0→(Int)→Option R)(a0:Y1_1):Option R:=(call 123 s_spec_l1In (a0.2.2.2.1,0,6,())).bind fun(y0:Y1_6×Unit)=>bif !y0.1.1 then some ((false,()),())else bif decide ((↑(List.length a0.2.2.2.2.1):Int)>2)then some ((false,()),())else bif decide ((↑(List.length a0.2.2.2.2.2.1):Int)>40)then some ((false,()),())else l0 a0 0
def F(call:Cl)(k:Nat)(a0:Y1_1):Option R:=Fm call k (fun a0_ v0_0_=>L0 call k a0_ k v0_0_) a0
theorem L0_eq(call:Cl)(k:Nat)(J:Nat→St→Option R)(a0:Y1_1):∀(n:Nat)(x:(Int)),siteI E call n_spec_l3Room k s_spec_l3Room (a0,()) J 0 n (S0 a0 x)=L0 call k a0 n x:=by
  refine loop_eq (s:=s_spec_l3Room) (fun x=>S0 a0 x) (fun n x=>L0 call k a0 n x) (fun r x=>step0 call k a0 (fun v0_0=>r v0_0) x) (fun _=>rfl) (fun _ _=>rfl) fun J0 x=>?_
  kernel_rfl
theorem F_eq(call:Cl)(k:Nat)(a0:Y1_1):bodyK E call n_spec_l3Room k s_spec_l3Room (a0,())=F call k a0:=by
  exact Eq.trans (b:=Fm call k (fun a0 v0_0_=>siteI E call n_spec_l3Room k s_spec_l3Room (a0,()) (fun _ _=>none) 0 k (S0 a0 v0_0_)) a0) (by kernel_rfl) (congrArg (fun l=>Fm call k l a0) (funext fun a0=>funext fun v0_0_=>L0_eq call k (fun _ _=>none) a0 k v0_0_))
end spec_l3Room
namespace spec_l3Names
abbrev R:=((Bool×Unit)×Unit)
def S0(a0:Y1_1)(a1:Y1_4)(v0_1:Int):St:=⟨mkS 51 [(1,.v tTl (a1)),(2,.p [500002] [] 0),(5,.v tI v0_1)],[([500002],.box (.v tPg ((a0.1),((a0.2.1),((a0.2.2.1),((a0.2.2.2.1),((a0.2.2.2.2.1),((a0.2.2.2.2.2.1),()))))))))]⟩
def step0(call:Cl)(k:Nat)(a0:Y1_1)(a1:Y1_4)(r0:(Int)→Option R)(v0_1:Int):Option R:=bif decide (v0_1<(↑a1.length:Int))then bif decide (0≤v0_1)then(lget a1 v0_1.toNat).bind fun(y1:Int×Int×Unit)=>bif y1.1==0 then bif decide (0≤v0_1)then(lget a1 v0_1.toNat).bind fun(y2:Int×Int×Unit)=>(call 219 s_spec_l3Size (a0,())).bind fun(y3:Y1_7×Unit)=>bif decide (y2.2.1≥y3.1.1)then some ((false,()),())else r0 (i64.wrap (v0_1+1))else none else bif y1.1==1 then bif decide (0≤v0_1)then(lget a1 v0_1.toNat).bind fun(y4:Int×Int×Unit)=>(call 256 s_spec_l3Vars (a0,())).bind fun(y5:Y1_7×Unit)=>bif decide (y4.2.1≥y5.1.1)then some ((false,()),())else r0 (i64.wrap (v0_1+1))else none else bif y1.1==2 then bif decide (0≤v0_1)then(lget a1 v0_1.toNat).bind fun(y6:Int×Int×Unit)=>bif decide (y6.2.1≥(↑a0.2.2.2.2.1.length:Int))then some ((false,()),())else r0 (i64.wrap (v0_1+1))else none else r0 (i64.wrap (v0_1+1))else none else some ((true,()),())
def L0(call:Cl)(k:Nat)(a0:Y1_1)(a1:Y1_4):Nat→(Int)→Option R|0,_=>none|n+1,v0_1=>step0 call k a0 a1 (L0 call k a0 a1 n) v0_1
def Fm(call:Cl)(k:Nat)(l0:Y1_0→Y1_3→(Int)→Option R)(a0:Y1_1)(a1:Y1_4):Option R:=(call 255 s_spec_ExpOk (a1,())).bind fun(y0:Y1_6×Unit)=>bif !y0.1.1 then some ((false,()),())else l0 a0 a1 0
def F(call:Cl)(k:Nat)(a0:Y1_1)(a1:Y1_4):Option R:=Fm call k (fun a0_ a1_ v0_1_=>L0 call k a0_ a1_ k v0_1_) a0 a1
theorem L0_eq(call:Cl)(k:Nat)(J:Nat→St→Option R)(a0:Y1_1)(a1:Y1_4):∀(n:Nat)(x:(Int)),siteI E call n_spec_l3Names k s_spec_l3Names (a0,a1,()) J 0 n (S0 a0 a1 x)=L0 call k a0 a1 n x:=by
  refine loop_eq (s:=s_spec_l3Names) (fun x=>S0 a0 a1 x) (fun n x=>L0 call k a0 a1 n x) (fun r x=>step0 call k a0 a1 (fun v0_1=>r v0_1) x) (fun _=>rfl) (fun _ _=>rfl) fun J0 x=>?_
  kernel_rfl
theorem F_eq(call:Cl)(k:Nat)(a0:Y1_1)(a1:Y1_4):bodyK E call n_spec_l3Names k s_spec_l3Names (a0,a1,())=F call k a0 a1:=by
  exact Eq.trans (b:=Fm call k (fun a0 a1 v0_1_=>siteI E call n_spec_l3Names k s_spec_l3Names (a0,a1,()) (fun _ _=>none) 0 k (S0 a0 a1 v0_1_)) a0 a1) (by kernel_rfl) (congrArg (fun l=>Fm call k l a0 a1) (funext fun a0=>funext fun a1=>funext fun v0_1_=>L0_eq call k (fun _ _=>none) a0 a1 k v0_1_))
end spec_l3Names
namespace spec_l3Exp
abbrev R:=((Bool×Unit)×Unit)
def S0(a0:Y1_1)(a1:Y1_4)(v0_1:Int):St:=⟨mkS 26 [(1,.v tTl (a1)),(2,.p [500002] [] 0),(5,.v tI v0_1)],[([500002],.box (.v tPg ((a0.1),((a0.2.1),((a0.2.2.1),((a0.2.2.2.1),((a0.2.2.2.2.1),((a0.2.2.2.2.2.1),()))))))))]⟩
def step0(call:Cl)(k:Nat)(a0:Y1_1)(a1:Y1_4)(r0:(Int)→Option R)(v0_1:Int):Option R:=bif decide (v0_1<(↑a1.length:Int))then bif decide (0≤v0_1)then(lget a1 v0_1.toNat).bind fun(y0:Int×Int×Unit)=>bif y0.1==17 then some ((false,()),())else r0 (i64.wrap (v0_1+1))else none else bif decide ((↑a1.length:Int)≤40)then(call 249 s_spec_l3Names (a0,a1,())).bind fun(y1:Y1_6×Unit)=>some ((y1.1.1,()),())else some ((false,()),())
def L0(call:Cl)(k:Nat)(a0:Y1_1)(a1:Y1_4):Nat→(Int)→Option R|0,_=>none|n+1,v0_1=>step0 call k a0 a1 (L0 call k a0 a1 n) v0_1
def Fm(call:Cl)(k:Nat)(l0:Y1_0→Y1_3→(Int)→Option R)(a0:Y1_1)(a1:Y1_4):Option R:=l0 a0 a1 0
def F(call:Cl)(k:Nat)(a0:Y1_1)(a1:Y1_4):Option R:=Fm call k (fun a0_ a1_ v0_1_=>L0 call k a0_ a1_ k v0_1_) a0 a1
theorem L0_eq(call:Cl)(k:Nat)(J:Nat→St→Option R)(a0:Y1_1)(a1:Y1_4):∀(n:Nat)(x:(Int)),siteI E call n_spec_l3Exp k s_spec_l3Exp (a0,a1,()) J 0 n (S0 a0 a1 x)=L0 call k a0 a1 n x:=by
  refine loop_eq (s:=s_spec_l3Exp) (fun x=>S0 a0 a1 x) (fun n x=>L0 call k a0 a1 n x) (fun r x=>step0 call k a0 a1 (fun v0_1=>r v0_1) x) (fun _=>rfl) (fun _ _=>rfl) fun J0 x=>?_
  kernel_rfl
theorem F_eq(call:Cl)(k:Nat)(a0:Y1_1)(a1:Y1_4):bodyK E call n_spec_l3Exp k s_spec_l3Exp (a0,a1,())=F call k a0 a1:=by
  exact Eq.trans (b:=Fm call k (fun a0 a1 v0_1_=>siteI E call n_spec_l3Exp k s_spec_l3Exp (a0,a1,()) (fun _ _=>none) 0 k (S0 a0 a1 v0_1_)) a0 a1) (by kernel_rfl) (congrArg (fun l=>Fm call k l a0 a1) (funext fun a0=>funext fun a1=>funext fun v0_1_=>L0_eq call k (fun _ _=>none) a0 a1 k v0_1_))
end spec_l3Exp
namespace spec_l3Stmt
abbrev R:=((Bool×Unit)×Unit)
def Fm(call:Cl)(k:Nat)(a0:Y1_1)(a1:Y1_2):Option R:=bif a1.1==0 then(call 123 s_spec_l1In (a1.1,0,9,())).bind fun(y0:Y1_6×Unit)=>bif !y0.1.1 then some ((false,()),())else bif !true==decide ((↑(List.length a1.2.2.2.1):Int)>0)then some ((false,()),())else bif !(a1.1==1)==decide ((↑(List.length a1.2.2.1):Int)>0)then some ((false,()),())else(call 238 s_spec_l3Exp (a0,a1.2.2.2.1,())).bind fun(y1:Y1_6×Unit)=>bif !y1.1.1 then some ((false,()),())else bif a1.1==1 then(call 238 s_spec_l3Exp (a0,a1.2.2.1,())).bind fun(y2:Y1_6×Unit)=>bif !y2.1.1 then some ((false,()),())else bif a1.1==0 then(call 123 s_spec_l1In (a1.2.1,i64.wrap ((↑(List.length a0.2.1):Int)+(↑(List.length a0.2.2.1):Int)),i64.wrap (i64.wrap (i64.wrap ((↑(List.length a0.2.1):Int)+(↑(List.length a0.2.2.1):Int))+a0.2.2.2.1)-1),())).bind fun(y3:Y1_6×Unit)=>some ((y3.1.1,()),())else bif a1.1==1 then(call 123 s_spec_l1In (a1.2.1,0,i64.wrap ((↑(List.length a0.2.2.2.2.1):Int)-1),())).bind fun(y4:Y1_6×Unit)=>some ((y4.1.1,()),())else bif a1.1==5 then(call 123 s_spec_l1In (a1.2.1,0,4,())).bind fun(y5:Y1_6×Unit)=>some ((y5.1.1,()),())else bif a1.1==7 then bif a1.1==7 then(call 123 s_spec_l1In (a1.2.1,0,9,())).bind fun(y6:Y1_6×Unit)=>some ((y6.1.1,()),())else some ((a1.2.1==0,()),())else bif a1.1==9 then(call 123 s_spec_l1In (a1.2.1,0,9,())).bind fun(y7:Y1_6×Unit)=>some ((y7.1.1,()),())else some ((a1.2.1==0,()),())else bif a1.1==0 then(call 123 s_spec_l1In (a1.2.1,i64.wrap ((↑(List.length a0.2.1):Int)+(↑(List.length a0.2.2.1):Int)),i64.wrap (i64.wrap (i64.wrap ((↑(List.length a0.2.1):Int)+(↑(List.length a0.2.2.1):Int))+a0.2.2.2.1)-1),())).bind fun(y8:Y1_6×Unit)=>some ((y8.1.1,()),())else bif a1.1==1 then(call 123 s_spec_l1In (a1.2.1,0,i64.wrap ((↑(List.length a0.2.2.2.2.1):Int)-1),())).bind fun(y9:Y1_6×Unit)=>some ((y9.1.1,()),())else bif a1.1==5 then(call 123 s_spec_l1In (a1.2.1,0,4,())).bind fun(y10:Y1_6×Unit)=>some ((y10.1.1,()),())else bif a1.1==7 then bif a1.1==7 then(call 123 s_spec_l1In (a1.2.1,0,9,())).bind fun(y11:Y1_6×Unit)=>some ((y11.1.1,()),())else some ((a1.2.1==0,()),())else bif a1.1==9 then(call 123 s_spec_l1In (a1.2.1,0,9,())).bind fun(y12:Y1_6×Unit)=>some ((y12.1.1,()),())else some ((a1.2.1==0,()),())else bif a1.1==1 then(call 123 s_spec_l1In (a1.1,0,9,())).bind fun(y13:Y1_6×Unit)=>bif !y13.1.1 then some ((false,()),())else bif !true==decide ((↑(List.length a1.2.2.2.1):Int)>0)then some ((false,()),())else bif !(a1.1==1)==decide ((↑(List.length a1.2.2.1):Int)>0)then some ((false,()),())else(call 238 s_spec_l3Exp (a0,a1.2.2.2.1,())).bind fun(y14:Y1_6×Unit)=>bif !y14.1.1 then some ((false,()),())else bif a1.1==1 then(call 238 s_spec_l3Exp (a0,a1.2.2.1,())).bind fun(y15:Y1_6×Unit)=>bif !y15.1.1 then some ((false,()),())else bif a1.1==0 then(call 123 s_spec_l1In (a1.2.1,i64.wrap ((↑(List.length a0.2.1):Int)+(↑(List.length a0.2.2.1):Int)),i64.wrap (i64.wrap (i64.wrap ((↑(List.length a0.2.1):Int)+(↑(List.length a0.2.2.1):Int))+a0.2.2.2.1)-1),())).bind fun(y16:Y1_6×Unit)=>some ((y16.1.1,()),())else bif a1.1==1 then(call 123 s_spec_l1In (a1.2.1,0,i64.wrap ((↑(List.length a0.2.2.2.2.1):Int)-1),())).bind fun(y17:Y1_6×Unit)=>some ((y17.1.1,()),())else bif a1.1==5 then(call 123 s_spec_l1In (a1.2.1,0,4,())).bind fun(y18:Y1_6×Unit)=>some ((y18.1.1,()),())else bif a1.1==7 then bif a1.1==7 then(call 123 s_spec_l1In (a1.2.1,0,9,())).bind fun(y19:Y1_6×Unit)=>some ((y19.1.1,()),())else some ((a1.2.1==0,()),())else bif a1.1==9 then(call 123 s_spec_l1In (a1.2.1,0,9,())).bind fun(y20:Y1_6×Unit)=>some ((y20.1.1,()),())else some ((a1.2.1==0,()),())else bif a1.1==0 then(call 123 s_spec_l1In (a1.2.1,i64.wrap ((↑(List.length a0.2.1):Int)+(↑(List.length a0.2.2.1):Int)),i64.wrap (i64.wrap (i64.wrap ((↑(List.length a0.2.1):Int)+(↑(List.length a0.2.2.1):Int))+a0.2.2.2.1)-1),())).bind fun(y21:Y1_6×Unit)=>some ((y21.1.1,()),())else bif a1.1==1 then(call 123 s_spec_l1In (a1.2.1,0,i64.wrap ((↑(List.length a0.2.2.2.2.1):Int)-1),())).bind fun(y22:Y1_6×Unit)=>some ((y22.1.1,()),())else bif a1.1==5 then(call 123 s_spec_l1In (a1.2.1,0,4,())).bind fun(y23:Y1_6×Unit)=>some ((y23.1.1,()),())else bif a1.1==7 then bif a1.1==7 then(call 123 s_spec_l1In (a1.2.1,0,9,())).bind fun(y24:Y1_6×Unit)=>some ((y24.1.1,()),())else some ((a1.2.1==0,()),())else bif a1.1==9 then(call 123 s_spec_l1In (a1.2.1,0,9,())).bind fun(y25:Y1_6×Unit)=>some ((y25.1.1,()),())else some ((a1.2.1==0,()),())else bif a1.1==2 then(call 123 s_spec_l1In (a1.1,0,9,())).bind fun(y26:Y1_6×Unit)=>bif !y26.1.1 then some ((false,()),())else bif !true==decide ((↑(List.length a1.2.2.2.1):Int)>0)then some ((false,()),())else bif !(a1.1==1)==decide ((↑(List.length a1.2.2.1):Int)>0)then some ((false,()),())else(call 238 s_spec_l3Exp (a0,a1.2.2.2.1,())).bind fun(y27:Y1_6×Unit)=>bif !y27.1.1 then some ((false,()),())else bif a1.1==1 then(call 238 s_spec_l3Exp (a0,a1.2.2.1,())).bind fun(y28:Y1_6×Unit)=>bif !y28.1.1 then some ((false,()),())else bif a1.1==0 then(call 123 s_spec_l1In (a1.2.1,i64.wrap ((↑(List.length a0.2.1):Int)+(↑(List.length a0.2.2.1):Int)),i64.wrap (i64.wrap (i64.wrap ((↑(List.length a0.2.1):Int)+(↑(List.length a0.2.2.1):Int))+a0.2.2.2.1)-1),())).bind fun(y29:Y1_6×Unit)=>some ((y29.1.1,()),())else bif a1.1==1 then(call 123 s_spec_l1In (a1.2.1,0,i64.wrap ((↑(List.length a0.2.2.2.2.1):Int)-1),())).bind fun(y30:Y1_6×Unit)=>some ((y30.1.1,()),())else bif a1.1==5 then(call 123 s_spec_l1In (a1.2.1,0,4,())).bind fun(y31:Y1_6×Unit)=>some ((y31.1.1,()),())else bif a1.1==7 then bif a1.1==7 then(call 123 s_spec_l1In (a1.2.1,0,9,())).bind fun(y32:Y1_6×Unit)=>some ((y32.1.1,()),())else some ((a1.2.1==0,()),())else bif a1.1==9 then(call 123 s_spec_l1In (a1.2.1,0,9,())).bind fun(y33:Y1_6×Unit)=>some ((y33.1.1,()),())else some ((a1.2.1==0,()),())else bif a1.1==0 then(call 123 s_spec_l1In (a1.2.1,i64.wrap ((↑(List.length a0.2.1):Int)+(↑(List.length a0.2.2.1):Int)),i64.wrap (i64.wrap (i64.wrap ((↑(List.length a0.2.1):Int)+(↑(List.length a0.2.2.1):Int))+a0.2.2.2.1)-1),())).bind fun(y34:Y1_6×Unit)=>some ((y34.1.1,()),())else bif a1.1==1 then(call 123 s_spec_l1In (a1.2.1,0,i64.wrap ((↑(List.length a0.2.2.2.2.1):Int)-1),())).bind fun(y35:Y1_6×Unit)=>some ((y35.1.1,()),())else bif a1.1==5 then(call 123 s_spec_l1In (a1.2.1,0,4,())).bind fun(y36:Y1_6×Unit)=>some ((y36.1.1,()),())else bif a1.1==7 then bif a1.1==7 then(call 123 s_spec_l1In (a1.2.1,0,9,())).bind fun(y37:Y1_6×Unit)=>some ((y37.1.1,()),())else some ((a1.2.1==0,()),())else bif a1.1==9 then(call 123 s_spec_l1In (a1.2.1,0,9,())).bind fun(y38:Y1_6×Unit)=>some ((y38.1.1,()),())else some ((a1.2.1==0,()),())else(call 123 s_spec_l1In (a1.1,0,9,())).bind fun(y39:Y1_6×Unit)=>bif !y39.1.1 then some ((false,()),())else bif !(a1.1==6)==decide ((↑(List.length a1.2.2.2.1):Int)>0)then some ((false,()),())else bif !(a1.1==1)==decide ((↑(List.length a1.2.2.1):Int)>0)then some ((false,()),())else bif a1.1==6 then(call 238 s_spec_l3Exp (a0,a1.2.2.2.1,())).bind fun(y40:Y1_6×Unit)=>bif !y40.1.1 then some ((false,()),())else bif a1.1==1 then(call 238 s_spec_l3Exp (a0,a1.2.2.1,())).bind fun(y41:Y1_6×Unit)=>bif !y41.1.1 then some ((false,()),())else bif a1.1==0 then(call 123 s_spec_l1In (a1.2.1,i64.wrap ((↑(List.length a0.2.1):Int)+(↑(List.length a0.2.2.1):Int)),i64.wrap (i64.wrap (i64.wrap ((↑(List.length a0.2.1):Int)+(↑(List.length a0.2.2.1):Int))+a0.2.2.2.1)-1),())).bind fun(y42:Y1_6×Unit)=>some ((y42.1.1,()),())else bif a1.1==1 then(call 123 s_spec_l1In (a1.2.1,0,i64.wrap ((↑(List.length a0.2.2.2.2.1):Int)-1),())).bind fun(y43:Y1_6×Unit)=>some ((y43.1.1,()),())else bif a1.1==5 then(call 123 s_spec_l1In (a1.2.1,0,4,())).bind fun(y44:Y1_6×Unit)=>some ((y44.1.1,()),())else bif a1.1==7 then bif a1.1==7 then(call 123 s_spec_l1In (a1.2.1,0,9,())).bind fun(y45:Y1_6×Unit)=>some ((y45.1.1,()),())else some ((a1.2.1==0,()),())else bif a1.1==9 then(call 123 s_spec_l1In (a1.2.1,0,9,())).bind fun(y46:Y1_6×Unit)=>some ((y46.1.1,()),())else some ((a1.2.1==0,()),())else bif a1.1==0 then(call 123 s_spec_l1In (a1.2.1,i64.wrap ((↑(List.length a0.2.1):Int)+(↑(List.length a0.2.2.1):Int)),i64.wrap (i64.wrap (i64.wrap ((↑(List.length a0.2.1):Int)+(↑(List.length a0.2.2.1):Int))+a0.2.2.2.1)-1),())).bind fun(y47:Y1_6×Unit)=>some ((y47.1.1,()),())else bif a1.1==1 then(call 123 s_spec_l1In (a1.2.1,0,i64.wrap ((↑(List.length a0.2.2.2.2.1):Int)-1),())).bind fun(y48:Y1_6×Unit)=>some ((y48.1.1,()),())else bif a1.1==5 then(call 123 s_spec_l1In (a1.2.1,0,4,())).bind fun(y49:Y1_6×Unit)=>some ((y49.1.1,()),())else bif a1.1==7 then bif a1.1==7 then(call 123 s_spec_l1In (a1.2.1,0,9,())).bind fun(y50:Y1_6×Unit)=>some ((y50.1.1,()),())else some ((a1.2.1==0,()),())else bif a1.1==9 then(call 123 s_spec_l1In (a1.2.1,0,9,())).bind fun(y51:Y1_6×Unit)=>some ((y51.1.1,()),())else some ((a1.2.1==0,()),())else bif a1.1==1 then(call 238 s_spec_l3Exp (a0,a1.2.2.1,())).bind fun(y52:Y1_6×Unit)=>bif !y52.1.1 then some ((false,()),())else bif a1.1==0 then(call 123 s_spec_l1In (a1.2.1,i64.wrap ((↑(List.length a0.2.1):Int)+(↑(List.length a0.2.2.1):Int)),i64.wrap (i64.wrap (i64.wrap ((↑(List.length a0.2.1):Int)+(↑(List.length a0.2.2.1):Int))+a0.2.2.2.1)-1),())).bind fun(y53:Y1_6×Unit)=>some ((y53.1.1,()),())else bif a1.1==1 then(call 123 s_spec_l1In (a1.2.1,0,i64.wrap ((↑(List.length a0.2.2.2.2.1):Int)-1),())).bind fun(y54:Y1_6×Unit)=>some ((y54.1.1,()),())else bif a1.1==5 then(call 123 s_spec_l1In (a1.2.1,0,4,())).bind fun(y55:Y1_6×Unit)=>some ((y55.1.1,()),())else bif a1.1==7 then bif a1.1==7 then(call 123 s_spec_l1In (a1.2.1,0,9,())).bind fun(y56:Y1_6×Unit)=>some ((y56.1.1,()),())else some ((a1.2.1==0,()),())else bif a1.1==9 then(call 123 s_spec_l1In (a1.2.1,0,9,())).bind fun(y57:Y1_6×Unit)=>some ((y57.1.1,()),())else some ((a1.2.1==0,()),())else bif a1.1==0 then(call 123 s_spec_l1In (a1.2.1,i64.wrap ((↑(List.length a0.2.1):Int)+(↑(List.length a0.2.2.1):Int)),i64.wrap (i64.wrap (i64.wrap ((↑(List.length a0.2.1):Int)+(↑(List.length a0.2.2.1):Int))+a0.2.2.2.1)-1),())).bind fun(y58:Y1_6×Unit)=>some ((y58.1.1,()),())else bif a1.1==1 then(call 123 s_spec_l1In (a1.2.1,0,i64.wrap ((↑(List.length a0.2.2.2.2.1):Int)-1),())).bind fun(y59:Y1_6×Unit)=>some ((y59.1.1,()),())else bif a1.1==5 then(call 123 s_spec_l1In (a1.2.1,0,4,())).bind fun(y60:Y1_6×Unit)=>some ((y60.1.1,()),())else bif a1.1==7 then bif a1.1==7 then(call 123 s_spec_l1In (a1.2.1,0,9,())).bind fun(y61:Y1_6×Unit)=>some ((y61.1.1,()),())else some ((a1.2.1==0,()),())else bif a1.1==9 then(call 123 s_spec_l1In (a1.2.1,0,9,())).bind fun(y62:Y1_6×Unit)=>some ((y62.1.1,()),())else some ((a1.2.1==0,()),())
def F(call:Cl)(k:Nat)(a0:Y1_1)(a1:Y1_2):Option R:=Fm call k a0 a1
theorem F_eq(call:Cl)(k:Nat)(a0:Y1_1)(a1:Y1_2):bodyK E call n_spec_l3Stmt k s_spec_l3Stmt (a0,a1,())=F call k a0 a1:=by kernel_rfl
end spec_l3Stmt
namespace spec_l3Stmts
abbrev R:=((Bool×Unit)×Unit)
def S0(a0:Y1_1)(v0_0:Int):St:=⟨mkS 19 [(1,.p [500001] [] 0),(3,.v tI v0_0)],[([500001],.box (.v tPg ((a0.1),((a0.2.1),((a0.2.2.1),((a0.2.2.2.1),((a0.2.2.2.2.1),((a0.2.2.2.2.2.1),()))))))))]⟩
def step0(call:Cl)(k:Nat)(a0:Y1_1)(r0:(Int)→Option R)(v0_0:Int):Option R:=bif decide (v0_0<(↑a0.2.2.2.2.2.1.length:Int))then bif decide (0≤v0_0)then(lget a0.2.2.2.2.2.1 v0_0.toNat).bind fun(y0:(Int×Int×List (Int×Int×Unit)×List (Int×Int×Unit)×Unit))=>(call 220 s_spec_l3Stmt (a0,y0,())).bind fun(y1:Y1_6×Unit)=>bif !y1.1.1 then some ((false,()),())else r0 (i64.wrap (v0_0+1))else none else some ((true,()),())
def L0(call:Cl)(k:Nat)(a0:Y1_1):Nat→(Int)→Option R|0,_=>none|n+1,v0_0=>step0 call k a0 (L0 call k a0 n) v0_0
def Fm(call:Cl)(k:Nat)(l0:Y1_0→(Int)→Option R)(a0:Y1_1):Option R:=l0 a0 0
def F(call:Cl)(k:Nat)(a0:Y1_1):Option R:=Fm call k (fun a0_ v0_0_=>L0 call k a0_ k v0_0_) a0
theorem L0_eq(call:Cl)(k:Nat)(J:Nat→St→Option R)(a0:Y1_1):∀(n:Nat)(x:(Int)),siteI E call n_spec_l3Stmts k s_spec_l3Stmts (a0,()) J 0 n (S0 a0 x)=L0 call k a0 n x:=by
  refine loop_eq (s:=s_spec_l3Stmts) (fun x=>S0 a0 x) (fun n x=>L0 call k a0 n x) (fun r x=>step0 call k a0 (fun v0_0=>r v0_0) x) (fun _=>rfl) (fun _ _=>rfl) fun J0 x=>?_
  kernel_rfl
theorem F_eq(call:Cl)(k:Nat)(a0:Y1_1):bodyK E call n_spec_l3Stmts k s_spec_l3Stmts (a0,())=F call k a0:=by
  exact Eq.trans (b:=Fm call k (fun a0 v0_0_=>siteI E call n_spec_l3Stmts k s_spec_l3Stmts (a0,()) (fun _ _=>none) 0 k (S0 a0 v0_0_)) a0) (by kernel_rfl) (congrArg (fun l=>Fm call k l a0) (funext fun a0=>funext fun v0_0_=>L0_eq call k (fun _ _=>none) a0 k v0_0_))
end spec_l3Stmts
end Go.Proofs.YtjgfofcgmcnblaaGreat.Pf
namespace Go.Proofs.YtjgfofcgmcnblaaGreat.Pf
open Go Go.Pv
noncomputable def bo(P:Prop):Bool:=@decide P (Classical.propDecidable P)
theorem bo_true(P:Prop):(bo P=true)=P:=by
  unfold bo;exact propext (@decide_eq_true_iff P (Classical.propDecidable P))
theorem bo_false(P:Prop):(bo P=false)=¬P:=by
  unfold bo;exact propext (@decide_eq_false_iff_not P (Classical.propDecidable P))
theorem bo_t {P:Prop}(h:P):bo P=true:=by rw[bo_true];exact h
theorem bo_f {P:Prop}(h:¬P):bo P=false:=by rw[bo_false];exact h
theorem bo_congr {P Q:Prop}(h:P↔Q):bo P=bo Q:=by rw[propext h]
theorem bo_dec {P Q:Prop}[Decidable P](h:P↔Q):decide P=bo Q:=by
  by_cases hp:P
  . rw[decide_eq_true hp,bo_t (h.1 hp)]
  . rw[decide_eq_false hp,bo_f (fun e=>hp (h.2 e))]
theorem bo_beq {a b:Int}{Q:Prop}(h:a=b↔Q):(a==b)=bo Q:=by
  by_cases hp:a=b
  . rw[bo_t (h.1 hp)];exact beq_iff_eq.2 hp
  . rw[bo_f (fun e=>hp (h.2 e))];exact beq_eq_false_iff_ne.2 hp
theorem zs:(∀(p:Prop)[Decidable p],(decide p=true)=p)∧(∀(p:Prop)[Decidable p],(decide p=false)=¬p)∧(∀a b:Int,((a==b)=true)=(a=b))∧(∀a b:Int,((a==b)=false)=¬a=b)∧
    (∀a b:Int,((a !=b)=true)=¬a=b)∧(∀a b:Int,((a !=b)=false)=(a=b))∧(∀a b:Bool,((a&&b)=true)=(a=true∧b=true))∧(∀a b:Bool,((a&&b)=false)=¬(a=true∧b=true))∧
    (∀b:Bool,((!b)=true)=(b=false))∧(∀b:Bool,((!b)=false)=(b=true))∧(∀P,(bo P=true)=P)∧(∀P,(bo P=false)=¬P)∧(∀P:Prop,(¬¬P)=P)∧
    (∀a b:Int,(¬a<b)=(b≤a))∧(∀a b:Int,(¬a≤b)=(b<a))∧(∀a b:Int,(a>b)=(b<a))∧(∀a b:Int,(a≥b)=(b≤a))∧
    (∀(p:Prop)[Decidable p],((true==decide p)=true)=p)∧(∀(p:Prop)[Decidable p],((false==decide p)=true)=¬p)∧(∀(p:Prop)[Decidable p],((true==decide p)=false)=¬p)∧(∀(p:Prop)[Decidable p],((false==decide p)=false)=p):=by
  refine⟨fun p _=>decide_eq_true_eq,fun p _=>propext decide_eq_false_iff_not,fun a b=>propext beq_iff_eq,fun a b=>propext beq_eq_false_iff_ne,fun a b=>propext bne_iff_ne,fun a b=>propext bne_eq_false_iff_eq,
    fun a b=>Bool.and_eq_true a b,fun a b=>?_,fun b=>?_,fun b=>?_,bo_true,bo_false,fun P=>propext ⟨Classical.not_not.1,Classical.not_not.2⟩,fun a b=>propext Int.not_lt,fun a b=>propext Int.not_le,fun a b=>rfl,fun a b=>rfl,fun p _=>?_,fun p _=>?_,fun p _=>?_,fun p _=>?_⟩
  . cases a<;>cases b<;>simp
  . cases b<;>simp
  . cases b<;>simp
  . by_cases h:p<;>simp[h]
  . by_cases h:p<;>simp[h]
  . by_cases h:p<;>simp[h]
  . by_cases h:p<;>simp[h]
theorem lgI {α:Type}{xs:List α}{i:Int}(h0:0≤i:=by omega)(h:i<xs.length:=by omega):lget xs i.toNat=some (xs[i.toNat]'(by omega)):=by
  exact List.getElem?_eq_getElem (by omega)
theorem lg0 {α:Type}{xs:List α}(h:0<xs.length:=by omega):lget xs (Int.toNat 0)=some xs[0]:=List.getElem?_eq_getElem h
theorem zt(n:Nat):Int.toNat (n:Int)=n:=Int.toNat_natCast n
theorem Tq.ba {β:Type}{d g:Nat}{s:Sg}{l:s.A.den}{r:s.R.den}{K:Nat→Nat→s.R.den→Option β}{Q:β→Prop}(h:Ans g s l r)(hK:Tq d (fun k q=>K k q r) Q):Tq d (fun k q=>(cl k g s l).bind (K k q)) Q:=Tq.bind h.tq fun y hy=>by subst hy;exact hK
section
variable {α:Type}{d:Nat}{P:α→Prop}{c:Bool}{a b:Nat→Nat→Option α}
theorem Tq.t(ha:Tq d a P)(h:c=true:=by first|assumption|(simp(disch:=omega)only[zs,w64,zt];first|done|omega)):Tq d (fun k q=>bif c then a k q else b k q) P:=Tq.bt h ha
theorem Tq.u(hb:Tq d b P)(h:c=false:=by first|assumption|(simp(disch:=omega)only[zs,w64,zt];first|done|omega)):Tq d (fun k q=>bif c then a k q else b k q) P:=Tq.bf h hb
end
theorem apb {n:Nat}(h:n≤140737488355328):decide (n≤140737488355328)=true:=decide_eq_true h
def takes(o:Int):Int:=if o=0∨o=1 then 0 else if 2≤o∧o≤4 then 1 else if 5≤o∧o≤16 then 2 else if o=17 then 3 else -1
theorem takes_le(o:Int):takes o≤3:=by unfold takes;split<;>(try split)<;>(try split)<;>(try split)<;>omega
theorem l1In_ans(a b c:Int):Ans n_spec_l1In s_spec_l1In (a,b,c,()) ((bo (b≤a∧a≤c),()),()):=by
  refine Gv.ans (Gv.of (fun k=>spec_l1In.F_eq (cl k) k a b c) ?_);unfold spec_l1In.F spec_l1In.Fm
  repeat'((first|refine .t ?_|refine .u ?_|refine .some lg0 ?_|refine .some lg ?_|refine .some lgI ?_|(refine .bif (fun zz=>?_) (fun zz=>?_)<;>try simp(disch:=omega)only[zs,w64,zt]at zz))<;>try dsimp only)
  . exact Tq.ret (by rw[bo_dec];omega)
  . exact Tq.ret (by rw[bo_f (by omega)])
theorem iTakes_ans(o:Int):Ans n_impl_TakesOf s_impl_TakesOf (o,()) ((takes o,()),()):=by
  refine Gv.ans (Gv.of (fun k=>impl_TakesOf.F_eq (cl k) k o) ?_);unfold impl_TakesOf.F impl_TakesOf.Fm
  repeat'((first|refine .t ?_|refine .u ?_|refine .some lg0 ?_|refine .some lg ?_|refine .some lgI ?_|(refine .bif (fun zz=>?_) (fun zz=>?_)<;>try simp(disch:=omega)only[zs,w64,zt]at zz))<;>try dsimp only)
  all_goals(refine Tq.ret ?_;unfold takes;(repeat' split)<;>first|rfl|omega)
theorem sTakes_ans(o:Int):Ans n_spec_TakesOf s_spec_TakesOf (o,()) ((takes o,()),()):=by
  refine Gv.ans (Gv.of (fun k=>spec_TakesOf.F_eq (cl k) k o) ?_);unfold spec_TakesOf.F spec_TakesOf.Fm;refine Tq.bind (l1In_ans _ _ _).tq ?_;intro y hy;subst hy;dsimp only;by_cases h:0≤o∧o≤17
  . obtain⟨n,rfl⟩:∃n:Nat,o=n:=⟨o.toNat,by omega⟩
    have hn:n≤17:=by omega
    rw[bo_t h];refine Tq.bf rfl (Tq.bt ?_ ?_)
    . exact idx_ok (n:=18) (by omega)
    rw[Int.toNat_natCast];have H:∀m:Fin 18,lget [(0:Int),(0:Int),(1:Int),(1:Int),(1:Int),(2:Int),(2:Int),(2:Int),(2:Int),(2:Int),(2:Int),(2:Int),(2:Int),(2:Int),(2:Int),(2:Int),(2:Int),(3:Int)] m.val=some (takes (m.val:Int)):=by decide
    exact Tq.some (H ⟨n,by omega⟩) (Tq.ret rfl)
  . rw[bo_f h];refine Tq.bt rfl (Tq.ret ?_);unfold takes;(repeat' split)<;>first|rfl|omega
def TmOk(n:Int)(t:Tm):Prop:=0≤takes t.1∧takes t.1≤n∧0≤t.2.1∧t.2.1≤255∧(2<t.1→t.2.1=0)
def okGo:Int→List Tm→Prop
  |n,[]=>n=1
  |n,t::l=>TmOk n t∧okGo (n+(1-takes t.1)) l
def ExpOk(e:List Tm):Prop:=e.length≤3000∧okGo 0 e
theorem okGo_drop {n:Int}{a:List Tm}{j:Nat}(hj:j<a.length):okGo n (a.drop j)↔TmOk n a[j]∧okGo (n+(1-takes a[j].1)) (a.drop (j+1)):=by
  rw[List.drop_eq_getElem_cons hj];rfl
theorem okGo_end {n:Int}{a:List Tm}{j:Nat}(hj:a.length≤j):okGo n (a.drop j)↔n=1:=by
  rw[List.drop_of_length_le hj];rfl
theorem iExpOk_loop(a:List Tm)(ha:a.length≤3000):∀(d j:Nat)(n:Int),a.length-j=d→0≤n→n≤j→
    Tq (d+1) (fun k q=>impl_ExpOk.L0 (cl k) k a q n (j:Int)) (· =((bo (okGo n (a.drop j)),()),())):=by
  intro d
  induction d with
  | zero=>
    intro j n hd h0 hn;refine Tq.succ ?_;show Tq _ (fun k q=>impl_ExpOk.step0 (cl k) k ..) _
    unfold impl_ExpOk.step0
    repeat'((first|refine .t ?_|refine .u ?_|refine .some lg0 ?_|refine .some lg ?_|refine .some lgI ?_|(refine .bif (fun zz=>?_) (fun zz=>?_)<;>try simp(disch:=omega)only[zs,w64,zt]at zz))<;>try dsimp only)
    rw[bo_congr (okGo_end (by omega))];exact Tq.ret (by rw[bo_beq Iff.rfl])
  | succ d ih=>
    intro j n hd h0 hn;have hj:j<a.length:=by omega
    rw[bo_congr (okGo_drop hj)];refine Tq.succ ?_;show Tq _ (fun k q=>impl_ExpOk.step0 (cl k) k ..) _
    unfold impl_ExpOk.step0;have:=takes_le a[j].1
    repeat'((first|refine .ba (iTakes_ans _) ?_|refine .t ?_|refine .u ?_|refine .some lg0 ?_|refine .some lg ?_|refine .some lgI ?_|(refine .bif (fun zz=>?_) (fun zz=>?_)<;>try simp(disch:=omega)only[zs,w64,zt]at zz))<;>try dsimp only)
    all_goals first
      |(refine Tq.ret ?_;rw[bo_f];rintro⟨⟨h1,h2,h3,h4,h5⟩,h6⟩;omega)
      | (simp(disch:=omega)only[w64]
         rw[bo_congr (and_iff_right ⟨by omega,by omega,by omega,by omega,by omega⟩)];exact ih (j+1) _ (by omega) (by omega) (by omega))
theorem iExpOk_ans(e:List Tm)(he:e.length≤1048576):Ans n_impl_ExpOk s_impl_ExpOk (e,()) ((bo (ExpOk e),()),()):=by
  refine Gv.ans (Gv.of (fun k=>impl_ExpOk.F_eq (cl k) k e) ?_);unfold impl_ExpOk.F impl_ExpOk.Fm
  repeat'((first|refine .t ?_|refine .u ?_|refine .some lg0 ?_|refine .some lg ?_|refine .some lgI ?_|(refine .bif (fun zz=>?_) (fun zz=>?_)<;>try simp(disch:=omega)only[zs,w64,zt]at zz))<;>try dsimp only)
  . refine Tq.ret ?_;rw[bo_f];rintro⟨_,h2⟩;obtain rfl:e=[]:=List.length_eq_zero_iff.1 (by omega);exact absurd (show(0:Int)=1 from h2) (by omega)
  . refine Tq.ret ?_;rw[bo_f];rintro⟨h1,h2⟩;omega
  . rw[show ExpOk e=okGo 0 e from propext (and_iff_right (by omega))];exact Tq.diag (iExpOk_loop e (by omega) e.length 0 0 rfl (by omega) (by omega))
theorem sExpOk_loop(a:List Tm)(ha:a.length≤3000):∀(d j:Nat)(n:Int),a.length-j=d→0≤n→n≤j→
    Tq (d+1) (fun k q=>spec_ExpOk.L0 (cl k) k a q n (j:Int)) (· =((bo (okGo n (a.drop j)),()),())):=by
  intro d
  induction d with
  | zero=>
    intro j n hd h0 hn;refine Tq.succ ?_;show Tq _ (fun k q=>spec_ExpOk.step0 (cl k) k ..) _
    unfold spec_ExpOk.step0
    repeat'((first|refine .t ?_|refine .u ?_|refine .some lg0 ?_|refine .some lg ?_|refine .some lgI ?_|(refine .bif (fun zz=>?_) (fun zz=>?_)<;>try simp(disch:=omega)only[zs,w64,zt]at zz))<;>try dsimp only)
    rw[bo_congr (okGo_end (by omega))];exact Tq.ret (by rw[bo_beq Iff.rfl])
  | succ d ih=>
    intro j n hd h0 hn;have hj:j<a.length:=by omega
    rw[bo_congr (okGo_drop hj)];refine Tq.succ ?_;show Tq _ (fun k q=>spec_ExpOk.step0 (cl k) k ..) _
    unfold spec_ExpOk.step0;have:=takes_le a[j].1
    repeat'((first|refine .ba (sTakes_ans _) ?_|refine .ba (l1In_ans _ _ _) ?_|refine .t ?_|refine .u ?_|refine .some lg0 ?_|refine .some lg ?_|refine .some lgI ?_|(refine .bif (fun zz=>?_) (fun zz=>?_)<;>try simp(disch:=omega)only[zs,w64,zt]at zz))<;>try dsimp only)
    all_goals first
      |(refine Tq.ret ?_;rw[bo_f];rintro⟨⟨h1,h2,h3,h4,h5⟩,h6⟩;omega)
      | (simp(disch:=omega)only[w64]
         rw[bo_congr (and_iff_right ⟨by omega,by omega,by omega,by omega,by omega⟩),show n+(1-takes a[j].1)=n-takes a[j].1+1 by omega];exact ih (j+1) _ (by omega) (by omega) (by omega))
theorem sExpOk_ans(e:List Tm)(he:e.length≤1048576):Ans n_spec_ExpOk s_spec_ExpOk (e,()) ((bo (ExpOk e),()),()):=by
  refine Gv.ans (Gv.of (fun k=>spec_ExpOk.F_eq (cl k) k e) ?_);unfold spec_ExpOk.F spec_ExpOk.Fm
  repeat'((first|refine .t ?_|refine .u ?_|refine .some lg0 ?_|refine .some lg ?_|refine .some lgI ?_|(refine .bif (fun zz=>?_) (fun zz=>?_)<;>try simp(disch:=omega)only[zs,w64,zt]at zz))<;>try dsimp only)
  . refine Tq.ret ?_;rw[bo_f];rintro⟨h1,h2⟩;omega
  . rw[show ExpOk e=okGo 0 e from propext (and_iff_right (by omega))];exact Tq.diag (sExpOk_loop e (by omega) e.length 0 0 rfl (by omega) (by omega))
end Go.Proofs.YtjgfofcgmcnblaaGreat.Pf
namespace Go.Proofs.YtjgfofcgmcnblaaGreat.Pf
open Go Go.Pv
theorem all_drop {α:Type}{P:α→Prop}{a:List α}{j:Nat}(hj:j<a.length):(∀x∈a.drop j,P x)↔P a[j]∧∀x∈a.drop (j+1),P x:=by
  rw[List.drop_eq_getElem_cons hj,List.forall_mem_cons]
theorem all_end {α:Type}{P:α→Prop}{a:List α}{j:Nat}(hj:a.length≤j):∀x∈a.drop j,P x:=by
  rw[List.drop_of_length_le hj];intro x hx;cases hx
def bitsF:Nat→Int→Int
  |0,_=>0
  |f+1,n=>if n>0 then 1+bitsF f (n.tdiv 2)else 0
def bits(n:Int):Int:=bitsF 63 n
theorem bitsF_bd:∀(f:Nat)(n:Int),0≤bitsF f n∧bitsF f n≤f
  |0,n=>by unfold bitsF;omega
  | f+1,n=>by
    unfold bitsF;have:=bitsF_bd f (n.tdiv 2);split<;>omega
theorem bits_bd(n:Int):0≤bits n∧bits n≤63:=bitsF_bd 63 n
theorem iBits_loop:∀(f:Nat)(n c:Int),n<2^f→n≤9223372036854775807→0≤c→c+f≤1000→Tq (f+1) (fun k q=>impl_bitsOf.L0 (cl k) k q n c) (· =((c+bitsF f n,()),())):=by
  intro f
  induction f with
  | zero=>
    intro n c hn hm h0 hc;refine Tq.succ ?_;show Tq _ (fun k q=>impl_bitsOf.step0 (cl k) k ..) _
    unfold impl_bitsOf.step0;have:n<1:=hn
    repeat'((first|refine .t ?_|refine .u ?_|refine .some lg0 ?_|refine .some lg ?_|refine .some lgI ?_|(refine .bif (fun zz=>?_) (fun zz=>?_)<;>try simp(disch:=omega)only[zs,w64,zt]at zz))<;>try dsimp only)
    exact Tq.ret (by unfold bitsF;rw[Int.add_zero])
  | succ f ih=>
    intro n c hn hm h0 hc;refine Tq.succ ?_;show Tq _ (fun k q=>impl_bitsOf.step0 (cl k) k ..) _
    unfold impl_bitsOf.step0
    repeat'((first|refine .t ?_|refine .u ?_|refine .some lg0 ?_|refine .some lg ?_|refine .some lgI ?_|(refine .bif (fun zz=>?_) (fun zz=>?_)<;>try simp(disch:=omega)only[zs,w64,zt]at zz))<;>try dsimp only)
    . rw[show bitsF (f+1) n=1+bitsF f (n.tdiv 2) by rw[bitsF];simp[*],←Int.add_assoc,Int.tdiv_eq_ediv_of_nonneg (by omega)];simp(disch:=omega)only[w64];exact ih _ _ (by rw[Int.pow_succ]at hn;omega) (by omega) (by omega) (by omega)
    . refine Tq.ret ?_;rw[show bitsF (f+1) n=0 by rw[bitsF,if_neg (by omega)],Int.add_zero]
theorem iBits_ans(n:Int)(hn:n≤9223372036854775807):Ans n_impl_bitsOf s_impl_bitsOf (n,()) ((bits n,()),()):=by
  refine Gv.ans (Gv.of (fun k=>impl_bitsOf.F_eq (cl k) k n) ?_);unfold impl_bitsOf.F impl_bitsOf.Fm;rw[show bits n=0+bitsF 63 n by unfold bits;omega];exact Tq.diag (iBits_loop 63 n 0 (by omega) hn (by omega) (by omega))
theorem sBits_loop:∀(f:Nat)(n c:Int),n<2^f→n≤9223372036854775807→0≤c→c+f≤1000→Tq (f+1) (fun k q=>spec_l3Bits.L0 (cl k) k q n c) (· =((c+bitsF f n,()),())):=by
  intro f
  induction f with
  | zero=>
    intro n c hn hm h0 hc;refine Tq.succ ?_;show Tq _ (fun k q=>spec_l3Bits.step0 (cl k) k ..) _
    unfold spec_l3Bits.step0;have:n<1:=hn
    repeat'((first|refine .t ?_|refine .u ?_|refine .some lg0 ?_|refine .some lg ?_|refine .some lgI ?_|(refine .bif (fun zz=>?_) (fun zz=>?_)<;>try simp(disch:=omega)only[zs,w64,zt]at zz))<;>try dsimp only)
    exact Tq.ret (by unfold bitsF;rw[Int.add_zero])
  | succ f ih=>
    intro n c hn hm h0 hc;refine Tq.succ ?_;show Tq _ (fun k q=>spec_l3Bits.step0 (cl k) k ..) _
    unfold spec_l3Bits.step0
    repeat'((first|refine .t ?_|refine .u ?_|refine .some lg0 ?_|refine .some lg ?_|refine .some lgI ?_|(refine .bif (fun zz=>?_) (fun zz=>?_)<;>try simp(disch:=omega)only[zs,w64,zt]at zz))<;>try dsimp only)
    . rw[show bitsF (f+1) n=1+bitsF f (n.tdiv 2) by rw[bitsF];simp[*],←Int.add_assoc,Int.tdiv_eq_ediv_of_nonneg (by omega)];simp(disch:=omega)only[w64];exact ih _ _ (by rw[Int.pow_succ]at hn;omega) (by omega) (by omega) (by omega)
    . refine Tq.ret ?_;rw[show bitsF (f+1) n=0 by rw[bitsF,if_neg (by omega)],Int.add_zero]
theorem sBits_ans(n:Int)(hn:n≤9223372036854775807):Ans n_spec_l3Bits s_spec_l3Bits (n,()) ((bits n,()),()):=by
  refine Gv.ans (Gv.of (fun k=>spec_l3Bits.F_eq (cl k) k n) ?_);unfold spec_l3Bits.F spec_l3Bits.Fm;rw[show bits n=0+bitsF 63 n by unfold bits;omega];exact Tq.diag (sBits_loop 63 n 0 (by omega) hn (by omega) (by omega))
def sz(w:Int):Int:=2^w.toNat
theorem w_cases {w:Int}(h:1≤w∧w≤8):w=1∨w=2∨w=3∨w=4∨w=5∨w=6∨w=7∨w=8:=by omega
theorem sz_bd {w:Int}(h:1≤w∧w≤8):2≤sz w∧sz w≤256:=by
  rcases w_cases h with rfl|rfl|rfl|rfl|rfl|rfl|rfl|rfl<;>decide
theorem great_ans(p:Pg)(h:1≤p.1∧p.1≤8):Ans n_impl_greatest s_impl_greatest (p,()) ((sz p.1-1,()),()):=by
  refine Gv.ans (Gv.of (fun k=>impl_greatest.F_eq (cl k) k p) ?_);unfold impl_greatest.F impl_greatest.Fm
  repeat'((first|refine .t ?_|refine .u ?_|refine .some lg0 ?_|refine .some lg ?_|refine .some lgI ?_|(refine .bif (fun zz=>?_) (fun zz=>?_)<;>try simp(disch:=omega)only[zs,w64,zt]at zz))<;>try dsimp only)
  refine Tq.ret ?_;have:IntKind.i64.wrap (shlI IntKind.i64 (1:Int) p.1-(1:Int))=sz p.1-1:=by
    rcases w_cases h with e|e|e|e|e|e|e|e<;>rw[e]<;>decide
  rw[this]
theorem size_loop(p:Pg)(h:1≤p.1∧p.1≤8):∀(d j:Nat),p.1.toNat-j=d→j≤p.1.toNat→
    Tq (d+1) (fun k q=>spec_l3Size.L0 (cl k) k p q ((2:Int)^j) (j:Int)) (· =((sz p.1,()),())):=by
  intro d
  induction d with
  | zero=>
    intro j hd hj;refine Tq.succ ?_;show Tq _ (fun k q=>spec_l3Size.step0 (cl k) k ..) _
    unfold spec_l3Size.step0
    repeat'((first|refine .t ?_|refine .u ?_|refine .some lg0 ?_|refine .some lg ?_|refine .some lgI ?_|(refine .bif (fun zz=>?_) (fun zz=>?_)<;>try simp(disch:=omega)only[zs,w64,zt]at zz))<;>try dsimp only)
    exact Tq.ret (by unfold sz;rw[show j=p.1.toNat by omega])
  | succ d ih=>
    intro j hd hj;refine Tq.succ ?_;show Tq _ (fun k q=>spec_l3Size.step0 (cl k) k ..) _
    unfold spec_l3Size.step0
    repeat'((first|refine .t ?_|refine .u ?_|refine .some lg0 ?_|refine .some lg ?_|refine .some lgI ?_|(refine .bif (fun zz=>?_) (fun zz=>?_)<;>try simp(disch:=omega)only[zs,w64,zt]at zz))<;>try dsimp only)
    have h1:(2:Int)^j≤128:=by
      have:j=0∨j=1∨j=2∨j=3∨j=4∨j=5∨j=6∨j=7:=by omega
      rcases this with rfl|rfl|rfl|rfl|rfl|rfl|rfl|rfl<;>decide
    have h2:(0:Int)<(2:Int)^j:=Int.pow_pos (by omega);simp(disch:=omega)only[w64];rw[←Int.pow_succ];exact ih (j+1) (by omega) (by omega)
theorem size_ans(p:Pg)(h:1≤p.1∧p.1≤8):Ans n_spec_l3Size s_spec_l3Size (p,()) ((sz p.1,()),()):=by
  refine Gv.ans (Gv.of (fun k=>spec_l3Size.F_eq (cl k) k p) ?_);unfold spec_l3Size.F spec_l3Size.Fm;exact Tq.diag (size_loop p h _ 0 rfl (by omega))
def LowOk(w:Int)(x:Ip):Prop:=0≤x.1∧x.1<sz w∧x.2.1=0
def SecOk(w:Int)(x:Ip):Prop:=0≤x.1∧x.1<sz w∧0≤x.2.1∧x.2.1≤99
def sumBits:List Ip→Int
  |[]=>0
  |x::l=>bits x.1+sumBits l
theorem sumBits_drop {a:List Ip}{j:Nat}(hj:j<a.length):sumBits (a.drop j)=bits a[j].1+sumBits (a.drop (j+1)):=by
  rw[List.drop_eq_getElem_cons hj];rfl
theorem sumBits_end {a:List Ip}{j:Nat}(hj:a.length≤j):sumBits (a.drop j)=0:=by
  rw[List.drop_of_length_le hj];rfl
def InsOk(p:Pg):Prop:=(p.2.1.length≤3∧p.2.2.1.length≤3)∧(∀x∈p.2.1,LowOk p.1 x)∧(∀x∈p.2.2.1,SecOk p.1 x)∧sumBits p.2.1+sumBits p.2.2.1≤10
theorem iIn_loop1(p:Pg)(h:1≤p.1∧p.1≤8)(hl:p.2.2.1.length≤3):∀(d j:Nat)(b:Int),p.2.2.1.length-j=d→0≤b→b+64*d≤1000→
    Tq (d+1) (fun k q=>impl_inputRight.L1 (cl k) k p q b (j:Int)) (· =((bo ((∀x∈p.2.2.1.drop j,SecOk p.1 x)∧b+sumBits (p.2.2.1.drop j)≤10),()),())):=by
  have hs:=sz_bd h;intro d
  induction d with
  | zero=>
    intro j b hd h0 hb;refine Tq.succ ?_;show Tq _ (fun k q=>impl_inputRight.step1 (cl k) k ..) _
    unfold impl_inputRight.step1
    repeat'((first|refine .t ?_|refine .u ?_|refine .some lg0 ?_|refine .some lg ?_|refine .some lgI ?_|(refine .bif (fun zz=>?_) (fun zz=>?_)<;>try simp(disch:=omega)only[zs,w64,zt]at zz))<;>try dsimp only)
    rw[sumBits_end (by omega),bo_congr (and_iff_right (all_end (by omega))),Int.add_zero];exact Tq.ret (by rw[bo_dec Iff.rfl])
  | succ d ih=>
    intro j b hd h0 hb;have hj:j<p.2.2.1.length:=by omega
    refine Tq.succ ?_;show Tq _ (fun k q=>impl_inputRight.step1 (cl k) k ..) _
    unfold impl_inputRight.step1;rw[bo_congr (and_congr_left' (all_drop hj)),sumBits_drop hj];have hb2:=bits_bd p.2.2.1[j].1
    repeat'((first|refine .ba (great_ans p h) ?_|refine .ba (iBits_ans _ (by omega)) ?_|refine .t ?_|refine .u ?_|refine .some lg0 ?_|refine .some lg ?_|refine .some lgI ?_|(refine .bif (fun zz=>?_) (fun zz=>?_)<;>try simp(disch:=omega)only[zs,w64,zt]at zz))<;>try dsimp only)
    all_goals first
      |(refine Tq.ret ?_;rw[bo_f];rintro⟨⟨⟨h1,h2,h3,h4⟩,h5⟩,h6⟩;omega)
      | (simp(disch:=omega)only[w64]
         rw[bo_congr (and_congr_left' (and_iff_right ⟨by omega,by omega,by omega,by omega⟩)),←Int.add_assoc];exact ih (j+1) _ (by omega) (by omega) (by omega))
theorem iIn_loop0(p:Pg)(h:1≤p.1∧p.1≤8)(hl0:p.2.1.length≤3)(hl:p.2.2.1.length≤3):∀(d j:Nat)(b:Int),p.2.1.length-j=d→0≤b→b+64*d≤500→
    Tq (d+1) (fun k q=>impl_inputRight.L0 (cl k) k p q b (j:Int)) (· =((bo ((∀x∈p.2.1.drop j,LowOk p.1 x)∧(∀x∈p.2.2.1,SecOk p.1 x)∧b+sumBits (p.2.1.drop j)+sumBits p.2.2.1≤10),()),())):=by
  have hs:=sz_bd h;intro d
  induction d with
  | zero=>
    intro j b hd h0 hb;refine Tq.succ ?_;show Tq _ (fun k q=>impl_inputRight.step0 (cl k) k ..) _
    unfold impl_inputRight.step0
    repeat'((first|refine .t ?_|refine .u ?_|refine .some lg0 ?_|refine .some lg ?_|refine .some lgI ?_|(refine .bif (fun zz=>?_) (fun zz=>?_)<;>try simp(disch:=omega)only[zs,w64,zt]at zz))<;>try dsimp only)
    rw[sumBits_end (by omega),bo_congr (and_iff_right (all_end (by omega))),Int.add_zero];exact Tq.diag (iIn_loop1 p h hl _ 0 b rfl (by omega) (by omega))
  | succ d ih=>
    intro j b hd h0 hb;have hj:j<p.2.1.length:=by omega
    refine Tq.succ ?_;show Tq _ (fun k q=>impl_inputRight.step0 (cl k) k ..) _
    unfold impl_inputRight.step0;rw[bo_congr (and_congr_left' (all_drop hj)),sumBits_drop hj];have hb2:=bits_bd p.2.1[j].1
    repeat'((first|refine .ba (great_ans p h) ?_|refine .ba (iBits_ans _ (by omega)) ?_|refine .t ?_|refine .u ?_|refine .some lg0 ?_|refine .some lg ?_|refine .some lgI ?_|(refine .bif (fun zz=>?_) (fun zz=>?_)<;>try simp(disch:=omega)only[zs,w64,zt]at zz))<;>try dsimp only)
    all_goals first
      |(refine Tq.ret ?_;rw[bo_f];rintro⟨⟨⟨h1,h2,h3⟩,h5⟩,h6⟩;omega)
      | (simp(disch:=omega)only[w64]
         rw[bo_congr (and_congr_left' (and_iff_right ⟨by omega,by omega,by omega⟩)),←Int.add_assoc];exact ih (j+1) _ (by omega) (by omega) (by omega))
theorem iIn_ans(p:Pg)(h:1≤p.1∧p.1≤8):Ans n_impl_inputRight s_impl_inputRight (p,()) ((bo (InsOk p),()),()):=by
  refine Gv.ans (Gv.of (fun k=>impl_inputRight.F_eq (cl k) k p) ?_);unfold impl_inputRight.F impl_inputRight.Fm
  repeat'((first|refine .t ?_|refine .u ?_|refine .some lg0 ?_|refine .some lg ?_|refine .some lgI ?_|(refine .bif (fun zz=>?_) (fun zz=>?_)<;>try simp(disch:=omega)only[zs,w64,zt]at zz))<;>try dsimp only)
  . refine Tq.ret ?_;rw[bo_f];rintro⟨⟨h1,h2⟩,_⟩;omega
  . refine Tq.ret ?_;rw[bo_f];rintro⟨⟨h1,h2⟩,_⟩;omega
  . unfold InsOk;rw[bo_congr (and_iff_right ⟨by omega,by omega⟩),show sumBits p.2.1=0+sumBits p.2.1 by omega];exact Tq.diag (iIn_loop0 p h (by omega) (by omega) _ 0 0 rfl (by omega) (by omega))
def LwOk(low:Bool)(x:Ip):Prop:=low=true→x.2.1=0
theorem sIn_loop(p:Pg)(h:1≤p.1∧p.1≤8)(a:List Ip)(ha:a.length≤1048576)(low:Bool):∀(d j:Nat),a.length-j=d→
    Tq (d+1) (fun k q=>spec_l3Inputs.L0 (cl k) k p a low q (j:Int)) (· =((bo ((∀x∈a.drop j,SecOk p.1 x∧LwOk low x)∧a.length≤3),()),())):=by
  have hs:=sz_bd h;intro d
  induction d with
  | zero=>
    intro j hd;refine Tq.succ ?_;show Tq _ (fun k q=>spec_l3Inputs.step0 (cl k) k ..) _
    unfold spec_l3Inputs.step0
    repeat'((first|refine .t ?_|refine .u ?_|refine .some lg0 ?_|refine .some lg ?_|refine .some lgI ?_|(refine .bif (fun zz=>?_) (fun zz=>?_)<;>try simp(disch:=omega)only[zs,w64,zt]at zz))<;>try dsimp only)
    rw[bo_congr (and_iff_right (all_end (by omega)))];exact Tq.ret (by rw[bo_dec (Q:=a.length≤3) (by omega)])
  | succ d ih=>
    intro j hd;have hj:j<a.length:=by omega
    refine Tq.succ ?_;show Tq _ (fun k q=>spec_l3Inputs.step0 (cl k) k ..) _
    unfold spec_l3Inputs.step0;rw[bo_congr (and_congr_left' (all_drop hj))];cases low
    all_goals repeat'((first|refine .ba (size_ans p h) ?_|refine .ba (l1In_ans _ _ _) ?_|refine .t ?_|refine .u ?_|refine .some lg0 ?_|refine .some lg ?_|refine .some lgI ?_|(refine .bif (fun zz=>?_) (fun zz=>?_)<;>try simp(disch:=omega)only[zs,w64,zt]at zz))<;>try dsimp only)
    all_goals first
      |(refine Tq.ret ?_;rw[bo_f];rintro⟨⟨⟨⟨h1,h2,h3,h4⟩,h6⟩,h5⟩,h7⟩;first|omega|exact absurd (h6 rfl) (by omega))
      | (simp(disch:=omega)only[w64]
         rw[bo_congr (and_congr_left' (and_iff_right ⟨⟨by omega,by omega,by omega,by omega⟩,fun e=>by first|omega|exact absurd e (by decide)⟩))];exact ih (j+1) (by omega))
theorem sIn_ans(p:Pg)(h:1≤p.1∧p.1≤8)(a:List Ip)(ha:a.length≤1048576)(low:Bool):Ans n_spec_l3Inputs s_spec_l3Inputs (p,a,low,()) ((bo ((∀x∈a,SecOk p.1 x∧LwOk low x)∧a.length≤3),()),()):=by
  refine Gv.ans (Gv.of (fun k=>spec_l3Inputs.F_eq (cl k) k p a low) ?_);unfold spec_l3Inputs.F spec_l3Inputs.Fm;exact Tq.diag (sIn_loop p h a ha low _ 0 rfl)
theorem sAll_loop1(p:Pg)(hv:∀x∈p.2.2.1,x.1≤9223372036854775807)(hl:p.2.2.1.length≤3):∀(d j:Nat)(b:Int),p.2.2.1.length-j=d→0≤b→b+64*d≤1000→
    Tq (d+1) (fun k q=>spec_l3AllBits.L1 (cl k) k p q b (j:Int)) (· =((b+sumBits (p.2.2.1.drop j),()),())):=by
  intro d
  induction d with
  | zero=>
    intro j b hd h0 hb;refine Tq.succ ?_;show Tq _ (fun k q=>spec_l3AllBits.step1 (cl k) k ..) _
    unfold spec_l3AllBits.step1
    repeat'((first|refine .t ?_|refine .u ?_|refine .some lg0 ?_|refine .some lg ?_|refine .some lgI ?_|(refine .bif (fun zz=>?_) (fun zz=>?_)<;>try simp(disch:=omega)only[zs,w64,zt]at zz))<;>try dsimp only)
    rw[sumBits_end (by omega),Int.add_zero];exact Tq.ret rfl
  | succ d ih=>
    intro j b hd h0 hb;have hj:j<p.2.2.1.length:=by omega
    refine Tq.succ ?_;show Tq _ (fun k q=>spec_l3AllBits.step1 (cl k) k ..) _
    unfold spec_l3AllBits.step1;rw[sumBits_drop hj];have hb2:=bits_bd p.2.2.1[j].1;have hv2:=hv _ (List.getElem_mem hj)
    repeat'((first|refine .ba (sBits_ans _ (by omega)) ?_|refine .t ?_|refine .u ?_|refine .some lg0 ?_|refine .some lg ?_|refine .some lgI ?_|(refine .bif (fun zz=>?_) (fun zz=>?_)<;>try simp(disch:=omega)only[zs,w64,zt]at zz))<;>try dsimp only)
    simp(disch:=omega)only[w64];rw[←Int.add_assoc];exact ih (j+1) _ (by omega) (by omega) (by omega)
theorem sAll_loop0(p:Pg)(hv0:∀x∈p.2.1,x.1≤9223372036854775807)(hv:∀x∈p.2.2.1,x.1≤9223372036854775807)(hl0:p.2.1.length≤3)(hl:p.2.2.1.length≤3):∀(d j:Nat)(b:Int),p.2.1.length-j=d→0≤b→b+64*d≤500→
    Tq (d+1) (fun k q=>spec_l3AllBits.L0 (cl k) k p q b (j:Int)) (· =((b+sumBits (p.2.1.drop j)+sumBits p.2.2.1,()),())):=by
  intro d
  induction d with
  | zero=>
    intro j b hd h0 hb;refine Tq.succ ?_;show Tq _ (fun k q=>spec_l3AllBits.step0 (cl k) k ..) _
    unfold spec_l3AllBits.step0
    repeat'((first|refine .t ?_|refine .u ?_|refine .some lg0 ?_|refine .some lg ?_|refine .some lgI ?_|(refine .bif (fun zz=>?_) (fun zz=>?_)<;>try simp(disch:=omega)only[zs,w64,zt]at zz))<;>try dsimp only)
    rw[sumBits_end (by omega),Int.add_zero];exact Tq.diag (sAll_loop1 p hv hl _ 0 b rfl (by omega) (by omega))
  | succ d ih=>
    intro j b hd h0 hb;have hj:j<p.2.1.length:=by omega
    refine Tq.succ ?_;show Tq _ (fun k q=>spec_l3AllBits.step0 (cl k) k ..) _
    unfold spec_l3AllBits.step0;rw[sumBits_drop hj];have hb2:=bits_bd p.2.1[j].1;have hv2:=hv0 _ (List.getElem_mem hj)
    repeat'((first|refine .ba (sBits_ans _ (by omega)) ?_|refine .t ?_|refine .u ?_|refine .some lg0 ?_|refine .some lg ?_|refine .some lgI ?_|(refine .bif (fun zz=>?_) (fun zz=>?_)<;>try simp(disch:=omega)only[zs,w64,zt]at zz))<;>try dsimp only)
    simp(disch:=omega)only[w64];rw[←Int.add_assoc];exact ih (j+1) _ (by omega) (by omega) (by omega)
theorem sAll_ans(p:Pg)(hv0:∀x∈p.2.1,x.1≤9223372036854775807)(hv:∀x∈p.2.2.1,x.1≤9223372036854775807)(hl0:p.2.1.length≤3)(hl:p.2.2.1.length≤3):Ans n_spec_l3AllBits s_spec_l3AllBits (p,()) ((sumBits p.2.1+sumBits p.2.2.1,()),()):=by
  refine Gv.ans (Gv.of (fun k=>spec_l3AllBits.F_eq (cl k) k p) ?_);unfold spec_l3AllBits.F spec_l3AllBits.Fm;rw[show sumBits p.2.1=0+sumBits p.2.1 by omega];exact Tq.diag (sAll_loop0 p hv0 hv hl0 hl _ 0 0 rfl (by omega) (by omega))
def RoomOk(p:Pg):Prop:=(0≤p.2.2.2.1∧p.2.2.2.1≤6∧p.2.2.2.2.1.length≤2∧p.2.2.2.2.2.1.length≤40)∧∀n∈p.2.2.2.2.1,1≤n∧n≤6
theorem iRoom_loop(p:Pg)(hl:p.2.2.2.2.1.length≤2):∀(d j:Nat),p.2.2.2.2.1.length-j=d→
    Tq (d+1) (fun k q=>impl_roomRight.L0 (cl k) k p q (j:Int)) (· =((bo (∀n∈p.2.2.2.2.1.drop j,1≤n∧n≤6),()),())):=by
  intro d
  induction d with
  | zero=>
    intro j hd;refine Tq.succ ?_;show Tq _ (fun k q=>impl_roomRight.step0 (cl k) k ..) _
    unfold impl_roomRight.step0
    repeat'((first|refine .t ?_|refine .u ?_|refine .some lg0 ?_|refine .some lg ?_|refine .some lgI ?_|(refine .bif (fun zz=>?_) (fun zz=>?_)<;>try simp(disch:=omega)only[zs,w64,zt]at zz))<;>try dsimp only)
    rw[bo_t (all_end (by omega))];exact Tq.ret rfl
  | succ d ih=>
    intro j hd;have hj:j<p.2.2.2.2.1.length:=by omega
    refine Tq.succ ?_;show Tq _ (fun k q=>impl_roomRight.step0 (cl k) k ..) _
    unfold impl_roomRight.step0;rw[bo_congr (all_drop hj)]
    repeat'((first|refine .t ?_|refine .u ?_|refine .some lg0 ?_|refine .some lg ?_|refine .some lgI ?_|(refine .bif (fun zz=>?_) (fun zz=>?_)<;>try simp(disch:=omega)only[zs,w64,zt]at zz))<;>try dsimp only)
    all_goals first
      |(refine Tq.ret ?_;rw[bo_f];rintro⟨⟨h1,h2⟩,h3⟩;omega)
      | (simp(disch:=omega)only[w64]
         rw[bo_congr (and_iff_right ⟨by omega,by omega⟩)];exact ih (j+1) (by omega))
theorem iRoom_ans(p:Pg):Ans n_impl_roomRight s_impl_roomRight (p,()) ((bo (RoomOk p),()),()):=by
  refine Gv.ans (Gv.of (fun k=>impl_roomRight.F_eq (cl k) k p) ?_);unfold impl_roomRight.F impl_roomRight.Fm
  repeat'((first|refine .t ?_|refine .u ?_|refine .some lg0 ?_|refine .some lg ?_|refine .some lgI ?_|(refine .bif (fun zz=>?_) (fun zz=>?_)<;>try simp(disch:=omega)only[zs,w64,zt]at zz))<;>try dsimp only)
  all_goals first
    |(refine Tq.ret ?_;rw[bo_f];rintro⟨⟨h1,h2,h3,h4⟩,h5⟩;omega)
    | (unfold RoomOk
       rw[bo_congr (and_iff_right ⟨by omega,by omega,by omega,by omega⟩)];exact Tq.diag (iRoom_loop p (by omega) _ 0 rfl))
theorem sRoom_loop(p:Pg)(hl:p.2.2.2.2.1.length≤2):∀(d j:Nat),p.2.2.2.2.1.length-j=d→
    Tq (d+1) (fun k q=>spec_l3Room.L0 (cl k) k p q (j:Int)) (· =((bo (∀n∈p.2.2.2.2.1.drop j,1≤n∧n≤6),()),())):=by
  intro d
  induction d with
  | zero=>
    intro j hd;refine Tq.succ ?_;show Tq _ (fun k q=>spec_l3Room.step0 (cl k) k ..) _
    unfold spec_l3Room.step0
    repeat'((first|refine .t ?_|refine .u ?_|refine .some lg0 ?_|refine .some lg ?_|refine .some lgI ?_|(refine .bif (fun zz=>?_) (fun zz=>?_)<;>try simp(disch:=omega)only[zs,w64,zt]at zz))<;>try dsimp only)
    rw[bo_t (all_end (by omega))];exact Tq.ret rfl
  | succ d ih=>
    intro j hd;have hj:j<p.2.2.2.2.1.length:=by omega
    refine Tq.succ ?_;show Tq _ (fun k q=>spec_l3Room.step0 (cl k) k ..) _
    unfold spec_l3Room.step0;rw[bo_congr (all_drop hj)]
    repeat'((first|refine .ba (l1In_ans _ _ _) ?_|refine .t ?_|refine .u ?_|refine .some lg0 ?_|refine .some lg ?_|refine .some lgI ?_|(refine .bif (fun zz=>?_) (fun zz=>?_)<;>try simp(disch:=omega)only[zs,w64,zt]at zz))<;>try dsimp only)
    all_goals first
      |(refine Tq.ret ?_;rw[bo_f];rintro⟨⟨h1,h2⟩,h3⟩;omega)
      | (simp(disch:=omega)only[w64]
         rw[bo_congr (and_iff_right ⟨by omega,by omega⟩)];exact ih (j+1) (by omega))
theorem sRoom_ans(p:Pg):Ans n_spec_l3Room s_spec_l3Room (p,()) ((bo (RoomOk p),()),()):=by
  refine Gv.ans (Gv.of (fun k=>spec_l3Room.F_eq (cl k) k p) ?_);unfold spec_l3Room.F spec_l3Room.Fm
  repeat'((first|refine .ba (l1In_ans _ _ _) ?_|refine .t ?_|refine .u ?_|refine .some lg0 ?_|refine .some lg ?_|refine .some lgI ?_|(refine .bif (fun zz=>?_) (fun zz=>?_)<;>try simp(disch:=omega)only[zs,w64,zt]at zz))<;>try dsimp only)
  all_goals first
    |(refine Tq.ret ?_;rw[bo_f];rintro⟨⟨h1,h2,h3,h4⟩,h5⟩;omega)
    | (unfold RoomOk
       rw[bo_congr (and_iff_right ⟨by omega,by omega,by omega,by omega⟩)];exact Tq.diag (sRoom_loop p (by omega) _ 0 rfl))
end Go.Proofs.YtjgfofcgmcnblaaGreat.Pf
namespace Go.Proofs.YtjgfofcgmcnblaaGreat.Pf
open Go Go.Pv
def Ins(p:Pg):Int:=(p.2.1.length:Int)+(p.2.2.1.length:Int)
def Vrs(p:Pg):Int:=(p.2.1.length:Int)+(p.2.2.1.length:Int)+p.2.2.2.1
structure Hd (p:Pg):Prop where
  w:1≤p.1∧p.1≤8
  i:InsOk p
  r:RoomOk p
theorem Hd.b {p:Pg}(h:Hd p):(p.2.1.length≤3∧p.2.2.1.length≤3)∧(0≤p.2.2.2.1∧p.2.2.2.1≤6)∧p.2.2.2.2.1.length≤2∧p.2.2.2.2.2.1.length≤40∧2≤sz p.1∧sz p.1≤256:=by
  obtain⟨h1,⟨h2,h3⟩,⟨h4,h5⟩⟩:=h;have:=sz_bd h1;exact⟨h2,⟨h4.1,h4.2.1⟩,h4.2.2.1,h4.2.2.2,this⟩
theorem ins_ans(p:Pg)(h:Hd p):Ans n_impl_inputsOf s_impl_inputsOf (p,()) ((Ins p,()),()):=by
  have hb:=h.b;refine Gv.ans (Gv.of (fun k=>impl_inputsOf.F_eq (cl k) k p) ?_);unfold impl_inputsOf.F impl_inputsOf.Fm;rw[w64 (by omega) (by omega)];exact Tq.ret rfl
theorem vars_ans(p:Pg)(h:Hd p):Ans n_impl_varsOf s_impl_varsOf (p,()) ((Vrs p,()),()):=by
  have hb:=h.b;refine Gv.ans (Gv.of (fun k=>impl_varsOf.F_eq (cl k) k p) ?_);unfold impl_varsOf.F impl_varsOf.Fm
  repeat'((first|refine .ba (ins_ans p h) ?_|refine .t ?_|refine .u ?_|refine .some lg0 ?_|refine .some lg ?_|refine .some lgI ?_|(refine .bif (fun zz=>?_) (fun zz=>?_)<;>try simp(disch:=omega)only[zs,w64,zt]at zz))<;>try dsimp only)
  unfold Ins;rw[w64 (by omega) (by omega)];exact Tq.ret rfl
theorem l3Vars_ans(p:Pg)(h:Hd p):Ans n_spec_l3Vars s_spec_l3Vars (p,()) ((Vrs p,()),()):=by
  have hb:=h.b;refine Gv.ans (Gv.of (fun k=>spec_l3Vars.F_eq (cl k) k p) ?_);unfold spec_l3Vars.F spec_l3Vars.Fm;simp(disch:=omega)only[w64];exact Tq.ret rfl
def NmOk(p:Pg)(t:Tm):Prop:=(t.1=0→t.2.1<sz p.1)∧(t.1=1→t.2.1<Vrs p)∧(t.1=2→t.2.1<p.2.2.2.2.1.length)
def Names(p:Pg)(e:List Tm):Prop:=ExpOk e∧∀t∈e,NmOk p t
theorem iNames_loop(p:Pg)(h:Hd p)(a:List Tm)(ha:a.length≤3000):∀(d j:Nat),a.length-j=d→
    Tq (d+1) (fun k q=>impl_reckonable.L0 (cl k) k p a q (j:Int)) (· =((bo (∀t∈a.drop j,NmOk p t),()),())):=by
  have hb:=h.b;intro d
  induction d with
  | zero=>
    intro j hd;refine Tq.succ ?_;show Tq _ (fun k q=>impl_reckonable.step0 (cl k) k ..) _
    unfold impl_reckonable.step0
    repeat'((first|refine .t ?_|refine .u ?_|refine .some lg0 ?_|refine .some lg ?_|refine .some lgI ?_|(refine .bif (fun zz=>?_) (fun zz=>?_)<;>try simp(disch:=omega)only[zs,w64,zt]at zz))<;>try dsimp only)
    rw[bo_t (all_end (by omega))];exact Tq.ret rfl
  | succ d ih=>
    intro j hd;have hj:j<a.length:=by omega
    refine Tq.succ ?_;show Tq _ (fun k q=>impl_reckonable.step0 (cl k) k ..) _
    unfold impl_reckonable.step0;rw[bo_congr (all_drop hj)]
    repeat'((first|refine .ba (great_ans p h.w) ?_|refine .ba (vars_ans p h) ?_|refine .t ?_|refine .u ?_|refine .some lg0 ?_|refine .some lg ?_|refine .some lgI ?_|(refine .bif (fun zz=>?_) (fun zz=>?_)<;>try simp(disch:=omega)only[zs,w64,zt]at zz))<;>try dsimp only)
    all_goals first
      |(refine Tq.ret ?_;rw[bo_f];rintro⟨⟨h1,h2,h3⟩,h4⟩;first|exact absurd (h1 ‹_›) (by omega)|exact absurd (h2 ‹_›) (by omega)|exact absurd (h3 ‹_›) (by omega))
      | (simp(disch:=omega)only[w64]
         rw[bo_congr (and_iff_right ⟨by omega,by omega,by omega⟩)];exact ih (j+1) (by omega))
theorem iNames_ans(p:Pg)(h:Hd p)(a:List Tm)(ha:a.length≤1048576):Ans n_impl_reckonable s_impl_reckonable (p,a,()) ((bo (Names p a),()),()):=by
  refine Gv.ans (Gv.of (fun k=>impl_reckonable.F_eq (cl k) k p a) ?_);unfold impl_reckonable.F impl_reckonable.Fm
  repeat'((first|refine .ba (iExpOk_ans a ha) ?_|refine .t ?_|refine .u ?_|refine .some lg0 ?_|refine .some lg ?_|refine .some lgI ?_|(refine .bif (fun zz=>?_) (fun zz=>?_)<;>try simp(disch:=omega)only[zs,w64,zt]at zz))<;>try dsimp only)
  . exact Tq.ret (by rw[bo_f (P:=Names p a) (fun h=>absurd h.1 (by assumption))])
  . have hx:ExpOk a:=by assumption
    unfold Names;rw[bo_congr (and_iff_right hx)];exact Tq.diag (iNames_loop p h a hx.1 _ 0 rfl)
theorem sNames_loop(p:Pg)(h:Hd p)(a:List Tm)(ha:a.length≤3000):∀(d j:Nat),a.length-j=d→
    Tq (d+1) (fun k q=>spec_l3Names.L0 (cl k) k p a q (j:Int)) (· =((bo (∀t∈a.drop j,NmOk p t),()),())):=by
  have hb:=h.b;intro d
  induction d with
  | zero=>
    intro j hd;refine Tq.succ ?_;show Tq _ (fun k q=>spec_l3Names.step0 (cl k) k ..) _
    unfold spec_l3Names.step0
    repeat'((first|refine .t ?_|refine .u ?_|refine .some lg0 ?_|refine .some lg ?_|refine .some lgI ?_|(refine .bif (fun zz=>?_) (fun zz=>?_)<;>try simp(disch:=omega)only[zs,w64,zt]at zz))<;>try dsimp only)
    rw[bo_t (all_end (by omega))];exact Tq.ret rfl
  | succ d ih=>
    intro j hd;have hj:j<a.length:=by omega
    refine Tq.succ ?_;show Tq _ (fun k q=>spec_l3Names.step0 (cl k) k ..) _
    unfold spec_l3Names.step0;rw[bo_congr (all_drop hj)]
    repeat'((first|refine .ba (size_ans p h.w) ?_|refine .ba (l3Vars_ans p h) ?_|refine .t ?_|refine .u ?_|refine .some lg0 ?_|refine .some lg ?_|refine .some lgI ?_|(refine .bif (fun zz=>?_) (fun zz=>?_)<;>try simp(disch:=omega)only[zs,w64,zt]at zz))<;>try dsimp only)
    all_goals first
      |(refine Tq.ret ?_;rw[bo_f];rintro⟨⟨h1,h2,h3⟩,h4⟩;first|exact absurd (h1 ‹_›) (by omega)|exact absurd (h2 ‹_›) (by omega)|exact absurd (h3 ‹_›) (by omega))
      | (simp(disch:=omega)only[w64]
         rw[bo_congr (and_iff_right ⟨by omega,by omega,by omega⟩)];exact ih (j+1) (by omega))
theorem sNames_ans(p:Pg)(h:Hd p)(a:List Tm)(ha:a.length≤1048576):Ans n_spec_l3Names s_spec_l3Names (p,a,()) ((bo (Names p a),()),()):=by
  refine Gv.ans (Gv.of (fun k=>spec_l3Names.F_eq (cl k) k p a) ?_);unfold spec_l3Names.F spec_l3Names.Fm
  repeat'((first|refine .ba (sExpOk_ans a ha) ?_|refine .t ?_|refine .u ?_|refine .some lg0 ?_|refine .some lg ?_|refine .some lgI ?_|(refine .bif (fun zz=>?_) (fun zz=>?_)<;>try simp(disch:=omega)only[zs,w64,zt]at zz))<;>try dsimp only)
  . exact Tq.ret (by rw[bo_f (P:=Names p a) (fun h=>absurd h.1 (by assumption))])
  . have hx:ExpOk a:=by assumption
    unfold Names;rw[bo_congr (and_iff_right hx)];exact Tq.diag (sNames_loop p h a hx.1 _ 0 rfl)
def Stand(p:Pg)(e:List Tm):Prop:=e.length≤40∧Names p e∧∀t∈e,t.1≠17
theorem Stand.pos {p:Pg}{e:List Tm}(h:Stand p e):0<e.length:=by
  rcases e with _|⟨a,l⟩
  . exact absurd (show(0:Int)=1 from h.2.1.1.2) (by omega)
  . exact Nat.succ_pos _
theorem iStand_loop(a:List Tm)(ha:a.length≤3000):∀(d j:Nat),a.length-j=d→
    Tq (d+1) (fun k q=>impl_mayStand.L0 (cl k) k a q (j:Int)) (· =((bo (∀t∈a.drop j,t.1≠17),()),())):=by
  intro d
  induction d with
  | zero=>
    intro j hd;refine Tq.succ ?_;show Tq _ (fun k q=>impl_mayStand.step0 (cl k) k ..) _
    unfold impl_mayStand.step0
    repeat'((first|refine .t ?_|refine .u ?_|refine .some lg0 ?_|refine .some lg ?_|refine .some lgI ?_|(refine .bif (fun zz=>?_) (fun zz=>?_)<;>try simp(disch:=omega)only[zs,w64,zt]at zz))<;>try dsimp only)
    rw[bo_t (all_end (P:=fun t:Tm=>t.1≠17) (by omega))];exact Tq.ret rfl
  | succ d ih=>
    intro j hd;have hj:j<a.length:=by omega
    refine Tq.succ ?_;show Tq _ (fun k q=>impl_mayStand.step0 (cl k) k ..) _
    unfold impl_mayStand.step0;rw[bo_congr (all_drop (P:=fun t:Tm=>t.1≠17) hj)]
    repeat'((first|refine .t ?_|refine .u ?_|refine .some lg0 ?_|refine .some lg ?_|refine .some lgI ?_|(refine .bif (fun zz=>?_) (fun zz=>?_)<;>try simp(disch:=omega)only[zs,w64,zt]at zz))<;>try dsimp only)
    . refine Tq.ret ?_;rw[bo_f];exact fun h=>absurd ‹_› h.1
    . simp(disch:=omega)only[w64];rw[bo_congr (and_iff_right (by assumption))];exact ih (j+1) (by omega)
theorem iStand_ans(p:Pg)(h:Hd p)(a:List Tm)(ha:a.length≤1048576):Ans n_impl_mayStand s_impl_mayStand (p,a,()) ((bo (Stand p a),()),()):=by
  refine Gv.ans (Gv.of (fun k=>impl_mayStand.F_eq (cl k) k p a) ?_);unfold impl_mayStand.F impl_mayStand.Fm
  repeat'((first|refine .ba (iNames_ans p h a ha) ?_|refine .t ?_|refine .u ?_|refine .some lg0 ?_|refine .some lg ?_|refine .some lgI ?_|(refine .bif (fun zz=>?_) (fun zz=>?_)<;>try simp(disch:=omega)only[zs,w64,zt]at zz))<;>try dsimp only)
  . refine Tq.ret ?_;rw[bo_f (P:=Stand p a)];exact fun h=>absurd h.1 (by omega)
  . refine Tq.ret ?_;rw[bo_f (P:=Stand p a)];exact fun h=>absurd h.2.1 (by assumption)
  . unfold Stand;rw[bo_congr (and_iff_right (by omega)),bo_congr (and_iff_right (by assumption))];exact Tq.diag (iStand_loop a (by omega) _ 0 rfl)
theorem sStand_loop(p:Pg)(h:Hd p)(a:List Tm)(ha:a.length≤1048576):∀(d j:Nat),a.length-j=d→
    Tq (d+1) (fun k q=>spec_l3Exp.L0 (cl k) k p a q (j:Int)) (· =((bo ((∀t∈a.drop j,t.1≠17)∧a.length≤40∧Names p a),()),())):=by
  intro d
  induction d with
  | zero=>
    intro j hd;refine Tq.succ ?_;show Tq _ (fun k q=>spec_l3Exp.step0 (cl k) k ..) _
    unfold spec_l3Exp.step0;rw[bo_congr (and_iff_right (all_end (P:=fun t:Tm=>t.1≠17) (by omega)))]
    repeat'((first|refine .ba (sNames_ans p h a ha) ?_|refine .t ?_|refine .u ?_|refine .some lg0 ?_|refine .some lg ?_|refine .some lgI ?_|(refine .bif (fun zz=>?_) (fun zz=>?_)<;>try simp(disch:=omega)only[zs,w64,zt]at zz))<;>try dsimp only)
    . rw[bo_congr (and_iff_right (by omega))];exact Tq.ret rfl
    . refine Tq.ret ?_;rw[bo_f (P:=a.length≤40∧_)];exact fun h=>absurd h.1 (by omega)
  | succ d ih=>
    intro j hd;have hj:j<a.length:=by omega
    refine Tq.succ ?_;show Tq _ (fun k q=>spec_l3Exp.step0 (cl k) k ..) _
    unfold spec_l3Exp.step0;rw[bo_congr (and_congr_left' (all_drop (P:=fun t:Tm=>t.1≠17) hj))]
    repeat'((first|refine .t ?_|refine .u ?_|refine .some lg0 ?_|refine .some lg ?_|refine .some lgI ?_|(refine .bif (fun zz=>?_) (fun zz=>?_)<;>try simp(disch:=omega)only[zs,w64,zt]at zz))<;>try dsimp only)
    . refine Tq.ret ?_;rw[bo_f];exact fun h=>absurd ‹_› h.1.1
    . simp(disch:=omega)only[w64];rw[bo_congr (and_congr_left' (and_iff_right (by assumption)))];exact ih (j+1) (by omega)
theorem sStand_ans(p:Pg)(h:Hd p)(a:List Tm)(ha:a.length≤1048576):Ans n_spec_l3Exp s_spec_l3Exp (p,a,()) ((bo (Stand p a),()),()):=by
  refine Gv.ans (Gv.of (fun k=>spec_l3Exp.F_eq (cl k) k p a) ?_);unfold spec_l3Exp.F spec_l3Exp.Fm;rw[bo_congr (P:=Stand p a) (Q:=(∀t∈a,t.1≠17)∧a.length≤40∧Names p a) ⟨fun h=>⟨h.2.2,h.1,h.2.1⟩,fun h=>⟨h.2.1,h.2.2,h.1⟩⟩];exact Tq.diag (sStand_loop p h a ha _ 0 rfl)
def Has(p:Pg)(e:List Tm)(should:Prop):Prop:=(should→Stand p e)∧(¬should→e.length=0)
def NOk(p:Pg)(o n:Int):Prop:=
  (o=0→Ins p≤n∧n≤Vrs p-1)∧(o=1→0≤n∧n≤(p.2.2.2.2.1.length:Int)-1)∧(o=5→0≤n∧n≤4)∧(o=7∨o=9→0≤n∧n≤9)∧(o=2∨o=3∨o=4∨o=6∨o=8→n=0)
def StOk(p:Pg)(s:Sm):Prop:=(0≤s.1∧s.1≤9)∧NOk p s.1 s.2.1∧Has p s.2.2.1 (s.1=1)∧Has p s.2.2.2.1 (s.1=0∨s.1=1∨s.1=2∨s.1=6)
theorem holds_t(p:Pg)(h:Hd p)(a:List Tm)(ha:a.length≤1048576):Ans n_impl_holdsPlace s_impl_holdsPlace (p,a,true,()) ((bo (Stand p a),()),()):=by
  refine Gv.ans (Gv.of (fun k=>impl_holdsPlace.F_eq (cl k) k p a true) ?_);unfold impl_holdsPlace.F impl_holdsPlace.Fm
  repeat'((first|refine .ba (iStand_ans p h a ha) ?_|refine .t ?_|refine .u ?_|refine .some lg0 ?_|refine .some lg ?_|refine .some lgI ?_|(refine .bif (fun zz=>?_) (fun zz=>?_)<;>try simp(disch:=omega)only[zs,w64,zt]at zz))<;>try dsimp only)
  exact Tq.ret rfl
theorem holds_f(p:Pg)(h:Hd p)(a:List Tm)(ha:a.length≤1048576):Ans n_impl_holdsPlace s_impl_holdsPlace (p,a,false,()) ((bo (a.length=0),()),()):=by
  refine Gv.ans (Gv.of (fun k=>impl_holdsPlace.F_eq (cl k) k p a false) ?_);unfold impl_holdsPlace.F impl_holdsPlace.Fm
  repeat'((first|refine .ba (iStand_ans p h a ha) ?_|refine .t ?_|refine .u ?_|refine .some lg0 ?_|refine .some lg ?_|refine .some lgI ?_|(refine .bif (fun zz=>?_) (fun zz=>?_)<;>try simp(disch:=omega)only[zs,w64,zt]at zz))<;>try dsimp only)
  exact Tq.ret (by rw[bo_beq (Q:=a.length=0) (by omega)])
theorem iStmt_ans(p:Pg)(h:Hd p)(s:Sm)(h1:s.2.2.1.length≤1048576)(h2:s.2.2.2.1.length≤1048576):Ans n_impl_stmtRight s_impl_stmtRight (p,s,()) ((bo (StOk p s),()),()):=by
  have hb:=h.b;have hv:Vrs p=(p.2.1.length:Int)+(p.2.2.1.length:Int)+p.2.2.2.1:=rfl;have hi:Ins p=(p.2.1.length:Int)+(p.2.2.1.length:Int):=rfl;refine Gv.ans (Gv.of (fun k=>impl_stmtRight.F_eq (cl k) k p s) ?_);unfold impl_stmtRight.F impl_stmtRight.Fm
  repeat'((first|refine .ba (ins_ans p h) ?_|refine .ba (vars_ans p h) ?_|refine .ba (holds_t p h _ h1) ?_|refine .ba (holds_t p h _ h2) ?_|refine .ba (holds_f p h _ h1) ?_|refine .ba (holds_f p h _ h2) ?_|refine .t ?_|refine .u ?_|refine .some lg0 ?_|refine .some lg ?_|refine .some lgI ?_|(refine .bif (fun zz=>?_) (fun zz=>?_)<;>try simp(disch:=omega)only[zs,w64,zt]at zz))<;>try dsimp only)
  all_goals refine Tq.ret ?_
  all_goals first
    |(rw[bo_f];rintro⟨h3,⟨h4,h5,h6,h7,h8⟩,⟨h9,h10⟩,h11⟩;omega)
    |(rw[bo_f];rintro⟨h3,h4,⟨h9,h10⟩,h11⟩;exact absurd (h9 (by omega)) (by assumption))
    | (rw[bo_congr];constructor
       . intro h3;exact⟨by omega,⟨by omega,by omega,by omega,by omega,by omega⟩,⟨fun _=>by first|assumption|omega,fun _=>by omega⟩,⟨fun _=>by first|assumption|omega,fun _=>by omega⟩⟩
       . rintro⟨h3,h4,⟨h5,h6⟩,h7,h8⟩
         first|exact h7 (by omega)|exact h8 (by omega))
theorem sStmt_ans(p:Pg)(h:Hd p)(s:Sm)(h1:s.2.2.1.length≤1048576)(h2:s.2.2.2.1.length≤1048576):Ans n_spec_l3Stmt s_spec_l3Stmt (p,s,()) ((bo (StOk p s),()),()):=by
  have hb:=h.b;have hv:Vrs p=(p.2.1.length:Int)+(p.2.2.1.length:Int)+p.2.2.2.1:=rfl;have hi:Ins p=(p.2.1.length:Int)+(p.2.2.1.length:Int):=rfl;refine Gv.ans (Gv.of (fun k=>spec_l3Stmt.F_eq (cl k) k p s) ?_);unfold spec_l3Stmt.F spec_l3Stmt.Fm;rcases(by omega:s.1=0∨s.1=1∨s.1=2∨s.1=3∨s.1=4∨s.1=5∨s.1=6∨s.1=7∨s.1=8∨s.1=9∨¬(0≤s.1∧s.1≤9))with e|e|e|e|e|e|e|e|e|e|e
  all_goals(try simp only[e,Int.reduceBEq,cond_true,cond_false,Bool.not_true,Bool.not_false])
  all_goals repeat'((first|refine .ba (l1In_ans _ _ _) ?_|refine .ba (sStand_ans p h _ h1) ?_|refine .ba (sStand_ans p h _ h2) ?_|refine .t ?_|refine .u ?_|refine .some lg0 ?_|refine .some lg ?_|refine .some lgI ?_|(refine .bif (fun zz=>?_) (fun zz=>?_)<;>try simp(disch:=omega)only[zs,w64,zt]at zz))<;>try dsimp only)
  all_goals refine Tq.ret ?_
  all_goals(try simp(disch:=omega)only[w64])
  all_goals first
    |(rw[bo_f];rintro⟨h3,⟨h4,h5,h6,h7,h8⟩,⟨h9,h10⟩,h11⟩;omega)
    |(rw[bo_f];rintro⟨h3,h4,⟨h9,h10⟩,h11,h12⟩;exact absurd (h9 (by omega)) (by assumption))
    |(rw[bo_f];rintro⟨h3,h4,⟨h9,h10⟩,h11,h12⟩;exact absurd (h11 (by omega)) (by assumption))
    |(rw[bo_f];rintro⟨h3,h4,⟨h9,h10⟩,h11,h12⟩;have:=(h9 (by omega)).pos;omega)
    |(rw[bo_f];rintro⟨h3,h4,⟨h9,h10⟩,h11,h12⟩;have:=(h11 (by omega)).pos;omega)
    | (rw[bo_dec (Q:=StOk p s)];constructor
       . intro h3;exact⟨by omega,⟨by omega,by omega,by omega,by omega,by omega⟩,⟨fun _=>by first|assumption|omega,fun _=>by omega⟩,⟨fun _=>by first|assumption|omega,fun _=>by omega⟩⟩
       . rintro⟨h3,⟨h4,h5,h6,h7,h8⟩,h9⟩;omega)
    | (rw[bo_beq (Q:=StOk p s)];constructor
       . intro h3;exact⟨by omega,⟨by omega,by omega,by omega,by omega,by omega⟩,⟨fun _=>by first|assumption|omega,fun _=>by omega⟩,⟨fun _=>by first|assumption|omega,fun _=>by omega⟩⟩
       . rintro⟨h3,⟨h4,h5,h6,h7,h8⟩,h9⟩;omega)
    | (rw[bo_congr];constructor
       . intro h3;exact⟨by omega,⟨by omega,by omega,by omega,by omega,by omega⟩,⟨fun _=>by first|assumption|omega,fun _=>by omega⟩,⟨fun _=>by first|assumption|omega,fun _=>by omega⟩⟩
       . rintro⟨h3,⟨h4,h5,h6,h7,h8⟩,h9⟩;omega)
end Go.Proofs.YtjgfofcgmcnblaaGreat.Pf
namespace Go.Proofs.YtjgfofcgmcnblaaGreat.Pf
open Go Go.Pv IntKind
abbrev Y2_0:Type:=(Int×((List (Int×(Int×Unit)))×((List (Int×(Int×Unit)))×(Int×((List Int)×((List (Int×(Int×((List (Int×(Int×Unit)))×((List (Int×(Int×Unit)))×Unit)))))×Unit))))))
abbrev Y2_1:Type:=((List Tr×Bool×Unit)×(List (Int×Int×List (Int×Int×Unit)×List (Int×Int×Unit)×Unit)×Int×Int×Int×Unit)×Unit)
abbrev Y2_2:Type:=((Bool×Unit)×(List (Int×Int×List (Int×Int×Unit)×List (Int×Int×Unit)×Unit)×Int×Int×Int×Unit)×Unit)
abbrev Y2_3:Type:=((List (Int×(Int×((List (Int×(Int×Unit)))×((List (Int×(Int×Unit)))×Unit)))))×(Int×(Int×(Int×Unit))))
abbrev Y2_4:Type:=((List (Int×(Int×((List (Int×(Int×Unit)))×((List (Int×(Int×Unit)))×Unit))))))
abbrev Y2_5:Type:=(List (Int×(Int×((List (Int×(Int×Unit)))×((List (Int×(Int×Unit)))×Unit)))))
abbrev Y2_6:Type:=(Int×Int×List (Int×Int×Unit)×List (Int×Int×Unit)×Unit)
abbrev Y2_7:Type:=((List (Int×((List Go.Pv.Tr)×((List Go.Pv.Tr)×Unit)))))
abbrev Y2_8:Type:=((Int×Int×Unit)×Unit)
abbrev Y2_9:Type:=((Int)×(Int))
abbrev Y2_10:Type:=(Bool×Unit)
abbrev Y2_11:Type:=(Int×Unit)
namespace impl_nester_is
abbrev R:=((Bool×Unit)×(((List (Int×(Int×((List (Int×(Int×Unit)))×((List (Int×(Int×Unit)))×Unit)))))×(Int×(Int×(Int×Unit))))×Unit))
def Fm(call:Cl)(k:Nat)(a0:Y2_3)(a1:Int):Option R:=bif decide (a0.2.1<(↑(List.length a0.1):Int))then bif decide (0≤a0.2.1)then(lget a0.1 (Int.toNat a0.2.1)).bind fun(y0:Y2_6)=>some ((y0.1==a1,()),a0,())else none else some ((false,()),a0,())
def F(call:Cl)(k:Nat)(a0:Y2_3)(a1:Int):Option R:=Fm call k a0 a1
theorem F_eq(call:Cl)(k:Nat)(a0:Y2_3)(a1:Int):bodyK E call n_impl_nester_is k s_impl_nester_is (a0,a1,())=F call k a0 a1:=by kernel_rfl
end impl_nester_is
namespace impl_nester_many
abbrev R:=(((List Go.Pv.Tr)×(Bool×Unit))×(((List (Int×(Int×((List (Int×(Int×Unit)))×((List (Int×(Int×Unit)))×Unit)))))×(Int×(Int×(Int×Unit))))×Unit))
def S0(v0_0:(List (Int×((List Go.Pv.Tr)×((List Go.Pv.Tr)×Unit)))))(v0_1:Y2_5)(v0_2:Int)(v0_3:Int)(v0_4:Int):St:=⟨mkS 45 [(0,.p [500000] [] 0),(4,.ref [500004])],[([500004],.list 260 (.pair tI (.pair .fo (.pair .fo .unit))) v0_0),([500000],.box (.v (.pair (.slc tSm) (.pair tI tTm)) (v0_1,(v0_2,(v0_3,(v0_4,()))))))]⟩
def step0(call:Cl)(k:Nat)(r0:Y2_7→Y2_4→(Int)→(Int)→(Int)→Option R)(v0_0:(List (Int×((List Go.Pv.Tr)×((List Go.Pv.Tr)×Unit)))))(v0_1:Y2_5)(v0_2:Int)(v0_3:Int)(v0_4:Int):Option R:=bif decide (v0_2<(↑v0_1.length:Int))then(call 241 s_impl_nester_is ((v0_1,v0_2,v0_3,v0_4,()),3,())).bind fun(y0:Y2_2)=>bif !y0.1.1 then(call 241 s_impl_nester_is (y0.2.1,4,())).bind fun(y1:Y2_2)=>bif !y1.1.1 then(call 241 s_impl_nester_is (y1.2.1,9,())).bind fun(y2:Y2_2)=>bif !y2.1.1 then(call 242 s_impl_nester_one (y2.2.1,())).bind fun(y3:(((Int×List Tr×List Tr×Unit)×Bool×Unit)×(List Y2_6×Int×Int×Int×Unit)×Unit))=>bif !y3.1.2.1 then some ((List.map trI [],false,()),y3.2.1,())else bif decide ((v0_0.length+[y3.1.1].length)*ti260.bytes≤140737488355328)then r0 (v0_0++[y3.1.1]) y3.2.1.1 y3.2.1.2.1 y3.2.1.2.2.1 y3.2.1.2.2.2.1 else none else some ((List.map trI v0_0,true,()),y2.2.1,())else some ((List.map trI v0_0,true,()),y1.2.1,())else some ((List.map trI v0_0,true,()),y0.2.1,())else some ((List.map trI v0_0,true,()),(v0_1,v0_2,v0_3,v0_4,()),())
def L0(call:Cl)(k:Nat):Nat→Y2_7→Y2_4→(Int)→(Int)→(Int)→Option R|0,_,_,_,_,_=>none|n+1,v0_0,v0_1,v0_2,v0_3,v0_4=>step0 call k (L0 call k n) v0_0 v0_1 v0_2 v0_3 v0_4
def Fm(call:Cl)(k:Nat)(l0:Y2_7→Y2_4→(Int)→(Int)→(Int)→Option R)(a0:Y2_3):Option R:=l0 [] a0.1 a0.2.1 a0.2.2.1 a0.2.2.2.1
def F(call:Cl)(k:Nat)(a0:Y2_3):Option R:=Fm call k (fun v0_0_ v0_1_ v0_2_ v0_3_ v0_4_=>L0 call k k v0_0_ v0_1_ v0_2_ v0_3_ v0_4_) a0
theorem L0_eq(call:Cl)(k:Nat)(J:Nat→St→Option R)(a0:Y2_3):∀(n:Nat)(x:(Y2_7×Y2_4×(Int)×(Int)×(Int))),siteI E call n_impl_nester_many k s_impl_nester_many (a0,()) J 0 n (S0 x.1 x.2.1 x.2.2.1 x.2.2.2.1 x.2.2.2.2)=L0 call k n x.1 x.2.1 x.2.2.1 x.2.2.2.1 x.2.2.2.2:=by
  refine loop_eq (s:=s_impl_nester_many) (fun x=>S0 x.1 x.2.1 x.2.2.1 x.2.2.2.1 x.2.2.2.2) (fun n x=>L0 call k n x.1 x.2.1 x.2.2.1 x.2.2.2.1 x.2.2.2.2) (fun r x=>step0 call k (fun v0_0 v0_1 v0_2 v0_3 v0_4=>r (v0_0,v0_1,v0_2,v0_3,v0_4)) x.1 x.2.1 x.2.2.1 x.2.2.2.1 x.2.2.2.2) (fun _=>rfl) (fun _ _=>rfl) fun J0 x=>?_
  kernel_rfl
theorem F_eq(call:Cl)(k:Nat)(a0:Y2_3):bodyK E call n_impl_nester_many k s_impl_nester_many (a0,())=F call k a0:=by
  exact Eq.trans (b:=Fm call k (fun v0_0_ v0_1_ v0_2_ v0_3_ v0_4_=>siteI E call n_impl_nester_many k s_impl_nester_many (a0,()) (fun _ _=>none) 0 k (S0 v0_0_ v0_1_ v0_2_ v0_3_ v0_4_)) a0) (by kernel_rfl) (congrArg (fun l=>Fm call k l a0) (funext fun v0_0_=>funext fun v0_1_=>funext fun v0_2_=>funext fun v0_3_=>funext fun v0_4_=>L0_eq call k (fun _ _=>none) a0 k (v0_0_,v0_1_,v0_2_,v0_3_,v0_4_)))
end impl_nester_many
namespace impl_nester_one
abbrev R:=(((Int×((List Go.Pv.Tr)×((List Go.Pv.Tr)×Unit)))×(Bool×Unit))×(((List (Int×(Int×((List (Int×(Int×Unit)))×((List (Int×(Int×Unit)))×Unit)))))×(Int×(Int×(Int×Unit))))×Unit))
def Fm(call:Cl)(k:Nat)(a0:Y2_3):Option R:=bif decide (0≤a0.2.1)then(lget a0.1 (Int.toNat a0.2.1)).bind fun(y0:Y2_6)=>bif y0.1!=2 then bif y0.1!=5 then bif y0.1!=8 then some (((a0.2.1,[],[],()),true,()),(a0.1,i64.wrap (a0.2.1+1),a0.2.2.1,a0.2.2.2.1,a0.2.2.2.2),())else(call 228 s_impl_nester_many ((a0.1,i64.wrap (a0.2.1+1),a0.2.2.1,a0.2.2.2.1,a0.2.2.2.2),())).bind fun(y1:Y2_1)=>bif y1.1.2.1 then bif y0.1==2 then(call 241 s_impl_nester_is (y1.2.1,3,())).bind fun(y2:Y2_2)=>bif y2.1.1 then(call 228 s_impl_nester_many ((y2.2.1.1,i64.wrap (y2.2.1.2.1+1),y2.2.1.2.2.1,y2.2.1.2.2.2.1,y2.2.1.2.2.2.2),())).bind fun(y3:Y2_1)=>bif !y3.1.2.1 then some (((0,[],[],()),false,()),y3.2.1,())else(call 241 s_impl_nester_is (y3.2.1,4,())).bind fun(y4:Y2_2)=>bif !y4.1.1 then some (((0,[],[],()),false,()),y4.2.1,())else bif y0.1==8 then bif decide (y2.2.1.2.1<0)then some (((0,[],[],()),false,()),y4.2.1,())else some (((a0.2.1,y1.1.1,y3.1.1,()),true,()),(y4.2.1.1,i64.wrap (y4.2.1.2.1+1),y2.2.1.2.1,y4.2.1.2.1,y4.2.1.2.2.2.2),())else some (((a0.2.1,y1.1.1,y3.1.1,()),true,()),(y4.2.1.1,i64.wrap (y4.2.1.2.1+1),y2.2.1.2.1,y4.2.1.2.1,y4.2.1.2.2.2.2),())else bif y0.1==8 then(call 241 s_impl_nester_is (y2.2.1,9,())).bind fun(y5:Y2_2)=>bif y5.1.1 then(call 228 s_impl_nester_many ((y5.2.1.1,i64.wrap (y5.2.1.2.1+1),y5.2.1.2.2.1,y5.2.1.2.2.2.1,y5.2.1.2.2.2.2),())).bind fun(y6:Y2_1)=>bif !y6.1.2.1 then some (((0,[],[],()),false,()),y6.2.1,())else(call 241 s_impl_nester_is (y6.2.1,4,())).bind fun(y7:Y2_2)=>bif !y7.1.1 then some (((0,[],[],()),false,()),y7.2.1,())else bif y0.1==8 then bif decide (y5.2.1.2.1<0)then some (((0,[],[],()),false,()),y7.2.1,())else some (((a0.2.1,y1.1.1,y6.1.1,()),true,()),(y7.2.1.1,i64.wrap (y7.2.1.2.1+1),y5.2.1.2.1,y7.2.1.2.1,y7.2.1.2.2.2.2),())else some (((a0.2.1,y1.1.1,y6.1.1,()),true,()),(y7.2.1.1,i64.wrap (y7.2.1.2.1+1),y5.2.1.2.1,y7.2.1.2.1,y7.2.1.2.2.2.2),())else bif !y1.1.2.1 then some (((0,[],[],()),false,()),y5.2.1,())else(call 241 s_impl_nester_is (y5.2.1,4,())).bind fun(y8:Y2_2)=>bif !y8.1.1 then some (((0,[],[],()),false,()),y8.2.1,())else bif y0.1==8 then some (((0,[],[],()),false,()),y8.2.1,())else some (((a0.2.1,y1.1.1,[],()),true,()),(y8.2.1.1,i64.wrap (y8.2.1.2.1+1),(-1),y8.2.1.2.1,y8.2.1.2.2.2.2),())else bif !y1.1.2.1 then some (((0,[],[],()),false,()),y2.2.1,())else(call 241 s_impl_nester_is (y2.2.1,4,())).bind fun(y9:Y2_2)=>bif !y9.1.1 then some (((0,[],[],()),false,()),y9.2.1,())else bif y0.1==8 then some (((0,[],[],()),false,()),y9.2.1,())else some (((a0.2.1,y1.1.1,[],()),true,()),(y9.2.1.1,i64.wrap (y9.2.1.2.1+1),(-1),y9.2.1.2.1,y9.2.1.2.2.2.2),())else bif y0.1==8 then(call 241 s_impl_nester_is (y1.2.1,9,())).bind fun(y10:Y2_2)=>bif y10.1.1 then(call 228 s_impl_nester_many ((y10.2.1.1,i64.wrap (y10.2.1.2.1+1),y10.2.1.2.2.1,y10.2.1.2.2.2.1,y10.2.1.2.2.2.2),())).bind fun(y11:Y2_1)=>bif !y11.1.2.1 then some (((0,[],[],()),false,()),y11.2.1,())else(call 241 s_impl_nester_is (y11.2.1,4,())).bind fun(y12:Y2_2)=>bif !y12.1.1 then some (((0,[],[],()),false,()),y12.2.1,())else bif y0.1==8 then bif decide (y10.2.1.2.1<0)then some (((0,[],[],()),false,()),y12.2.1,())else some (((a0.2.1,y1.1.1,y11.1.1,()),true,()),(y12.2.1.1,i64.wrap (y12.2.1.2.1+1),y10.2.1.2.1,y12.2.1.2.1,y12.2.1.2.2.2.2),())else some (((a0.2.1,y1.1.1,y11.1.1,()),true,()),(y12.2.1.1,i64.wrap (y12.2.1.2.1+1),y10.2.1.2.1,y12.2.1.2.1,y12.2.1.2.2.2.2),())else bif !y1.1.2.1 then some (((0,[],[],()),false,()),y10.2.1,())else(call 241 s_impl_nester_is (y10.2.1,4,())).bind fun(y13:Y2_2)=>bif !y13.1.1 then some (((0,[],[],()),false,()),y13.2.1,())else bif y0.1==8 then some (((0,[],[],()),false,()),y13.2.1,())else some (((a0.2.1,y1.1.1,[],()),true,()),(y13.2.1.1,i64.wrap (y13.2.1.2.1+1),(-1),y13.2.1.2.1,y13.2.1.2.2.2.2),())else bif !y1.1.2.1 then some (((0,[],[],()),false,()),y1.2.1,())else(call 241 s_impl_nester_is (y1.2.1,4,())).bind fun(y14:Y2_2)=>bif !y14.1.1 then some (((0,[],[],()),false,()),y14.2.1,())else bif y0.1==8 then some (((0,[],[],()),false,()),y14.2.1,())else some (((a0.2.1,y1.1.1,[],()),true,()),(y14.2.1.1,i64.wrap (y14.2.1.2.1+1),(-1),y14.2.1.2.1,y14.2.1.2.2.2.2),())else bif !y1.1.2.1 then some (((0,[],[],()),false,()),y1.2.1,())else(call 241 s_impl_nester_is (y1.2.1,4,())).bind fun(y15:Y2_2)=>bif !y15.1.1 then some (((0,[],[],()),false,()),y15.2.1,())else bif y0.1==8 then some (((0,[],[],()),false,()),y15.2.1,())else some (((a0.2.1,y1.1.1,[],()),true,()),(y15.2.1.1,i64.wrap (y15.2.1.2.1+1),(-1),y15.2.1.2.1,y15.2.1.2.2.2.2),())else(call 228 s_impl_nester_many ((a0.1,i64.wrap (a0.2.1+1),a0.2.2.1,a0.2.2.2.1,a0.2.2.2.2),())).bind fun(y16:Y2_1)=>bif y16.1.2.1 then bif y0.1==2 then(call 241 s_impl_nester_is (y16.2.1,3,())).bind fun(y17:Y2_2)=>bif y17.1.1 then(call 228 s_impl_nester_many ((y17.2.1.1,i64.wrap (y17.2.1.2.1+1),y17.2.1.2.2.1,y17.2.1.2.2.2.1,y17.2.1.2.2.2.2),())).bind fun(y18:Y2_1)=>bif !y18.1.2.1 then some (((0,[],[],()),false,()),y18.2.1,())else(call 241 s_impl_nester_is (y18.2.1,4,())).bind fun(y19:Y2_2)=>bif !y19.1.1 then some (((0,[],[],()),false,()),y19.2.1,())else bif y0.1==8 then bif decide (y17.2.1.2.1<0)then some (((0,[],[],()),false,()),y19.2.1,())else some (((a0.2.1,y16.1.1,y18.1.1,()),true,()),(y19.2.1.1,i64.wrap (y19.2.1.2.1+1),y17.2.1.2.1,y19.2.1.2.1,y19.2.1.2.2.2.2),())else some (((a0.2.1,y16.1.1,y18.1.1,()),true,()),(y19.2.1.1,i64.wrap (y19.2.1.2.1+1),y17.2.1.2.1,y19.2.1.2.1,y19.2.1.2.2.2.2),())else bif y0.1==8 then(call 241 s_impl_nester_is (y17.2.1,9,())).bind fun(y20:Y2_2)=>bif y20.1.1 then(call 228 s_impl_nester_many ((y20.2.1.1,i64.wrap (y20.2.1.2.1+1),y20.2.1.2.2.1,y20.2.1.2.2.2.1,y20.2.1.2.2.2.2),())).bind fun(y21:Y2_1)=>bif !y21.1.2.1 then some (((0,[],[],()),false,()),y21.2.1,())else(call 241 s_impl_nester_is (y21.2.1,4,())).bind fun(y22:Y2_2)=>bif !y22.1.1 then some (((0,[],[],()),false,()),y22.2.1,())else bif y0.1==8 then bif decide (y20.2.1.2.1<0)then some (((0,[],[],()),false,()),y22.2.1,())else some (((a0.2.1,y16.1.1,y21.1.1,()),true,()),(y22.2.1.1,i64.wrap (y22.2.1.2.1+1),y20.2.1.2.1,y22.2.1.2.1,y22.2.1.2.2.2.2),())else some (((a0.2.1,y16.1.1,y21.1.1,()),true,()),(y22.2.1.1,i64.wrap (y22.2.1.2.1+1),y20.2.1.2.1,y22.2.1.2.1,y22.2.1.2.2.2.2),())else bif !y16.1.2.1 then some (((0,[],[],()),false,()),y20.2.1,())else(call 241 s_impl_nester_is (y20.2.1,4,())).bind fun(y23:Y2_2)=>bif !y23.1.1 then some (((0,[],[],()),false,()),y23.2.1,())else bif y0.1==8 then some (((0,[],[],()),false,()),y23.2.1,())else some (((a0.2.1,y16.1.1,[],()),true,()),(y23.2.1.1,i64.wrap (y23.2.1.2.1+1),(-1),y23.2.1.2.1,y23.2.1.2.2.2.2),())else bif !y16.1.2.1 then some (((0,[],[],()),false,()),y17.2.1,())else(call 241 s_impl_nester_is (y17.2.1,4,())).bind fun(y24:Y2_2)=>bif !y24.1.1 then some (((0,[],[],()),false,()),y24.2.1,())else bif y0.1==8 then some (((0,[],[],()),false,()),y24.2.1,())else some (((a0.2.1,y16.1.1,[],()),true,()),(y24.2.1.1,i64.wrap (y24.2.1.2.1+1),(-1),y24.2.1.2.1,y24.2.1.2.2.2.2),())else bif y0.1==8 then(call 241 s_impl_nester_is (y16.2.1,9,())).bind fun(y25:Y2_2)=>bif y25.1.1 then(call 228 s_impl_nester_many ((y25.2.1.1,i64.wrap (y25.2.1.2.1+1),y25.2.1.2.2.1,y25.2.1.2.2.2.1,y25.2.1.2.2.2.2),())).bind fun(y26:Y2_1)=>bif !y26.1.2.1 then some (((0,[],[],()),false,()),y26.2.1,())else(call 241 s_impl_nester_is (y26.2.1,4,())).bind fun(y27:Y2_2)=>bif !y27.1.1 then some (((0,[],[],()),false,()),y27.2.1,())else bif y0.1==8 then bif decide (y25.2.1.2.1<0)then some (((0,[],[],()),false,()),y27.2.1,())else some (((a0.2.1,y16.1.1,y26.1.1,()),true,()),(y27.2.1.1,i64.wrap (y27.2.1.2.1+1),y25.2.1.2.1,y27.2.1.2.1,y27.2.1.2.2.2.2),())else some (((a0.2.1,y16.1.1,y26.1.1,()),true,()),(y27.2.1.1,i64.wrap (y27.2.1.2.1+1),y25.2.1.2.1,y27.2.1.2.1,y27.2.1.2.2.2.2),())else bif !y16.1.2.1 then some (((0,[],[],()),false,()),y25.2.1,())else(call 241 s_impl_nester_is (y25.2.1,4,())).bind fun(y28:Y2_2)=>bif !y28.1.1 then some (((0,[],[],()),false,()),y28.2.1,())else bif y0.1==8 then some (((0,[],[],()),false,()),y28.2.1,())else some (((a0.2.1,y16.1.1,[],()),true,()),(y28.2.1.1,i64.wrap (y28.2.1.2.1+1),(-1),y28.2.1.2.1,y28.2.1.2.2.2.2),())else bif !y16.1.2.1 then some (((0,[],[],()),false,()),y16.2.1,())else(call 241 s_impl_nester_is (y16.2.1,4,())).bind fun(y29:Y2_2)=>bif !y29.1.1 then some (((0,[],[],()),false,()),y29.2.1,())else bif y0.1==8 then some (((0,[],[],()),false,()),y29.2.1,())else some (((a0.2.1,y16.1.1,[],()),true,()),(y29.2.1.1,i64.wrap (y29.2.1.2.1+1),(-1),y29.2.1.2.1,y29.2.1.2.2.2.2),())else bif !y16.1.2.1 then some (((0,[],[],()),false,()),y16.2.1,())else(call 241 s_impl_nester_is (y16.2.1,4,())).bind fun(y30:Y2_2)=>bif !y30.1.1 then some (((0,[],[],()),false,()),y30.2.1,())else bif y0.1==8 then some (((0,[],[],()),false,()),y30.2.1,())else some (((a0.2.1,y16.1.1,[],()),true,()),(y30.2.1.1,i64.wrap (y30.2.1.2.1+1),(-1),y30.2.1.2.1,y30.2.1.2.2.2.2),())else(call 228 s_impl_nester_many ((a0.1,i64.wrap (a0.2.1+1),a0.2.2.1,a0.2.2.2.1,a0.2.2.2.2),())).bind fun(y31:Y2_1)=>bif y31.1.2.1 then bif y0.1==2 then(call 241 s_impl_nester_is (y31.2.1,3,())).bind fun(y32:Y2_2)=>bif y32.1.1 then(call 228 s_impl_nester_many ((y32.2.1.1,i64.wrap (y32.2.1.2.1+1),y32.2.1.2.2.1,y32.2.1.2.2.2.1,y32.2.1.2.2.2.2),())).bind fun(y33:Y2_1)=>bif !y33.1.2.1 then some (((0,[],[],()),false,()),y33.2.1,())else(call 241 s_impl_nester_is (y33.2.1,4,())).bind fun(y34:Y2_2)=>bif !y34.1.1 then some (((0,[],[],()),false,()),y34.2.1,())else bif y0.1==8 then bif decide (y32.2.1.2.1<0)then some (((0,[],[],()),false,()),y34.2.1,())else some (((a0.2.1,y31.1.1,y33.1.1,()),true,()),(y34.2.1.1,i64.wrap (y34.2.1.2.1+1),y32.2.1.2.1,y34.2.1.2.1,y34.2.1.2.2.2.2),())else some (((a0.2.1,y31.1.1,y33.1.1,()),true,()),(y34.2.1.1,i64.wrap (y34.2.1.2.1+1),y32.2.1.2.1,y34.2.1.2.1,y34.2.1.2.2.2.2),())else bif y0.1==8 then(call 241 s_impl_nester_is (y32.2.1,9,())).bind fun(y35:Y2_2)=>bif y35.1.1 then(call 228 s_impl_nester_many ((y35.2.1.1,i64.wrap (y35.2.1.2.1+1),y35.2.1.2.2.1,y35.2.1.2.2.2.1,y35.2.1.2.2.2.2),())).bind fun(y36:Y2_1)=>bif !y36.1.2.1 then some (((0,[],[],()),false,()),y36.2.1,())else(call 241 s_impl_nester_is (y36.2.1,4,())).bind fun(y37:Y2_2)=>bif !y37.1.1 then some (((0,[],[],()),false,()),y37.2.1,())else bif y0.1==8 then bif decide (y35.2.1.2.1<0)then some (((0,[],[],()),false,()),y37.2.1,())else some (((a0.2.1,y31.1.1,y36.1.1,()),true,()),(y37.2.1.1,i64.wrap (y37.2.1.2.1+1),y35.2.1.2.1,y37.2.1.2.1,y37.2.1.2.2.2.2),())else some (((a0.2.1,y31.1.1,y36.1.1,()),true,()),(y37.2.1.1,i64.wrap (y37.2.1.2.1+1),y35.2.1.2.1,y37.2.1.2.1,y37.2.1.2.2.2.2),())else bif !y31.1.2.1 then some (((0,[],[],()),false,()),y35.2.1,())else(call 241 s_impl_nester_is (y35.2.1,4,())).bind fun(y38:Y2_2)=>bif !y38.1.1 then some (((0,[],[],()),false,()),y38.2.1,())else bif y0.1==8 then some (((0,[],[],()),false,()),y38.2.1,())else some (((a0.2.1,y31.1.1,[],()),true,()),(y38.2.1.1,i64.wrap (y38.2.1.2.1+1),(-1),y38.2.1.2.1,y38.2.1.2.2.2.2),())else bif !y31.1.2.1 then some (((0,[],[],()),false,()),y32.2.1,())else(call 241 s_impl_nester_is (y32.2.1,4,())).bind fun(y39:Y2_2)=>bif !y39.1.1 then some (((0,[],[],()),false,()),y39.2.1,())else bif y0.1==8 then some (((0,[],[],()),false,()),y39.2.1,())else some (((a0.2.1,y31.1.1,[],()),true,()),(y39.2.1.1,i64.wrap (y39.2.1.2.1+1),(-1),y39.2.1.2.1,y39.2.1.2.2.2.2),())else bif y0.1==8 then(call 241 s_impl_nester_is (y31.2.1,9,())).bind fun(y40:Y2_2)=>bif y40.1.1 then(call 228 s_impl_nester_many ((y40.2.1.1,i64.wrap (y40.2.1.2.1+1),y40.2.1.2.2.1,y40.2.1.2.2.2.1,y40.2.1.2.2.2.2),())).bind fun(y41:Y2_1)=>bif !y41.1.2.1 then some (((0,[],[],()),false,()),y41.2.1,())else(call 241 s_impl_nester_is (y41.2.1,4,())).bind fun(y42:Y2_2)=>bif !y42.1.1 then some (((0,[],[],()),false,()),y42.2.1,())else bif y0.1==8 then bif decide (y40.2.1.2.1<0)then some (((0,[],[],()),false,()),y42.2.1,())else some (((a0.2.1,y31.1.1,y41.1.1,()),true,()),(y42.2.1.1,i64.wrap (y42.2.1.2.1+1),y40.2.1.2.1,y42.2.1.2.1,y42.2.1.2.2.2.2),())else some (((a0.2.1,y31.1.1,y41.1.1,()),true,()),(y42.2.1.1,i64.wrap (y42.2.1.2.1+1),y40.2.1.2.1,y42.2.1.2.1,y42.2.1.2.2.2.2),())else bif !y31.1.2.1 then some (((0,[],[],()),false,()),y40.2.1,())else(call 241 s_impl_nester_is (y40.2.1,4,())).bind fun(y43:Y2_2)=>bif !y43.1.1 then some (((0,[],[],()),false,()),y43.2.1,())else bif y0.1==8 then some (((0,[],[],()),false,()),y43.2.1,())else some (((a0.2.1,y31.1.1,[],()),true,()),(y43.2.1.1,i64.wrap (y43.2.1.2.1+1),(-1),y43.2.1.2.1,y43.2.1.2.2.2.2),())else bif !y31.1.2.1 then some (((0,[],[],()),false,()),y31.2.1,())else(call 241 s_impl_nester_is (y31.2.1,4,())).bind fun(y44:Y2_2)=>bif !y44.1.1 then some (((0,[],[],()),false,()),y44.2.1,())else bif y0.1==8 then some (((0,[],[],()),false,()),y44.2.1,())else some (((a0.2.1,y31.1.1,[],()),true,()),(y44.2.1.1,i64.wrap (y44.2.1.2.1+1),(-1),y44.2.1.2.1,y44.2.1.2.2.2.2),())else bif !y31.1.2.1 then some (((0,[],[],()),false,()),y31.2.1,())else(call 241 s_impl_nester_is (y31.2.1,4,())).bind fun(y45:Y2_2)=>bif !y45.1.1 then some (((0,[],[],()),false,()),y45.2.1,())else bif y0.1==8 then some (((0,[],[],()),false,()),y45.2.1,())else some (((a0.2.1,y31.1.1,[],()),true,()),(y45.2.1.1,i64.wrap (y45.2.1.2.1+1),(-1),y45.2.1.2.1,y45.2.1.2.2.2.2),())else none
def F(call:Cl)(k:Nat)(a0:Y2_3):Option R:=Fm call k a0
theorem F_eq(call:Cl)(k:Nat)(a0:Y2_3):bodyK E call n_impl_nester_one k s_impl_nester_one (a0,())=F call k a0:=by kernel_rfl
end impl_nester_one
namespace impl_nodesOf
abbrev R:=(((List Go.Pv.Tr)×(Bool×Unit))×Unit)
def Fm(call:Cl)(k:Nat)(a0:Y2_5):Option R:=(call 228 s_impl_nester_many ((a0,0,0,0,()),())).bind fun(y0:Y2_1)=>bif y0.1.2.1 then some ((y0.1.1,y0.2.1.2.1==(↑a0.length:Int),()),())else some ((y0.1.1,false,()),())
def F(call:Cl)(k:Nat)(a0:Y2_5):Option R:=Fm call k a0
theorem F_eq(call:Cl)(k:Nat)(a0:Y2_5):bodyK E call n_impl_nodesOf k s_impl_nodesOf (a0,())=F call k a0:=by kernel_rfl
end impl_nodesOf
namespace impl_stepsIn
abbrev R:=((Int×Unit)×Unit)
def S0(a0:Y2_5)(a1:(List Go.Pv.Tr))(v0_1:Int)(v0_4:Int):St:=⟨mkS 69 [(0,.v (.slc tSm) (a0)),(5,.v tI v0_1),(9,.v .fo (a1)),(10,.v tI ((↑a1.length:Int))),(11,.v tI v0_4)],[]⟩
def step0(call:Cl)(k:Nat)(a0:Y2_5)(a1:(List Go.Pv.Tr))(r0:(Int)→(Int)→Option R)(v0_1:Int)(v0_4:Int):Option R:=bif decide (v0_4<(↑a1.length:Int))then bif decide (0≤v0_4)then(lget a1 v0_4.toNat).bind fun(y0:Tr)=>bif decide (0≤(trO y0).1)then(lget a0 (Int.toNat (trO y0).1)).bind fun(y1:Y2_6)=>bif y1.1==2 then(call 199 s_impl_stepsIn (a0,(trO y0).2.1,())).bind fun(y2:Y2_11×Unit)=>(call 199 s_impl_stepsIn (a0,(trO y0).2.2.1,())).bind fun(y3:Y2_11×Unit)=>r0 (min (i64.wrap (v0_1+i64.wrap (1+max y2.1.1 y3.1.1))) 4000) (i64.wrap (v0_4+1))else bif y1.1==5 then(call 199 s_impl_stepsIn (a0,(trO y0).2.1,())).bind fun(y4:Y2_11×Unit)=>r0 (min (i64.wrap (v0_1+i64.wrap (1+i64.wrap (y1.2.1*i64.wrap (1+y4.1.1))))) 4000) (i64.wrap (v0_4+1))else bif y1.1==8 then(call 199 s_impl_stepsIn (a0,(trO y0).2.1,())).bind fun(y5:Y2_11×Unit)=>(call 199 s_impl_stepsIn (a0,(trO y0).2.2.1,())).bind fun(y6:Y2_11×Unit)=>r0 (min (i64.wrap (v0_1+i64.wrap (i64.wrap (1+y5.1.1)+y6.1.1))) 4000) (i64.wrap (v0_4+1))else r0 (min (i64.wrap (v0_1+1)) 4000) (i64.wrap (v0_4+1))else none else none else some ((v0_1,()),())
def L0(call:Cl)(k:Nat)(a0:Y2_5)(a1:(List Go.Pv.Tr)):Nat→(Int)→(Int)→Option R|0,_,_=>none|n+1,v0_1,v0_4=>step0 call k a0 a1 (L0 call k a0 a1 n) v0_1 v0_4
def Fm(call:Cl)(k:Nat)(l0:Y2_4→((List Go.Pv.Tr))→(Int)→(Int)→Option R)(a0:Y2_5)(a1:(List Go.Pv.Tr)):Option R:=l0 a0 a1 0 0
def F(call:Cl)(k:Nat)(a0:Y2_5)(a1:(List Go.Pv.Tr)):Option R:=Fm call k (fun a0_ a1_ v0_1_ v0_4_=>L0 call k a0_ a1_ k v0_1_ v0_4_) a0 a1
theorem L0_eq(call:Cl)(k:Nat)(J:Nat→St→Option R)(a0:Y2_5)(a1:(List Go.Pv.Tr)):∀(n:Nat)(x:Y2_9),siteI E call n_impl_stepsIn k s_impl_stepsIn (a0,a1,()) J 0 n (S0 a0 a1 x.1 x.2)=L0 call k a0 a1 n x.1 x.2:=by
  refine loop_eq (s:=s_impl_stepsIn) (fun x=>S0 a0 a1 x.1 x.2) (fun n x=>L0 call k a0 a1 n x.1 x.2) (fun r x=>step0 call k a0 a1 (fun v0_1 v0_4=>r (v0_1,v0_4)) x.1 x.2) (fun _=>rfl) (fun _ _=>rfl) fun J0 x=>?_
  kernel_rfl
theorem F_eq(call:Cl)(k:Nat)(a0:Y2_5)(a1:(List Go.Pv.Tr)):bodyK E call n_impl_stepsIn k s_impl_stepsIn (a0,a1,())=F call k a0 a1:=by
  exact Eq.trans (b:=Fm call k (fun a0 a1 v0_1_ v0_4_=>siteI E call n_impl_stepsIn k s_impl_stepsIn (a0,a1,()) (fun _ _=>none) 0 k (S0 a0 a1 v0_1_ v0_4_)) a0 a1) (by kernel_rfl) (congrArg (fun l=>Fm call k l a0 a1) (funext fun a0=>funext fun a1=>funext fun v0_1_=>funext fun v0_4_=>L0_eq call k (fun _ _=>none) a0 a1 k (v0_1_,v0_4_)))
end impl_stepsIn
namespace impl_CodeOf
abbrev R:=((Int×Unit)×Unit)
def S0(a0:Y2_0)(v0_1:Int):St:=⟨mkS 49 [(1,.p [500001] [] 0),(23,.v tI ((↑(List.length a0.2.2.2.2.2.1):Int))),(24,.v tI v0_1)],[([500001],.box (.v tPg ((a0.1),((a0.2.1),((a0.2.2.1),((a0.2.2.2.1),((a0.2.2.2.2.1),((a0.2.2.2.2.2.1),()))))))))]⟩
def step0(call:Cl)(k:Nat)(a0:Y2_0)(r0:(Int)→Option R)(v0_1:Int):Option R:=bif decide (v0_1<(↑(List.length a0.2.2.2.2.2.1):Int))then bif decide (0≤v0_1)then(lget a0.2.2.2.2.2.1 v0_1.toNat).bind fun(y2:Y2_6)=>(call 197 s_impl_stmtRight (a0,y2,())).bind fun(y3:Y2_10×Unit)=>bif !y3.1.1 then some ((4,()),())else r0 (i64.wrap (v0_1+1))else none else(call 198 s_impl_nodesOf (a0.2.2.2.2.2.1,())).bind fun(y4:((List Tr×Bool×Unit)×Unit))=>bif !y4.1.2.1 then some ((5,()),())else(call 199 s_impl_stepsIn (a0.2.2.2.2.2.1,y4.1.1,())).bind fun(y5:Y2_11×Unit)=>bif decide (y5.1.1>400)then some ((6,()),())else some ((0,()),())
def L0(call:Cl)(k:Nat)(a0:Y2_0):Nat→(Int)→Option R|0,_=>none|n+1,v0_1=>step0 call k a0 (L0 call k a0 n) v0_1
def Fm(call:Cl)(k:Nat)(l0:(Y2_0)→(Int)→Option R)(a0:Y2_0):Option R:=bif decide (a0.1<1)then some ((1,()),())else bif decide (a0.1>8)then some ((1,()),())else(call 195 s_impl_inputRight (a0,())).bind fun(y0:Y2_10×Unit)=>bif !y0.1.1 then some ((2,()),())else(call 196 s_impl_roomRight (a0,())).bind fun(y1:Y2_10×Unit)=>bif !y1.1.1 then some ((3,()),())else l0 a0 0
def F(call:Cl)(k:Nat)(a0:Y2_0):Option R:=Fm call k (fun a0_ v0_1_=>L0 call k a0_ k v0_1_) a0
theorem L0_eq(call:Cl)(k:Nat)(J:Nat→St→Option R)(a0:Y2_0):∀(n:Nat)(x:(Int)),siteI E call n_impl_CodeOf k s_impl_CodeOf (a0,()) J 0 n (S0 a0 x)=L0 call k a0 n x:=by
  refine loop_eq (s:=s_impl_CodeOf) (fun x=>S0 a0 x) (fun n x=>L0 call k a0 n x) (fun r x=>step0 call k a0 (fun v0_1=>r v0_1) x) (fun _=>rfl) (fun _ _=>rfl) fun J0 x=>?_
  kernel_rfl
theorem F_eq(call:Cl)(k:Nat)(a0:Y2_0):bodyK E call n_impl_CodeOf k s_impl_CodeOf (a0,())=F call k a0:=by
  exact Eq.trans (b:=Fm call k (fun a0 v0_1_=>siteI E call n_impl_CodeOf k s_impl_CodeOf (a0,()) (fun _ _=>none) 0 k (S0 a0 v0_1_)) a0) (by kernel_rfl) (congrArg (fun l=>Fm call k l a0) (funext fun a0=>funext fun v0_1_=>L0_eq call k (fun _ _=>none) a0 k v0_1_))
end impl_CodeOf
namespace impl_ProgOk
abbrev R:=((Bool×Unit)×Unit)
def Fm(call:Cl)(k:Nat)(a0:Y2_0):Option R:=(call 147 s_impl_CodeOf (a0,())).bind fun(y0:Y2_11×Unit)=>some ((y0.1.1==0,()),())
def F(call:Cl)(k:Nat)(a0:Y2_0):Option R:=Fm call k a0
theorem F_eq(call:Cl)(k:Nat)(a0:Y2_0):bodyK E call n_impl_ProgOk k s_impl_ProgOk (a0,())=F call k a0:=by kernel_rfl
end impl_ProgOk
namespace spec_l3Is
abbrev R:=((Bool×Unit)×Unit)
def Fm(call:Cl)(k:Nat)(a0:Y2_5)(a1:Int)(a2:Int):Option R:=(call 123 s_spec_l1In (a1,0,i64.wrap ((↑a0.length:Int)-1),())).bind fun(y0:Y2_10×Unit)=>bif y0.1.1 then bif decide (0≤a1)then(lget a0 a1.toNat).bind fun(y1:Y2_6)=>some ((y1.1==a2,()),())else none else some ((false,()),())
def F(call:Cl)(k:Nat)(a0:Y2_5)(a1:Int)(a2:Int):Option R:=Fm call k a0 a1 a2
theorem F_eq(call:Cl)(k:Nat)(a0:Y2_5)(a1:Int)(a2:Int):bodyK E call n_spec_l3Is k s_spec_l3Is (a0,a1,a2,())=F call k a0 a1 a2:=by kernel_rfl
end spec_l3Is
namespace spec_l3Block
abbrev R:=((Int×Unit)×Unit)
def S0(a0:Y2_5)(v0_1:Int):St:=⟨mkS 38 [(0,.v (.slc tSm) (a0)),(1,.v tI v0_1)],[]⟩
def step0(call:Cl)(k:Nat)(a0:Y2_5)(r0:(Int)→Option R)(v0_1:Int):Option R:=bif decide (v0_1<(↑a0.length:Int))then bif decide (0≤v0_1)then(lget a0 v0_1.toNat).bind fun(y0:Y2_6)=>bif y0.1==3 then bif y0.1==3 then some ((v0_1,()),())else bif y0.1==2 then bif y0.1==2 then(call 204 s_spec_l3End (a0,v0_1,())).bind fun(y1:Y2_8)=>bif decide (y1.1.2.1<0)then some (((-1),()),())else r0 (i64.wrap (y1.1.2.1+1))else r0 (i64.wrap (v0_1+1))else bif y0.1==5 then bif y0.1==5 then(call 204 s_spec_l3End (a0,v0_1,())).bind fun(y2:Y2_8)=>bif decide (y2.1.2.1<0)then some (((-1),()),())else r0 (i64.wrap (y2.1.2.1+1))else r0 (i64.wrap (v0_1+1))else bif y0.1==8 then(call 204 s_spec_l3End (a0,v0_1,())).bind fun(y3:Y2_8)=>bif decide (y3.1.2.1<0)then some (((-1),()),())else r0 (i64.wrap (y3.1.2.1+1))else r0 (i64.wrap (v0_1+1))else bif y0.1==9 then bif y0.1==9 then some ((v0_1,()),())else bif y0.1==2 then bif y0.1==2 then(call 204 s_spec_l3End (a0,v0_1,())).bind fun(y4:Y2_8)=>bif decide (y4.1.2.1<0)then some (((-1),()),())else r0 (i64.wrap (y4.1.2.1+1))else r0 (i64.wrap (v0_1+1))else bif y0.1==5 then bif y0.1==5 then(call 204 s_spec_l3End (a0,v0_1,())).bind fun(y5:Y2_8)=>bif decide (y5.1.2.1<0)then some (((-1),()),())else r0 (i64.wrap (y5.1.2.1+1))else r0 (i64.wrap (v0_1+1))else bif y0.1==8 then(call 204 s_spec_l3End (a0,v0_1,())).bind fun(y6:Y2_8)=>bif decide (y6.1.2.1<0)then some (((-1),()),())else r0 (i64.wrap (y6.1.2.1+1))else r0 (i64.wrap (v0_1+1))else bif y0.1==4 then some ((v0_1,()),())else bif y0.1==2 then bif y0.1==2 then(call 204 s_spec_l3End (a0,v0_1,())).bind fun(y7:Y2_8)=>bif decide (y7.1.2.1<0)then some (((-1),()),())else r0 (i64.wrap (y7.1.2.1+1))else r0 (i64.wrap (v0_1+1))else bif y0.1==5 then bif y0.1==5 then(call 204 s_spec_l3End (a0,v0_1,())).bind fun(y8:Y2_8)=>bif decide (y8.1.2.1<0)then some (((-1),()),())else r0 (i64.wrap (y8.1.2.1+1))else r0 (i64.wrap (v0_1+1))else bif y0.1==8 then(call 204 s_spec_l3End (a0,v0_1,())).bind fun(y9:Y2_8)=>bif decide (y9.1.2.1<0)then some (((-1),()),())else r0 (i64.wrap (y9.1.2.1+1))else r0 (i64.wrap (v0_1+1))else none else some ((v0_1,()),())
def L0(call:Cl)(k:Nat)(a0:Y2_5):Nat→(Int)→Option R|0,_=>none|n+1,v0_1=>step0 call k a0 (L0 call k a0 n) v0_1
def Fm(call:Cl)(k:Nat)(l0:Y2_4→(Int)→Option R)(a0:Y2_5)(a1:Int):Option R:=l0 a0 a1
def F(call:Cl)(k:Nat)(a0:Y2_5)(a1:Int):Option R:=Fm call k (fun a0_ v0_1_=>L0 call k a0_ k v0_1_) a0 a1
theorem L0_eq(call:Cl)(k:Nat)(J:Nat→St→Option R)(a0:Y2_5)(a1:Int):∀(n:Nat)(x:(Int)),siteI E call n_spec_l3Block k s_spec_l3Block (a0,a1,()) J 0 n (S0 a0 x)=L0 call k a0 n x:=by
  refine loop_eq (s:=s_spec_l3Block) (fun x=>S0 a0 x) (fun n x=>L0 call k a0 n x) (fun r x=>step0 call k a0 (fun v0_1=>r v0_1) x) (fun _=>rfl) (fun _ _=>rfl) fun J0 x=>?_
  kernel_rfl
theorem F_eq(call:Cl)(k:Nat)(a0:Y2_5)(a1:Int):bodyK E call n_spec_l3Block k s_spec_l3Block (a0,a1,())=F call k a0 a1:=by
  exact Eq.trans (b:=Fm call k (fun a0 v0_1_=>siteI E call n_spec_l3Block k s_spec_l3Block (a0,a1,()) (fun _ _=>none) 0 k (S0 a0 v0_1_)) a0 a1) (by kernel_rfl) (congrArg (fun l=>Fm call k l a0 a1) (funext fun a0=>funext fun v0_1_=>L0_eq call k (fun _ _=>none) a0 a1 k v0_1_))
end spec_l3Block
namespace spec_l3End
abbrev R:=((Int×(Int×Unit))×Unit)
def Fm(call:Cl)(k:Nat)(a0:Y2_5)(a1:Int):Option R:=(call 191 s_spec_l3Block (a0,i64.wrap (a1+1),())).bind fun(y0:Y2_11×Unit)=>bif decide (0≤a1)then(lget a0 a1.toNat).bind fun(y1:Y2_6)=>bif y1.1==5 then(call 232 s_spec_l3Is (a0,y0.1.1,4,())).bind fun(y2:Y2_10×Unit)=>bif y2.1.1 then some (((-1),y0.1.1,()),())else some (((-1),(-1),()),())else bif y1.1==2 then(call 232 s_spec_l3Is (a0,y0.1.1,4,())).bind fun(y3:Y2_10×Unit)=>bif y3.1.1 then some (((-1),y0.1.1,()),())else(call 232 s_spec_l3Is (a0,y0.1.1,3,())).bind fun(y4:Y2_10×Unit)=>bif y4.1.1 then(call 191 s_spec_l3Block (a0,i64.wrap (y0.1.1+1),())).bind fun(y5:Y2_11×Unit)=>(call 232 s_spec_l3Is (a0,y5.1.1,4,())).bind fun(y6:Y2_10×Unit)=>bif y6.1.1 then some ((y0.1.1,y5.1.1,()),())else some (((-1),(-1),()),())else some (((-1),(-1),()),())else bif y1.1==8 then(call 232 s_spec_l3Is (a0,y0.1.1,9,())).bind fun(y7:Y2_10×Unit)=>bif y7.1.1 then(call 191 s_spec_l3Block (a0,i64.wrap (y0.1.1+1),())).bind fun(y8:Y2_11×Unit)=>(call 232 s_spec_l3Is (a0,y8.1.1,4,())).bind fun(y9:Y2_10×Unit)=>bif y9.1.1 then some ((y0.1.1,y8.1.1,()),())else some (((-1),(-1),()),())else some (((-1),(-1),()),())else some (((-1),(-1),()),())else none
def F(call:Cl)(k:Nat)(a0:Y2_5)(a1:Int):Option R:=Fm call k a0 a1
theorem F_eq(call:Cl)(k:Nat)(a0:Y2_5)(a1:Int):bodyK E call n_spec_l3End k s_spec_l3End (a0,a1,())=F call k a0 a1:=by kernel_rfl
end spec_l3End
namespace spec_l3Steps
abbrev R:=((Int×Unit)×Unit)
def S0(a0:Y2_5)(a2:Int)(v0_2:Int)(v0_3:Int):St:=⟨mkS 93 [(0,.v (.slc tSm) (a0)),(2,.v tI (a2)),(7,.v tI v0_2),(8,.v tI v0_3)],[]⟩
def step0(call:Cl)(k:Nat)(a0:Y2_5)(a2:Int)(r0:(Int)→(Int)→Option R)(v0_2:Int)(v0_3:Int):Option R:=bif decide (v0_3<a2)then(call 204 s_spec_l3End (a0,v0_3,())).bind fun(y0:Y2_8)=>bif decide (0≤v0_3)then(lget a0 v0_3.toNat).bind fun(y1:Y2_6)=>bif y1.1==2 then bif decide (y0.1.1<0)then(call 192 s_spec_l3Steps (a0,i64.wrap (v0_3+1),y0.1.2.1,())).bind fun(y2:Y2_11×Unit)=>bif decide (y0.1.2.1<0)then r0 (i64.wrap (i64.wrap (v0_2+1)+y2.1.1)) (i64.wrap (v0_3+1))else r0 (i64.wrap (i64.wrap (v0_2+1)+y2.1.1)) (i64.wrap (y0.1.2.1+1))else(call 192 s_spec_l3Steps (a0,i64.wrap (v0_3+1),y0.1.1,())).bind fun(y3:Y2_11×Unit)=>(call 192 s_spec_l3Steps (a0,i64.wrap (y0.1.1+1),y0.1.2.1,())).bind fun(y4:Y2_11×Unit)=>(call 172 s_spec_l1Max (y3.1.1,y4.1.1,())).bind fun(y5:Y2_11×Unit)=>bif decide (y0.1.2.1<0)then r0 (i64.wrap (i64.wrap (v0_2+1)+y5.1.1)) (i64.wrap (v0_3+1))else r0 (i64.wrap (i64.wrap (v0_2+1)+y5.1.1)) (i64.wrap (y0.1.2.1+1))else bif y1.1==5 then bif decide (0≤v0_3)then(lget a0 v0_3.toNat).bind fun(y6:Y2_6)=>(call 192 s_spec_l3Steps (a0,i64.wrap (v0_3+1),y0.1.2.1,())).bind fun(y7:Y2_11×Unit)=>bif decide (y0.1.2.1<0)then r0 (i64.wrap (i64.wrap (v0_2+1)+i64.wrap (y6.2.1*i64.wrap (1+y7.1.1)))) (i64.wrap (v0_3+1))else r0 (i64.wrap (i64.wrap (v0_2+1)+i64.wrap (y6.2.1*i64.wrap (1+y7.1.1)))) (i64.wrap (y0.1.2.1+1))else none else bif y1.1==8 then(call 192 s_spec_l3Steps (a0,i64.wrap (v0_3+1),y0.1.1,())).bind fun(y8:Y2_11×Unit)=>(call 192 s_spec_l3Steps (a0,i64.wrap (y0.1.1+1),y0.1.2.1,())).bind fun(y9:Y2_11×Unit)=>bif decide (y0.1.2.1<0)then r0 (i64.wrap (i64.wrap (i64.wrap (v0_2+1)+y8.1.1)+y9.1.1)) (i64.wrap (v0_3+1))else r0 (i64.wrap (i64.wrap (i64.wrap (v0_2+1)+y8.1.1)+y9.1.1)) (i64.wrap (y0.1.2.1+1))else bif decide (y0.1.2.1<0)then r0 (i64.wrap (v0_2+1)) (i64.wrap (v0_3+1))else r0 (i64.wrap (v0_2+1)) (i64.wrap (y0.1.2.1+1))else none else some ((v0_2,()),())
def L0(call:Cl)(k:Nat)(a0:Y2_5)(a2:Int):Nat→(Int)→(Int)→Option R|0,_,_=>none|n+1,v0_2,v0_3=>step0 call k a0 a2 (L0 call k a0 a2 n) v0_2 v0_3
def Fm(call:Cl)(k:Nat)(l0:Y2_4→(Int)→(Int)→(Int)→Option R)(a0:Y2_5)(a1:Int)(a2:Int):Option R:=l0 a0 a2 0 a1
def F(call:Cl)(k:Nat)(a0:Y2_5)(a1:Int)(a2:Int):Option R:=Fm call k (fun a0_ a2_ v0_2_ v0_3_=>L0 call k a0_ a2_ k v0_2_ v0_3_) a0 a1 a2
theorem L0_eq(call:Cl)(k:Nat)(J:Nat→St→Option R)(a0:Y2_5)(a1:Int)(a2:Int):∀(n:Nat)(x:Y2_9),siteI E call n_spec_l3Steps k s_spec_l3Steps (a0,a1,a2,()) J 0 n (S0 a0 a2 x.1 x.2)=L0 call k a0 a2 n x.1 x.2:=by
  refine loop_eq (s:=s_spec_l3Steps) (fun x=>S0 a0 a2 x.1 x.2) (fun n x=>L0 call k a0 a2 n x.1 x.2) (fun r x=>step0 call k a0 a2 (fun v0_2 v0_3=>r (v0_2,v0_3)) x.1 x.2) (fun _=>rfl) (fun _ _=>rfl) fun J0 x=>?_
  kernel_rfl
theorem F_eq(call:Cl)(k:Nat)(a0:Y2_5)(a1:Int)(a2:Int):bodyK E call n_spec_l3Steps k s_spec_l3Steps (a0,a1,a2,())=F call k a0 a1 a2:=by
  exact Eq.trans (b:=Fm call k (fun a0 a2 v0_2_ v0_3_=>siteI E call n_spec_l3Steps k s_spec_l3Steps (a0,a1,a2,()) (fun _ _=>none) 0 k (S0 a0 a2 v0_2_ v0_3_)) a0 a1 a2) (by kernel_rfl) (congrArg (fun l=>Fm call k l a0 a1 a2) (funext fun a0=>funext fun a2=>funext fun v0_2_=>funext fun v0_3_=>L0_eq call k (fun _ _=>none) a0 a1 a2 k (v0_2_,v0_3_)))
end spec_l3Steps
namespace spec_CodeOf
abbrev R:=((Int×Unit)×Unit)
def Fm(call:Cl)(k:Nat)(a0:Y2_0):Option R:=(call 123 s_spec_l1In (a0.1,1,8,())).bind fun(y0:Y2_10×Unit)=>bif !y0.1.1 then some ((1,()),())else(call 188 s_spec_l3Inputs (a0,a0.2.1,true,())).bind fun(y1:Y2_10×Unit)=>bif !y1.1.1 then some ((2,()),())else(call 188 s_spec_l3Inputs (a0,a0.2.2.1,false,())).bind fun(y2:Y2_10×Unit)=>bif !y2.1.1 then some ((2,()),())else(call 144 s_spec_l3AllBits (a0,())).bind fun(y3:Y2_11×Unit)=>bif decide (y3.1.1>10)then some ((2,()),())else(call 189 s_spec_l3Room (a0,())).bind fun(y4:Y2_10×Unit)=>bif !y4.1.1 then some ((3,()),())else(call 190 s_spec_l3Stmts (a0,())).bind fun(y5:Y2_10×Unit)=>bif !y5.1.1 then some ((4,()),())else(call 191 s_spec_l3Block (a0.2.2.2.2.2.1,0,())).bind fun(y6:Y2_11×Unit)=>bif y6.1.1!=(↑(List.length a0.2.2.2.2.2.1):Int)then some ((5,()),())else(call 192 s_spec_l3Steps (a0.2.2.2.2.2.1,0,(↑(List.length a0.2.2.2.2.2.1):Int),())).bind fun(y7:Y2_11×Unit)=>bif decide (y7.1.1>400)then some ((6,()),())else some ((0,()),())
def F(call:Cl)(k:Nat)(a0:Y2_0):Option R:=Fm call k a0
theorem F_eq(call:Cl)(k:Nat)(a0:Y2_0):bodyK E call n_spec_CodeOf k s_spec_CodeOf (a0,())=F call k a0:=by kernel_rfl
end spec_CodeOf
namespace spec_ProgOk
abbrev R:=((Bool×Unit)×Unit)
def Fm(call:Cl)(k:Nat)(a0:Y2_0):Option R:=(call 145 s_spec_CodeOf (a0,())).bind fun(y0:Y2_11×Unit)=>some ((y0.1.1==0,()),())
def F(call:Cl)(k:Nat)(a0:Y2_0):Option R:=Fm call k a0
theorem F_eq(call:Cl)(k:Nat)(a0:Y2_0):bodyK E call n_spec_ProgOk k s_spec_ProgOk (a0,())=F call k a0:=by kernel_rfl
end spec_ProgOk
end Go.Proofs.YtjgfofcgmcnblaaGreat.Pf
namespace Go.Proofs.YtjgfofcgmcnblaaGreat.Pf
open Go Go.Pv
inductive Fs where
  |nil
  |leaf (i:Nat) (r:Fs)
  |one (i e:Nat) (t r:Fs)
  |two (i m e:Nat) (t o r:Fs)
def Fs.trs:Fs→List Tr
  |.nil=>[]
  |.leaf i r=>.mk i [] []::r.trs
  |.one i _ t r=>.mk i t.trs []::r.trs
  |.two i _ _ t o r=>.mk i t.trs o.trs::r.trs
def opAt(b:List Sm)(i:Nat):Int:=if h:i<b.length then b[i].1 else -1
theorem opAt_lt {b:List Sm}{i:Nat}(h:i<b.length):opAt b i=b[i].1:=dif_pos h
theorem opAt_ge {b:List Sm}{i:Nat}(h:¬i<b.length):opAt b i= -1:=dif_neg h
theorem opAt_in {b:List Sm}{i:Nat}{o:Int}(h:opAt b i=o)(ho:o≠-1):i<b.length:=by
  rcases Nat.lt_or_ge i b.length with h1|h1
  . exact h1
  . rw[opAt_ge (by omega)]at h;omega
inductive Seg (b:List Sm):Fs→Nat→Nat→Prop
  |nil {i:Nat} (hi:i≤b.length) (h:i=b.length∨opAt b i=3∨opAt b i=4∨opAt b i=9):Seg b .nil i i
  |leaf {r:Fs} {i j:Nat} (hi:i<b.length) (h:opAt b i≠2∧opAt b i≠3∧opAt b i≠4∧opAt b i≠5∧opAt b i≠8∧opAt b i≠9) (hr:Seg b r (i+1) j):Seg b (.leaf i r) i j
  |one {t r:Fs} {i e j:Nat} (h:opAt b i=2∨opAt b i=5) (ht:Seg b t (i+1) e) (he:opAt b e=4) (hr:Seg b r (e+1) j):Seg b (.one i e t r) i j
  |two {t o r:Fs} {i m e j:Nat} (h:(opAt b i=2∧opAt b m=3)∨(opAt b i=8∧opAt b m=9)) (ht:Seg b t (i+1) m) (ho:Seg b o (m+1) e) (he:opAt b e=4) (hr:Seg b r (e+1) j):Seg b (.two i m e t o r) i j
theorem Seg.le {b:List Sm}{t:Fs}{i j:Nat}(h:Seg b t i j):i≤j∧j≤b.length:=by
  induction h with
  |nil hi h=>omega
  |leaf hi h hr ih=>omega
  |one h ht he hr ih1 ih2=>omega
  |two h ht ho he hr ih1 ih2 ih3=>omega
theorem is_ans(b:List Sm)(hb:b.length≤1048576)(x:Int)(o:Int)(ho:o≠-1):Ans n_spec_l3Is s_spec_l3Is (b,x,o,()) ((bo (0≤x∧opAt b x.toNat=o),()),()):=by
  refine Gv.ans (Gv.of (fun k=>spec_l3Is.F_eq (cl k) k b x o) ?_);unfold spec_l3Is.F spec_l3Is.Fm
  repeat'((first|refine .ba (l1In_ans _ _ _) ?_|refine .t ?_|refine .u ?_|refine .some lg0 ?_|refine .some lg ?_|refine .some lgI ?_|(refine .bif (fun zz=>?_) (fun zz=>?_)<;>try simp(disch:=omega)only[zs,w64,zt]at zz))<;>try dsimp only)
  . refine Tq.ret ?_;rw[bo_beq (Q:=0≤x∧opAt b x.toNat=o)];rw[opAt_lt (by omega)];constructor
    . exact fun h=>⟨by omega,h⟩
    . exact fun h=>h.2
  . refine Tq.ret ?_;rw[bo_f];rintro⟨h1,h2⟩;have:=opAt_in h2 ho;omega
def BlkL(b:List Sm)(i:Nat)(x:Int):Prop:=∀d,b.length-i<d→Tq d (fun k q=>spec_l3Block.L0 (cl k) k b q (i:Int)) (· =((x,()),()))
def Blk(b:List Sm)(i:Nat)(x:Int):Prop:=Ans n_spec_l3Block s_spec_l3Block (b,(i:Int),()) ((x,()),())
def End(b:List Sm)(i:Nat)(x y:Int):Prop:=Ans n_spec_l3End s_spec_l3End (b,(i:Int),()) ((x,y,()),())
theorem BlkL.blk {b:List Sm}{i:Nat}{x:Int}(h:BlkL b i x):Blk b i x:=by
  refine Gv.ans (Gv.of (fun k=>spec_l3Block.F_eq (cl k) k b i) ?_);unfold spec_l3Block.F spec_l3Block.Fm;exact Tq.diag (h (b.length-i+1) (by omega))
section
variable {b:List Sm}(hb:b.length≤1048576)
include hb
theorem end_leaf {i:Nat}(hi:i<b.length)(h:opAt b i≠2∧opAt b i≠5∧opAt b i≠8){x:Int}(h1:Blk b (i+1) x):End b i (-1) (-1):=by
  rw[opAt_lt hi]at h;refine Gv.ans (Gv.of (fun k=>spec_l3End.F_eq (cl k) k b i) ?_);unfold spec_l3End.F spec_l3End.Fm;rw[ws hi (by omega)]
  repeat'((first|refine .ba h1 ?_|refine .ba (is_ans b hb _ _ (by omega)) ?_|refine .t ?_|refine .u ?_|refine .some lg0 ?_|refine .some lg ?_|refine .some lgI ?_|(refine .bif (fun zz=>?_) (fun zz=>?_)<;>try simp(disch:=omega)only[zs,w64,zt]at zz))<;>try dsimp only)
  all_goals exact Tq.ret rfl
theorem end_one {i e:Nat}(h:opAt b i=2∨opAt b i=5)(h1:Blk b (i+1) e)(he:opAt b e=4):End b i (-1) e:=by
  have hi:i<b.length:=by rcases h with h|h<;>exact opAt_in h (by omega)
  rw[opAt_lt hi]at h;refine Gv.ans (Gv.of (fun k=>spec_l3End.F_eq (cl k) k b i) ?_);unfold spec_l3End.F spec_l3End.Fm;rw[ws hi (by omega)]
  repeat'((first|refine .ba h1 ?_|refine .ba (is_ans b hb _ _ (by omega)) ?_|refine .t ?_|refine .u ?_|refine .some lg0 ?_|refine .some lg ?_|refine .some lgI ?_|(refine .bif (fun zz=>?_) (fun zz=>?_)<;>try simp(disch:=omega)only[zs,w64,zt]at zz))<;>try dsimp only)
  all_goals exact Tq.ret rfl
theorem end_two {i m e:Nat}(h:(opAt b i=2∧opAt b m=3)∨(opAt b i=8∧opAt b m=9))(h1:Blk b (i+1) m)(h2:Blk b (m+1) e)(he:opAt b e=4):End b i m e:=by
  have hi:i<b.length:=by rcases h with h|h<;>exact opAt_in h.1 (by omega)
  have hm:m<b.length:=by rcases h with h|h<;>exact opAt_in h.2 (by omega)
  rw[opAt_lt hi]at h;refine Gv.ans (Gv.of (fun k=>spec_l3End.F_eq (cl k) k b i) ?_);unfold spec_l3End.F spec_l3End.Fm;rw[ws hi (by omega)];have h2:Ans n_spec_l3Block s_spec_l3Block (b,IntKind.i64.wrap ((m:Int)+1),()) (((e:Int),()),()):=by rw[ws hm (by omega)];exact h2
  repeat'((first|refine .ba h1 ?_|refine .ba (is_ans b hb _ _ (by omega)) ?_|refine .ba h2 ?_|refine .t ?_|refine .u ?_|refine .some lg0 ?_|refine .some lg ?_|refine .some lgI ?_|(refine .bif (fun zz=>?_) (fun zz=>?_)<;>try simp(disch:=omega)only[zs,w64,zt]at zz))<;>try dsimp only)
  all_goals exact Tq.ret rfl
theorem end_f1 {i:Nat}(hi:i<b.length)(h1:Blk b (i+1) (-1)):End b i (-1) (-1):=by
  refine Gv.ans (Gv.of (fun k=>spec_l3End.F_eq (cl k) k b i) ?_);unfold spec_l3End.F spec_l3End.Fm;rw[ws hi (by omega)]
  repeat'((first|refine .ba h1 ?_|refine .ba (is_ans b hb _ _ (by omega)) ?_|refine .t ?_|refine .u ?_|refine .some lg0 ?_|refine .some lg ?_|refine .some lgI ?_|(refine .bif (fun zz=>?_) (fun zz=>?_)<;>try simp(disch:=omega)only[zs,w64,zt]at zz))<;>try dsimp only)
  all_goals exact Tq.ret rfl
theorem end_f2 {i m:Nat}(hi:i<b.length)(h1:Blk b (i+1) m)(h:¬((opAt b i=2∧opAt b m=3)∨(opAt b i=8∧opAt b m=9)))(h2:¬(opAt b m=4∧opAt b i≠8)):End b i (-1) (-1):=by
  rw[opAt_lt hi]at h h2;refine Gv.ans (Gv.of (fun k=>spec_l3End.F_eq (cl k) k b i) ?_);unfold spec_l3End.F spec_l3End.Fm;rw[ws hi (by omega)]
  repeat'((first|refine .ba h1 ?_|refine .ba (is_ans b hb _ _ (by omega)) ?_|refine .t ?_|refine .u ?_|refine .some lg0 ?_|refine .some lg ?_|refine .some lgI ?_|(refine .bif (fun zz=>?_) (fun zz=>?_)<;>try simp(disch:=omega)only[zs,w64,zt]at zz))<;>try dsimp only)
  all_goals exact Tq.ret rfl
theorem end_f3 {i m:Nat}(h:(opAt b i=2∧opAt b m=3)∨(opAt b i=8∧opAt b m=9))(h1:Blk b (i+1) m){x:Int}(h2:Blk b (m+1) x)(hx:x<0∨opAt b x.toNat≠4):End b i (-1) (-1):=by
  have hi:i<b.length:=by rcases h with h|h<;>exact opAt_in h.1 (by omega)
  have hm:m<b.length:=by rcases h with h|h<;>exact opAt_in h.2 (by omega)
  rw[opAt_lt hi]at h;refine Gv.ans (Gv.of (fun k=>spec_l3End.F_eq (cl k) k b i) ?_);unfold spec_l3End.F spec_l3End.Fm;rw[ws hi (by omega)];have h2:Ans n_spec_l3Block s_spec_l3Block (b,IntKind.i64.wrap ((m:Int)+1),()) ((x,()),()):=by rw[ws hm (by omega)];exact h2
  repeat'((first|refine .ba h1 ?_|refine .ba (is_ans b hb _ _ (by omega)) ?_|refine .ba h2 ?_|refine .t ?_|refine .u ?_|refine .some lg0 ?_|refine .some lg ?_|refine .some lgI ?_|(refine .bif (fun zz=>?_) (fun zz=>?_)<;>try simp(disch:=omega)only[zs,w64,zt]at zz))<;>try dsimp only)
  all_goals exact Tq.ret rfl
theorem blk_nil {i:Nat}(h:i=b.length∨opAt b i=3∨opAt b i=4∨opAt b i=9):BlkL b i i:=by
  intro d hd;obtain⟨d,rfl⟩:∃d',d=d'+1:=⟨d-1,by omega⟩
  refine Tq.succ ?_;show Tq _ (fun k q=>spec_l3Block.step0 (cl k) k ..) _
  unfold spec_l3Block.step0;by_cases hi:i<b.length
  . rw[opAt_lt hi]at h
    repeat'((first|refine .t ?_|refine .u ?_|refine .some lg0 ?_|refine .some lg ?_|refine .some lgI ?_|(refine .bif (fun zz=>?_) (fun zz=>?_)<;>try simp(disch:=omega)only[zs,w64,zt]at zz))<;>try dsimp only)
    all_goals exact Tq.ret rfl
  . repeat'((first|refine .t ?_|refine .u ?_|refine .some lg0 ?_|refine .some lg ?_|refine .some lgI ?_|(refine .bif (fun zz=>?_) (fun zz=>?_)<;>try simp(disch:=omega)only[zs,w64,zt]at zz))<;>try dsimp only)
    all_goals exact Tq.ret rfl
theorem blk_leaf {i:Nat}{x:Int}(hi:i<b.length)(h:opAt b i≠2∧opAt b i≠3∧opAt b i≠4∧opAt b i≠5∧opAt b i≠8∧opAt b i≠9)(hr:BlkL b (i+1) x):BlkL b i x:=by
  intro d hd;obtain⟨d,rfl⟩:∃d',d=d'+1:=⟨d-1,by omega⟩
  refine Tq.succ ?_;show Tq _ (fun k q=>spec_l3Block.step0 (cl k) k ..) _
  unfold spec_l3Block.step0;rw[opAt_lt hi]at h
  repeat'((first|refine .t ?_|refine .u ?_|refine .some lg0 ?_|refine .some lg ?_|refine .some lgI ?_|(refine .bif (fun zz=>?_) (fun zz=>?_)<;>try simp(disch:=omega)only[zs,w64,zt]at zz))<;>try dsimp only)
  rw[ws hi (by omega)];exact hr d (by omega)
theorem blk_node {i e:Nat}{x y:Int}(h:opAt b i=2∨opAt b i=5∨opAt b i=8)(he:i<e∧e<b.length)(hn:End b i y e)(hr:BlkL b (e+1) x):BlkL b i x:=by
  have hi:i<b.length:=by omega
  intro d hd;obtain⟨d,rfl⟩:∃d',d=d'+1:=⟨d-1,by omega⟩
  refine Tq.succ ?_;show Tq _ (fun k q=>spec_l3Block.step0 (cl k) k ..) _
  unfold spec_l3Block.step0;rw[opAt_lt hi]at h
  repeat'((first|refine .ba hn ?_|refine .t ?_|refine .u ?_|refine .some lg0 ?_|refine .some lg ?_|refine .some lgI ?_|(refine .bif (fun zz=>?_) (fun zz=>?_)<;>try simp(disch:=omega)only[zs,w64,zt]at zz))<;>try dsimp only)
  all_goals
    rw[ws he.2 (by omega)];exact hr d (by omega)
theorem blk_fail {i:Nat}(h:opAt b i=2∨opAt b i=5∨opAt b i=8)(hn:End b i (-1) (-1)):BlkL b i (-1):=by
  have hi:i<b.length:=by rcases h with h|h|h<;>exact opAt_in h (by omega)
  intro d hd;obtain⟨d,rfl⟩:∃d',d=d'+1:=⟨d-1,by omega⟩
  refine Tq.succ ?_;show Tq _ (fun k q=>spec_l3Block.step0 (cl k) k ..) _
  unfold spec_l3Block.step0;rw[opAt_lt hi]at h
  repeat'((first|refine .ba hn ?_|refine .t ?_|refine .u ?_|refine .some lg0 ?_|refine .some lg ?_|refine .some lgI ?_|(refine .bif (fun zz=>?_) (fun zz=>?_)<;>try simp(disch:=omega)only[zs,w64,zt]at zz))<;>try dsimp only)
  all_goals exact Tq.ret rfl
theorem blk_seg {t:Fs}{i j:Nat}(h:Seg b t i j):BlkL b i j:=by
  induction h with
  |nil hi h=>exact blk_nil hb h
  |leaf hi h hr ih=>exact blk_leaf hb hi h ih
  | one h ht he hr ih1 ih2=>
    have h1:=ht.le;have h2:=opAt_in he (by omega);exact blk_node hb (by omega) (by omega) (end_one hb h ih1.blk he) ih2
  | two h ht ho he hr ih1 ih2 ih3=>
    have h1:=ht.le;have h3:=ho.le;have h2:=opAt_in he (by omega);exact blk_node hb (by omega) (by omega) (end_two hb h ih1.blk ih2.blk he) ih3
end
end Go.Proofs.YtjgfofcgmcnblaaGreat.Pf
namespace Go.Proofs.YtjgfofcgmcnblaaGreat.Pf
open Go Go.Pv
abbrev Nd:=Int×(List Tr×(List Tr×Unit))
abbrev ManyR:=(List Tr×(Bool×Unit))×((List Sm×(Int×(Int×(Int×Unit))))×Unit)
abbrev OneR:=(Nd×(Bool×Unit))×((List Sm×(Int×(Int×(Int×Unit))))×Unit)
def ManyL(b:List Sm)(i:Nat)(l:List Tr)(j:Nat):Prop:=∀d,b.length-i<d→∀(acc:List Nd)(m e:Int),acc.length≤i→
  Tq d (fun k q=>impl_nester_many.L0 (cl k) k q acc b (i:Int) m e) (fun(r:ManyR)=>∃m' e',r=((acc.map trI++l,true,()),(b,(j:Int),m',e',()),()))
def ManyLF(b:List Sm)(i:Nat):Prop:=∀d,b.length-i<d→∀(acc:List Nd)(m e:Int),acc.length≤i→
  Tq d (fun k q=>impl_nester_many.L0 (cl k) k q acc b (i:Int) m e) (fun(r:ManyR)=>∃l j m' e',r=((l,false,()),(b,j,m',e',()),()))
def Many(b:List Sm)(i:Nat)(l:List Tr)(j:Nat):Prop:=∀(m e:Int),Gv n_impl_nester_many s_impl_nester_many ((b,(i:Int),m,e,()),()) (fun(r:ManyR)=>∃m' e',r=((l,true,()),(b,(j:Int),m',e',()),()))
def ManyF(b:List Sm)(i:Nat):Prop:=∀(m e:Int),Gv n_impl_nester_many s_impl_nester_many ((b,(i:Int),m,e,()),()) (fun(r:ManyR)=>∃l j m' e',r=((l,false,()),(b,j,m',e',()),()))
def One(b:List Sm)(i:Nat)(n1 n2:List Tr)(j:Nat)(Q:Int→Int→Int→Int→Prop):Prop:=∀(m e:Int),Gv n_impl_nester_one s_impl_nester_one ((b,(i:Int),m,e,()),()) (fun(r:OneR)=>∃m' e',Q m e m' e'∧r=((((i:Int),n1,n2,()),true,()),(b,(j:Int),m',e',()),()))
def OneF(b:List Sm)(i:Nat):Prop:=∀(m e:Int),Gv n_impl_nester_one s_impl_nester_one ((b,(i:Int),m,e,()),()) (fun(r:OneR)=>∃x j m' e',r=((x,false,()),(b,j,m',e',()),()))
theorem ManyL.many {b:List Sm}{i j:Nat}{l:List Tr}(h:ManyL b i l j):Many b i l j:=by
  intro m e;refine Gv.of (fun k=>impl_nester_many.F_eq (cl k) k (b,(i:Int),m,e,())) ?_;unfold impl_nester_many.F impl_nester_many.Fm;exact Tq.diag (h (b.length-i+1) (by omega) [] m e (Nat.zero_le _))
theorem ManyLF.many {b:List Sm}{i:Nat}(h:ManyLF b i):ManyF b i:=by
  intro m e;refine Gv.of (fun k=>impl_nester_many.F_eq (cl k) k (b,(i:Int),m,e,())) ?_;unfold impl_nester_many.F impl_nester_many.Fm;exact Tq.diag (h (b.length-i+1) (by omega) [] m e (Nat.zero_le _))
theorem by132:ti260.bytes=56:=rfl
section
variable {b:List Sm}(hb:b.length≤1048576)
include hb
theorem nis_ans(i:Nat)(m e o:Int)(ho:o≠-1):Ans n_impl_nester_is s_impl_nester_is ((b,(i:Int),m,e,()),o,()) ((bo (opAt b i=o),()),(b,(i:Int),m,e,()),()):=by
  refine Gv.ans (Gv.of (fun k=>impl_nester_is.F_eq (cl k) k (b,(i:Int),m,e,()) o) ?_);unfold impl_nester_is.F impl_nester_is.Fm
  repeat'((first|refine .t ?_|refine .u ?_|refine .some lg0 ?_|refine .some lg ?_|refine .some lgI ?_|(refine .bif (fun zz=>?_) (fun zz=>?_)<;>try simp(disch:=omega)only[zs,w64,zt]at zz))<;>try dsimp only)
  . refine Tq.ret ?_;rw[bo_beq (Q:=opAt b i=o)];rw[opAt_lt (by omega)]
  . refine Tq.ret ?_;rw[bo_f];intro h;have:=opAt_in h ho;omega
theorem one_leaf {i:Nat}(hi:i<b.length)(h:opAt b i≠2∧opAt b i≠5∧opAt b i≠8):One b i [] [] (i+1) (fun m e m' e'=>m'=m∧e'=e):=by
  intro m e;rw[opAt_lt hi]at h;refine Gv.of (fun k=>impl_nester_one.F_eq (cl k) k (b,(i:Int),m,e,())) ?_;unfold impl_nester_one.F impl_nester_one.Fm
  repeat'((first|refine .t ?_|refine .u ?_|refine .some lg0 ?_|refine .some lg ?_|refine .some lgI ?_|(refine .bif (fun zz=>?_) (fun zz=>?_)<;>try simp(disch:=omega)only[zs,w64,zt]at zz))<;>try dsimp only)
  rw[ws hi (by omega)];exact Tq.ret ⟨_,_,⟨rfl,rfl⟩,rfl⟩
theorem one_one {i x:Nat}{l:List Tr}(h:opAt b i=2∨opAt b i=5)(h1:Many b (i+1) l x)(he:opAt b x=4):One b i l [] (x+1) (fun _ _ m' e'=>m'= -1∧e'=x):=by
  intro m e;have hi:i<b.length:=by rcases h with h|h<;>exact opAt_in h (by omega)
  have hx:x<b.length:=opAt_in he (by omega);rw[opAt_lt hi]at h;refine Gv.of (fun k=>impl_nester_one.F_eq (cl k) k (b,(i:Int),m,e,())) ?_;unfold impl_nester_one.F impl_nester_one.Fm;rw[ws hi (by omega)]
  repeat'((first|(refine .bind (h1 _ _).tq ?_;rintro y ⟨m',e',rfl⟩)|refine .ba (nis_ans hb _ _ _ _ (by omega)) ?_|refine .t ?_|refine .u ?_|refine .some lg0 ?_|refine .some lg ?_|refine .some lgI ?_|(refine .bif (fun zz=>?_) (fun zz=>?_)<;>try simp(disch:=omega)only[zs,w64,zt]at zz))<;>try dsimp only)
  all_goals
    rw[ws hx (by omega)];exact Tq.ret ⟨_,_,⟨rfl,rfl⟩,rfl⟩
theorem one_two {i x z:Nat}{l l2:List Tr}(h:(opAt b i=2∧opAt b x=3)∨(opAt b i=8∧opAt b x=9))(h1:Many b (i+1) l x)(h2:Many b (x+1) l2 z)(he:opAt b z=4):One b i l l2 (z+1) (fun _ _ m' e'=>m'=x∧e'=z):=by
  intro m e;have hi:i<b.length:=by rcases h with h|h<;>exact opAt_in h.1 (by omega)
  have hx:x<b.length:=by rcases h with h|h<;>exact opAt_in h.2 (by omega)
  have hz:z<b.length:=opAt_in he (by omega);rw[opAt_lt hi]at h;have h2:∀m e:Int,Gv n_impl_nester_many s_impl_nester_many ((b,IntKind.i64.wrap ((x:Int)+1),m,e,()),()) (fun(r:ManyR)=>∃m' e',r=((l2,true,()),(b,(z:Int),m',e',()),())):=by rw[ws hx (by omega)];exact h2
  refine Gv.of (fun k=>impl_nester_one.F_eq (cl k) k (b,(i:Int),m,e,())) ?_;unfold impl_nester_one.F impl_nester_one.Fm;rw[ws hi (by omega)]
  repeat'((first|(refine .bind (h1 _ _).tq ?_;rintro y ⟨m',e',rfl⟩)|(refine .bind (h2 _ _).tq ?_;rintro y ⟨m',e',rfl⟩)|refine .ba (nis_ans hb _ _ _ _ (by omega)) ?_|refine .t ?_|refine .u ?_|refine .some lg0 ?_|refine .some lg ?_|refine .some lgI ?_|(refine .bif (fun zz=>?_) (fun zz=>?_)<;>try simp(disch:=omega)only[zs,w64,zt]at zz))<;>try dsimp only)
  all_goals
    rw[ws hz (by omega)];exact Tq.ret ⟨_,_,⟨rfl,rfl⟩,rfl⟩
theorem one_f1 {i:Nat}(h:opAt b i=2∨opAt b i=5∨opAt b i=8)(h1:ManyF b (i+1)):OneF b i:=by
  intro m e;have hi:i<b.length:=by rcases h with h|h|h<;>exact opAt_in h (by omega)
  rw[opAt_lt hi]at h;refine Gv.of (fun k=>impl_nester_one.F_eq (cl k) k (b,(i:Int),m,e,())) ?_;unfold impl_nester_one.F impl_nester_one.Fm;rw[ws hi (by omega)]
  repeat'((first|(refine .bind (h1 _ _).tq ?_;rintro y ⟨l',j',m',e',rfl⟩)|refine .t ?_|refine .u ?_|refine .some lg0 ?_|refine .some lg ?_|refine .some lgI ?_|(refine .bif (fun zz=>?_) (fun zz=>?_)<;>try simp(disch:=omega)only[zs,w64,zt]at zz))<;>try dsimp only)
  all_goals exact Tq.ret ⟨_,_,_,_,rfl⟩
theorem one_f2 {i x:Nat}{l:List Tr}(h0:opAt b i=2∨opAt b i=5∨opAt b i=8)(h1:Many b (i+1) l x)(h:¬((opAt b i=2∧opAt b x=3)∨(opAt b i=8∧opAt b x=9)))(h2:¬(opAt b x=4∧opAt b i≠8)):OneF b i:=by
  intro m e;have hi:i<b.length:=by rcases h0 with h|h|h<;>exact opAt_in h (by omega)
  rw[opAt_lt hi]at h h2 h0;refine Gv.of (fun k=>impl_nester_one.F_eq (cl k) k (b,(i:Int),m,e,())) ?_;unfold impl_nester_one.F impl_nester_one.Fm;rw[ws hi (by omega)]
  repeat'((first|(refine .bind (h1 _ _).tq ?_;rintro y ⟨m',e',rfl⟩)|refine .ba (nis_ans hb _ _ _ _ (by omega)) ?_|refine .t ?_|refine .u ?_|refine .some lg0 ?_|refine .some lg ?_|refine .some lgI ?_|(refine .bif (fun zz=>?_) (fun zz=>?_)<;>try simp(disch:=omega)only[zs,w64,zt]at zz))<;>try dsimp only)
  all_goals exact Tq.ret ⟨_,_,_,_,rfl⟩
theorem one_f3 {i x:Nat}{l:List Tr}(h:(opAt b i=2∧opAt b x=3)∨(opAt b i=8∧opAt b x=9))(h1:Many b (i+1) l x)(h2:ManyF b (x+1)):OneF b i:=by
  intro m e;have hi:i<b.length:=by rcases h with h|h<;>exact opAt_in h.1 (by omega)
  have hx:x<b.length:=by rcases h with h|h<;>exact opAt_in h.2 (by omega)
  rw[opAt_lt hi]at h;have h2:∀m e:Int,Gv n_impl_nester_many s_impl_nester_many ((b,IntKind.i64.wrap ((x:Int)+1),m,e,()),()) (fun(r:ManyR)=>∃l j m' e',r=((l,false,()),(b,j,m',e',()),())):=by rw[ws hx (by omega)];exact h2
  refine Gv.of (fun k=>impl_nester_one.F_eq (cl k) k (b,(i:Int),m,e,())) ?_;unfold impl_nester_one.F impl_nester_one.Fm;rw[ws hi (by omega)]
  repeat'((first|(refine .bind (h1 _ _).tq ?_;rintro y ⟨m',e',rfl⟩)|(refine .bind (h2 _ _).tq ?_;rintro y ⟨l',j',m',e',rfl⟩)|refine .ba (nis_ans hb _ _ _ _ (by omega)) ?_|refine .t ?_|refine .u ?_|refine .some lg0 ?_|refine .some lg ?_|refine .some lgI ?_|(refine .bif (fun zz=>?_) (fun zz=>?_)<;>try simp(disch:=omega)only[zs,w64,zt]at zz))<;>try dsimp only)
  all_goals exact Tq.ret ⟨_,_,_,_,rfl⟩
theorem one_f4 {i x z:Nat}{l l2:List Tr}(h:(opAt b i=2∧opAt b x=3)∨(opAt b i=8∧opAt b x=9))(h1:Many b (i+1) l x)(h2:Many b (x+1) l2 z)(he:opAt b z≠4):OneF b i:=by
  intro m e;have hi:i<b.length:=by rcases h with h|h<;>exact opAt_in h.1 (by omega)
  have hx:x<b.length:=by rcases h with h|h<;>exact opAt_in h.2 (by omega)
  rw[opAt_lt hi]at h;have h2:∀m e:Int,Gv n_impl_nester_many s_impl_nester_many ((b,IntKind.i64.wrap ((x:Int)+1),m,e,()),()) (fun(r:ManyR)=>∃m' e',r=((l2,true,()),(b,(z:Int),m',e',()),())):=by rw[ws hx (by omega)];exact h2
  refine Gv.of (fun k=>impl_nester_one.F_eq (cl k) k (b,(i:Int),m,e,())) ?_;unfold impl_nester_one.F impl_nester_one.Fm;rw[ws hi (by omega)]
  repeat'((first|(refine .bind (h1 _ _).tq ?_;rintro y ⟨m',e',rfl⟩)|(refine .bind (h2 _ _).tq ?_;rintro y ⟨m',e',rfl⟩)|refine .ba (nis_ans hb _ _ _ _ (by omega)) ?_|refine .t ?_|refine .u ?_|refine .some lg0 ?_|refine .some lg ?_|refine .some lgI ?_|(refine .bif (fun zz=>?_) (fun zz=>?_)<;>try simp(disch:=omega)only[zs,w64,zt]at zz))<;>try dsimp only)
  all_goals exact Tq.ret ⟨_,_,_,_,rfl⟩
theorem many_nil {i:Nat}(h:i=b.length∨opAt b i=3∨opAt b i=4∨opAt b i=9):ManyL b i [] i:=by
  intro d hd acc m e hacc;obtain⟨d,rfl⟩:∃d',d=d'+1:=⟨d-1,by omega⟩
  refine Tq.succ ?_;show Tq _ (fun k q=>impl_nester_many.step0 (cl k) k ..) _
  unfold impl_nester_many.step0
  repeat'((first|refine .ba (nis_ans hb _ _ _ _ (by omega)) ?_|refine .t ?_|refine .u ?_|refine .some lg0 ?_|refine .some lg ?_|refine .some lgI ?_|(refine .bif (fun zz=>?_) (fun zz=>?_)<;>try simp(disch:=omega)only[zs,w64,zt]at zz))<;>try dsimp only)
  all_goals first
    |exact Tq.ret ⟨_,_,by rw[List.append_nil]⟩
    |omega
theorem many_cons {i j x:Nat}{n1 n2 l:List Tr}{Q:Int→Int→Int→Int→Prop}(hi:i<b.length)(hx:i<x)(h:opAt b i≠3∧opAt b i≠4∧opAt b i≠9)(h1:One b i n1 n2 x Q)(hr:ManyL b x l j):ManyL b i (.mk i n1 n2::l) j:=by
  intro d hd acc m e hacc;obtain⟨d,rfl⟩:∃d',d=d'+1:=⟨d-1,by omega⟩
  refine Tq.succ ?_;show Tq _ (fun k q=>impl_nester_many.step0 (cl k) k ..) _
  unfold impl_nester_many.step0
  repeat'((first|(refine Tq.bt (apb (by rw[by132];simp only[List.length_cons,List.length_nil];omega)) ?_)|refine .ba (nis_ans hb _ _ _ _ (by omega)) ?_|(refine .bind (h1 _ _).tq ?_;rintro y ⟨m',e',hq,rfl⟩)|refine .t ?_|refine .u ?_|refine .some lg0 ?_|refine .some lg ?_|refine .some lgI ?_|(refine .bif (fun zz=>?_) (fun zz=>?_)<;>try simp(disch:=omega)only[zs,w64,zt]at zz))<;>try dsimp only)
  refine(hr d (by omega) _ _ _ (by simp;omega)).mono ?_;rintro r ⟨m',e',rfl⟩;exact⟨m',e',by simp⟩
theorem many_fail {i:Nat}(hi:i<b.length)(h:opAt b i≠3∧opAt b i≠4∧opAt b i≠9)(h1:OneF b i):ManyLF b i:=by
  intro d hd acc m e hacc;obtain⟨d,rfl⟩:∃d',d=d'+1:=⟨d-1,by omega⟩
  refine Tq.succ ?_;show Tq _ (fun k q=>impl_nester_many.step0 (cl k) k ..) _
  unfold impl_nester_many.step0
  repeat'((first|refine .ba (nis_ans hb _ _ _ _ (by omega)) ?_|(refine .bind (h1 _ _).tq ?_;rintro y ⟨x',j',m',e',rfl⟩)|refine .t ?_|refine .u ?_|refine .some lg0 ?_|refine .some lg ?_|refine .some lgI ?_|(refine .bif (fun zz=>?_) (fun zz=>?_)<;>try simp(disch:=omega)only[zs,w64,zt]at zz))<;>try dsimp only)
  exact Tq.ret ⟨_,_,_,_,rfl⟩
theorem many_later {i x:Nat}{n1 n2:List Tr}{Q:Int→Int→Int→Int→Prop}(hi:i<b.length)(hx:i<x)(h:opAt b i≠3∧opAt b i≠4∧opAt b i≠9)(h1:One b i n1 n2 x Q)(hr:ManyLF b x):ManyLF b i:=by
  intro d hd acc m e hacc;obtain⟨d,rfl⟩:∃d',d=d'+1:=⟨d-1,by omega⟩
  refine Tq.succ ?_;show Tq _ (fun k q=>impl_nester_many.step0 (cl k) k ..) _
  unfold impl_nester_many.step0
  repeat'((first|(refine Tq.bt (apb (by rw[by132];simp only[List.length_cons,List.length_nil];omega)) ?_)|refine .ba (nis_ans hb _ _ _ _ (by omega)) ?_|(refine .bind (h1 _ _).tq ?_;rintro y ⟨m',e',hq,rfl⟩)|refine .t ?_|refine .u ?_|refine .some lg0 ?_|refine .some lg ?_|refine .some lgI ?_|(refine .bif (fun zz=>?_) (fun zz=>?_)<;>try simp(disch:=omega)only[zs,w64,zt]at zz))<;>try dsimp only)
  exact hr d (by omega) _ _ _ (by simp;omega)
theorem many_seg {t:Fs}{i j:Nat}(h:Seg b t i j):ManyL b i t.trs j:=by
  induction h with
  |nil hi h=>exact many_nil hb h
  |leaf hi h hr ih=>exact many_cons hb hi (Nat.lt_succ_self _) (by omega) (one_leaf hb hi (by omega)) ih
  | one h ht he hr ih1 ih2=>
    have h1:=ht.le;have h2:=opAt_in he (by omega);exact many_cons hb (by omega) (by omega) (by omega) (one_one hb h ih1.many he) ih2
  | two h ht ho he hr ih1 ih2 ih3=>
    have h1:=ht.le;have h3:=ho.le;have h2:=opAt_in he (by omega);exact many_cons hb (by omega) (by omega) (by omega) (one_two hb h ih1.many ih2.many he) ih3
theorem nest_total:∀(n i:Nat),b.length-i≤n→i≤b.length→(∃t j,Seg b t i j)∨(BlkL b i (-1)∧ManyLF b i):=by
  intro n
  induction n with
  | zero=>
    intro i hn hi;exact .inl ⟨.nil,i,.nil hi (by omega)⟩
  | succ n ih =>
    intro i hn hi;by_cases h0:i=b.length∨opAt b i=3∨opAt b i=4∨opAt b i=9
    . exact .inl ⟨.nil,i,.nil hi h0⟩
    have hi:i<b.length:=by omega
    by_cases h1:opAt b i=2∨opAt b i=5∨opAt b i=8
    . rcases ih (i+1) (by omega) (by omega)with⟨t,x,ht⟩|⟨f1,f2⟩
      . have hx:=ht.le;have A:=blk_seg hb ht;have B:=many_seg hb ht;by_cases h2:(opAt b i=2∧opAt b x=3)∨(opAt b i=8∧opAt b x=9)
        . have hx2:x<b.length:=by rcases h2 with h|h<;>exact opAt_in h.2 (by omega)
          rcases ih (x+1) (by omega) (by omega)with⟨o,z,ho⟩|⟨f1,f2⟩
          . have hz:=ho.le;have A2:=blk_seg hb ho;have B2:=many_seg hb ho;by_cases h3:opAt b z=4
            . have hz2:=opAt_in h3 (by omega);rcases ih (z+1) (by omega) (by omega)with⟨r,j,hr⟩|⟨f1,f2⟩
              . exact .inl ⟨_,_,.two h2 ht ho h3 hr⟩
              . exact .inr ⟨blk_node hb (by omega) (by omega) (end_two hb h2 A.blk A2.blk h3) f1,many_later hb hi (by omega) (by omega) (one_two hb h2 B.many B2.many h3) f2⟩
            . exact .inr ⟨blk_fail hb (by omega) (end_f3 hb h2 A.blk A2.blk (.inr h3)),many_fail hb hi (by omega) (one_f4 hb h2 B.many B2.many h3)⟩
          . exact .inr ⟨blk_fail hb (by omega) (end_f3 hb h2 A.blk f1.blk (.inl (by omega))),many_fail hb hi (by omega) (one_f3 hb h2 B.many f2.many)⟩
        . by_cases h3:opAt b x=4∧opAt b i≠8
          . have hx2:=opAt_in h3.1 (by omega);rcases ih (x+1) (by omega) (by omega)with⟨r,j,hr⟩|⟨f1,f2⟩
            . exact .inl ⟨_,_,.one (by omega) ht h3.1 hr⟩
            . exact .inr ⟨blk_node hb (by omega) (by omega) (end_one hb (by omega) A.blk h3.1) f1,many_later hb hi (by omega) (by omega) (one_one hb (by omega) B.many h3.1) f2⟩
          . exact .inr ⟨blk_fail hb (by omega) (end_f2 hb hi A.blk h2 h3),many_fail hb hi (by omega) (one_f2 hb (by omega) B.many h2 h3)⟩
      . exact .inr ⟨blk_fail hb (by omega) (end_f1 hb hi f1.blk),many_fail hb hi (by omega) (one_f1 hb (by omega) f2.many)⟩
    . rcases ih (i+1) (by omega) (by omega)with⟨t,x,ht⟩|⟨f1,f2⟩
      . exact .inl ⟨_,_,.leaf hi (by omega) ht⟩
      . exact .inr ⟨blk_leaf hb hi (by omega) f1,many_later hb hi (Nat.lt_succ_self _) (by omega) (one_leaf hb hi (by omega)) f2⟩
end
end Go.Proofs.YtjgfofcgmcnblaaGreat.Pf
namespace Go.Proofs.YtjgfofcgmcnblaaGreat.Pf
open Go Go.Pv
theorem ret1 {a b:Int}(h:a=b):(((a,()),()):(Int×Unit)×Unit)=((b,()),()):=by rw[h]
theorem drop_get {α:Type}{l:List α}{n:Nat}{x:α}{r:List α}(h:l.drop n=x::r):n<l.length∧lget l n=some x∧l.drop (n+1)=r:=by
  have h1:n<l.length:=by
    rcases Nat.lt_or_ge n l.length with h1|h1
    . exact h1
    . rw[List.drop_of_length_le h1]at h;cases h
  rw[List.drop_eq_getElem_cons h1]at h;obtain⟨h2,h3⟩:=List.cons.inj h;exact⟨h1,by rw[lgn h1,h2],h3⟩
theorem drop_nil {α:Type}{l:List α}{n:Nat}(h:l.drop n=[]):l.length≤n:=List.drop_eq_nil_iff.1 h
def NAt(b:List Sm)(i:Nat):Int:=if h:i<b.length then b[i].2.1 else 0
theorem NAt_lt {b:List Sm}{i:Nat}(h:i<b.length):NAt b i=b[i].2.1:=dif_pos h
def Fs.steps(b:List Sm):Fs→Int
  |.nil=>0
  |.leaf _ r=>1+r.steps b
  |.one i _ t r=>(if opAt b i=2 then 1+t.steps b else 1+NAt b i*(1+t.steps b))+r.steps b
  |.two i _ _ t o r=>(if opAt b i=2 then 1+max (t.steps b) (o.steps b)else 1+t.steps b+o.steps b)+r.steps b
def LoopOk(b:List Sm):Prop:=∀i,opAt b i=5→0≤NAt b i∧NAt b i≤4
theorem LoopOk.c {b:List Sm}(h:LoopOk b){i:Nat}(hi:opAt b i=5):NAt b i=0∨NAt b i=1∨NAt b i=2∨NAt b i=3∨NAt b i=4:=by
  have:=h i hi;omega
theorem mul_up {A B:Int}(ha:1≤A)(hb:1≤B):A+B≤A*B+1:=by
  have h:=Int.mul_nonneg (show 0≤A-1 by omega) (show 0≤B-1 by omega);rw[Int.sub_mul,Int.mul_sub]at h;omega
theorem pow_one_le(n:Nat):(1:Int)≤2^n:=by
  have:(0:Int)<2^n:=Int.pow_pos (by omega);omega
theorem steps_bd {b:List Sm}(hN:LoopOk b){t:Fs}{i j:Nat}(h:Seg b t i j):0≤t.steps b∧t.steps b≤3*2^(j-i)-3:=by
  induction h with
  | @nil i hi h=>
    rw[Nat.sub_self];exact⟨Int.le_refl _,by unfold Fs.steps;decide⟩
  | @leaf r i j hi h hr ih=>
    have:=hr.le;have h1:=pow_one_le (j-(i+1));rw[show j-i=j-(i+1)+1 by omega,Int.pow_succ];unfold Fs.steps;omega
  | @one t r i e j h ht he hr ih1 ih2=>
    have h1:=ht.le;have h2:=hr.le;have a1:=pow_one_le (e-(i+1));have a2:=pow_one_le (j-(e+1));have m1:=mul_up a1 a2;rw[show j-i=(e-(i+1))+(j-(e+1))+2 by omega,Int.pow_add,Int.pow_add];generalize(2:Int)^(e-(i+1))*(2:Int)^(j-(e+1))=AB at*;unfold Fs.steps;rcases h with h|h
    . rw[if_pos h];omega
    . rw[if_neg (by omega)];rcases hN.c h with e|e|e|e|e<;>rw[e]<;>omega
  | @two t o r i m e j h ht ho he hr ih1 ih2 ih3=>
    have h1:=ht.le;have h2:=ho.le;have h3:=hr.le;have a1:=pow_one_le (m-(i+1));have a2:=pow_one_le (e-(m+1));have a3:=pow_one_le (j-(e+1));have m1:=mul_up a1 a2;have m2:=mul_up (A:=(2:Int)^(m-(i+1))*(2:Int)^(e-(m+1))) (by omega) a3;rw[show j-i=(m-(i+1))+(e-(m+1))+(j-(e+1))+3 by omega,Int.pow_add,Int.pow_add,Int.pow_add];generalize(2:Int)^(m-(i+1))*(2:Int)^(e-(m+1))=AB at*;generalize AB*(2:Int)^(j-(e+1))=ABC at*;unfold Fs.steps;split<;>omega
theorem steps_40 {b:List Sm}(hN:LoopOk b)(hb:b.length≤40){t:Fs}{i j:Nat}(h:Seg b t i j):0≤t.steps b∧t.steps b≤3298534883328:=by
  have h1:=steps_bd hN h;have h2:=h.le;have h3:(2:Int)^(j-i)*2^(40-(j-i))=1099511627776:=by
    rw[←Int.pow_add,show j-i+(40-(j-i))=40 by omega];decide
  have h4:=pow_one_le (40-(j-i));have h5:=mul_up (pow_one_le (j-i)) h4;omega
def StpL(b:List Sm)(i:Nat)(l0:List Tr)(x:Int):Prop:=∀d,b.length-i<d→∀(l:List Tr)(v:Int)(n:Nat),l.drop n=l0→n≤i→0≤v→v≤4000→
  Tq d (fun k q=>impl_stepsIn.L0 (cl k) k b l q v (n:Int)) (· =((min (v+x) 4000,()),()))
def Stp(b:List Sm)(l0:List Tr)(x:Int):Prop:=Ans n_impl_stepsIn s_impl_stepsIn (b,l0,()) ((min x 4000,()),())
theorem StpL.stp {b:List Sm}{i:Nat}{l0:List Tr}{x:Int}(h:StpL b i l0 x):Stp b l0 x:=by
  refine Gv.ans (Gv.of (fun k=>impl_stepsIn.F_eq (cl k) k b l0) ?_);unfold impl_stepsIn.F impl_stepsIn.Fm;rw[show x=0+x by omega];exact Tq.diag (h (b.length-i+1) (by omega) l0 0 0 rfl (by omega) (by omega) (by omega))
section
variable {b:List Sm}(hb:b.length≤1048576)
include hb
theorem stp_nil {i:Nat}(hi:i≤b.length):StpL b i [] 0:=by
  intro d hd l v n hl hn h0 h1;obtain⟨d,rfl⟩:∃d',d=d'+1:=⟨d-1,by omega⟩
  have:=drop_nil hl;refine Tq.succ ?_;show Tq _ (fun k q=>impl_stepsIn.step0 (cl k) k ..) _
  unfold impl_stepsIn.step0
  repeat'((first|refine .t ?_|refine .u ?_|refine .some lg0 ?_|refine .some lg ?_|refine .some lgI ?_|(refine .bif (fun zz=>?_) (fun zz=>?_)<;>try simp(disch:=omega)only[zs,w64,zt]at zz))<;>try dsimp only)
  exact Tq.ret (ret1 (by omega))
theorem stp_leaf {i:Nat}{l0:List Tr}{x:Int}(hi:i<b.length)(hx:0≤x)(h:opAt b i≠2∧opAt b i≠5∧opAt b i≠8)(hr:StpL b (i+1) l0 x):StpL b i (.mk i [] []::l0) (1+x):=by
  intro d hd l v n hl hn h0 h1;obtain⟨d,rfl⟩:∃d',d=d'+1:=⟨d-1,by omega⟩
  obtain⟨k1,k2,k3⟩:=drop_get hl;rw[opAt_lt hi]at h;refine Tq.succ ?_;show Tq _ (fun k q=>impl_stepsIn.step0 (cl k) k ..) _
  unfold impl_stepsIn.step0;rw[Int.toNat_natCast]
  repeat'((first|(refine Tq.some k2 ?_;dsimp only[Tr.n,Tr.b,Tr.o])|refine .t ?_|refine .u ?_|refine .some lg0 ?_|refine .some lg ?_|refine .some lgI ?_|(refine .bif (fun zz=>?_) (fun zz=>?_)<;>try simp(disch:=omega)only[zs,w64,zt]at zz))<;>try dsimp only)
  simp(disch:=omega)only[w64];refine(hr d (by omega) l _ (n+1) k3 (by omega) (by omega) (by omega)).mono ?_;rintro _ rfl;exact ret1 (by omega)
theorem stp_if {i e:Nat}{l1 l2 l0:List Tr}{x1 x2 x:Int}(h:opAt b i=2)(he:i<e∧e<b.length)(hx:0≤x∧0≤x1∧0≤x2)(h1:Stp b l1 x1)(h2:Stp b l2 x2)(hr:StpL b (e+1) l0 x):StpL b i (.mk i l1 l2::l0) (1+max x1 x2+x):=by
  intro d hd l v n hl hn h0 h3;obtain⟨d,rfl⟩:∃d',d=d'+1:=⟨d-1,by omega⟩
  obtain⟨k1,k2,k3⟩:=drop_get hl;have hi:=opAt_in h (by omega);rw[opAt_lt hi]at h;refine Tq.succ ?_;show Tq _ (fun k q=>impl_stepsIn.step0 (cl k) k ..) _
  unfold impl_stepsIn.step0;rw[Int.toNat_natCast]
  repeat'((first|(refine Tq.some k2 ?_;dsimp only[Tr.n,Tr.b,Tr.o])|refine .ba h1 ?_|refine .ba h2 ?_|refine .t ?_|refine .u ?_|refine .some lg0 ?_|refine .some lg ?_|refine .some lgI ?_|(refine .bif (fun zz=>?_) (fun zz=>?_)<;>try simp(disch:=omega)only[zs,w64,zt]at zz))<;>try dsimp only)
  simp(disch:=omega)only[w64];refine(hr d (by omega) l _ (n+1) k3 (by omega) (by omega) (by omega)).mono ?_;rintro _ rfl;exact ret1 (by omega)
theorem stp_loop {i e:Nat}{l1 l0:List Tr}{x1 x:Int}(h:opAt b i=5)(he:i<e∧e<b.length)(hN:0≤NAt b i∧NAt b i≤4)(hx:0≤x∧0≤x1)(h1:Stp b l1 x1)(hr:StpL b (e+1) l0 x):StpL b i (.mk i l1 []::l0) (1+NAt b i*(1+x1)+x):=by
  intro d hd l v n hl hn h0 h3;obtain⟨d,rfl⟩:∃d',d=d'+1:=⟨d-1,by omega⟩
  obtain⟨k1,k2,k3⟩:=drop_get hl;have hi:=opAt_in h (by omega);have hN2:NAt b i=0∨NAt b i=1∨NAt b i=2∨NAt b i=3∨NAt b i=4:=by omega
  rw[NAt_lt hi]at*;rw[opAt_lt hi]at h;refine Tq.succ ?_;show Tq _ (fun k q=>impl_stepsIn.step0 (cl k) k ..) _
  unfold impl_stepsIn.step0;rw[Int.toNat_natCast]
  repeat'((first|(refine Tq.some k2 ?_;dsimp only[Tr.n,Tr.b,Tr.o])|refine .ba h1 ?_|refine .t ?_|refine .u ?_|refine .some lg0 ?_|refine .some lg ?_|refine .some lgI ?_|(refine .bif (fun zz=>?_) (fun zz=>?_)<;>try simp(disch:=omega)only[zs,w64,zt]at zz))<;>try dsimp only)
  rcases hN2 with e|e|e|e|e
  all_goals
    rw[e];simp(disch:=omega)only[w64];refine(hr d (by omega) l _ (n+1) k3 (by omega) (by omega) (by omega)).mono ?_;rintro _ rfl;exact ret1 (by omega)
theorem stp_try {i e:Nat}{l1 l2 l0:List Tr}{x1 x2 x:Int}(h:opAt b i=8)(he:i<e∧e<b.length)(hx:0≤x∧0≤x1∧0≤x2)(h1:Stp b l1 x1)(h2:Stp b l2 x2)(hr:StpL b (e+1) l0 x):StpL b i (.mk i l1 l2::l0) (1+x1+x2+x):=by
  intro d hd l v n hl hn h0 h3;obtain⟨d,rfl⟩:∃d',d=d'+1:=⟨d-1,by omega⟩
  obtain⟨k1,k2,k3⟩:=drop_get hl;have hi:=opAt_in h (by omega);rw[opAt_lt hi]at h;refine Tq.succ ?_;show Tq _ (fun k q=>impl_stepsIn.step0 (cl k) k ..) _
  unfold impl_stepsIn.step0;rw[Int.toNat_natCast]
  repeat'((first|(refine Tq.some k2 ?_;dsimp only[Tr.n,Tr.b,Tr.o])|refine .ba h1 ?_|refine .ba h2 ?_|refine .t ?_|refine .u ?_|refine .some lg0 ?_|refine .some lg ?_|refine .some lgI ?_|(refine .bif (fun zz=>?_) (fun zz=>?_)<;>try simp(disch:=omega)only[zs,w64,zt]at zz))<;>try dsimp only)
  simp(disch:=omega)only[w64];refine(hr d (by omega) l _ (n+1) k3 (by omega) (by omega) (by omega)).mono ?_;rintro _ rfl;exact ret1 (by omega)
theorem stp_seg(hN:LoopOk b){t:Fs}{i j:Nat}(h:Seg b t i j):StpL b i t.trs (t.steps b):=by
  induction h with
  |nil hi h=>exact stp_nil hb hi
  |leaf hi h hr ih=>exact stp_leaf hb hi (steps_bd hN hr).1 (by omega) ih
  | one h ht he hr ih1 ih2=>
    have h1:=ht.le;have h2:=opAt_in he (by omega);have b1:=(steps_bd hN ht).1;have b2:=(steps_bd hN hr).1;unfold Fs.steps;rcases h with h|h
    . rw[if_pos h];have:=stp_if hb h (by omega) ⟨b2,b1,Int.le_refl 0⟩ ih1.stp (stp_nil hb (Nat.le_refl _)).stp ih2;rw[Int.max_eq_left b1]at this;exact this
    . rw[if_neg (by omega)];exact stp_loop hb h (by omega) (hN _ h) ⟨b2,b1⟩ ih1.stp ih2
  | two h ht ho he hr ih1 ih2 ih3=>
    have h1:=ht.le;have h3:=ho.le;have h2:=opAt_in he (by omega);have b1:=(steps_bd hN ht).1;have b2:=(steps_bd hN ho).1;have b3:=(steps_bd hN hr).1;unfold Fs.steps;rcases h with h|h
    . rw[if_pos h.1];exact stp_if hb h.1 (by omega) ⟨b3,b1,b2⟩ ih1.stp ih2.stp ih3
    . rw[if_neg (by omega)];exact stp_try hb h.1 (by omega) ⟨b3,b1,b2⟩ ih1.stp ih2.stp ih3
end
end Go.Proofs.YtjgfofcgmcnblaaGreat.Pf
namespace Go.Proofs.YtjgfofcgmcnblaaGreat.Pf
open Go Go.Pv
theorem l1Max_ans(a b:Int):Ans n_spec_l1Max s_spec_l1Max (a,b,()) ((max a b,()),()):=by
  refine Gv.ans (Gv.of (fun k=>spec_l1Max.F_eq (cl k) k a b) ?_);unfold spec_l1Max.F spec_l1Max.Fm
  repeat'((first|refine .t ?_|refine .u ?_|refine .some lg0 ?_|refine .some lg ?_|refine .some lgI ?_|(refine .bif (fun zz=>?_) (fun zz=>?_)<;>try simp(disch:=omega)only[zs,w64,zt]at zz))<;>try dsimp only)
  all_goals exact Tq.ret (ret1 (by omega))
def SstL(b:List Sm)(i j:Nat)(x:Int):Prop:=∀d,j-i<d→∀(n:Int),0≤n→n+x≤4398046511104000→
  Tq d (fun k q=>spec_l3Steps.L0 (cl k) k b (j:Int) q n (i:Int)) (· =((n+x,()),()))
def Sst(b:List Sm)(i j:Nat)(x:Int):Prop:=Ans n_spec_l3Steps s_spec_l3Steps (b,(i:Int),(j:Int),()) ((x,()),())
theorem SstL.sst {b:List Sm}{i j:Nat}{x:Int}(h:SstL b i j x)(hx:x≤4398046511104):Sst b i j x:=by
  refine Gv.ans (Gv.of (fun k=>spec_l3Steps.F_eq (cl k) k b i j) ?_);unfold spec_l3Steps.F spec_l3Steps.Fm;rw[show x=0+x by omega];exact Tq.diag (h (j-i+1) (by omega) 0 (by omega) (by omega))
section
variable {b:List Sm}(hb:b.length≤40)
include hb
theorem sst_nil {i:Nat}:SstL b i i 0:=by
  intro d hd n h0 h1;obtain⟨d,rfl⟩:∃d',d=d'+1:=⟨d-1,by omega⟩
  refine Tq.succ ?_;show Tq _ (fun k q=>spec_l3Steps.step0 (cl k) k ..) _
  unfold spec_l3Steps.step0
  repeat'((first|refine .t ?_|refine .u ?_|refine .some lg0 ?_|refine .some lg ?_|refine .some lgI ?_|(refine .bif (fun zz=>?_) (fun zz=>?_)<;>try simp(disch:=omega)only[zs,w64,zt]at zz))<;>try dsimp only)
  exact Tq.ret (ret1 (by omega))
theorem sst_leaf {i j:Nat}{x:Int}(hi:i<b.length)(hj:i<j)(hx:0≤x∧x≤4398046511104)(h:opAt b i≠2∧opAt b i≠5∧opAt b i≠8)(hE:End b i (-1) (-1))(hr:SstL b (i+1) j x):SstL b i j (1+x):=by
  intro d hd n h0 h1;obtain⟨d,rfl⟩:∃d',d=d'+1:=⟨d-1,by omega⟩
  rw[opAt_lt hi]at h;refine Tq.succ ?_;show Tq _ (fun k q=>spec_l3Steps.step0 (cl k) k ..) _
  unfold spec_l3Steps.step0
  repeat'((first|refine .ba hE ?_|refine .t ?_|refine .u ?_|refine .some lg0 ?_|refine .some lg ?_|refine .some lgI ?_|(refine .bif (fun zz=>?_) (fun zz=>?_)<;>try simp(disch:=omega)only[zs,w64,zt]at zz))<;>try dsimp only)
  rw[ws hi (by omega)];simp(disch:=omega)only[w64];refine(hr d (by omega) _ (by omega) (by omega)).mono ?_;rintro _ rfl;exact ret1 (by omega)
theorem sst_if1 {i e j:Nat}{x1 x:Int}(h:opAt b i=2)(he:i<e∧e<b.length∧e<j)(hx:0≤x∧x≤4398046511104∧0≤x1∧x1≤4398046511104)(hE:End b i (-1) e)(h1:Sst b (i+1) e x1)(hr:SstL b (e+1) j x):SstL b i j (1+x1+x):=by
  intro d hd n h0 h3;obtain⟨d,rfl⟩:∃d',d=d'+1:=⟨d-1,by omega⟩
  have hi:=opAt_in h (by omega);rw[opAt_lt hi]at h;refine Tq.succ ?_;show Tq _ (fun k q=>spec_l3Steps.step0 (cl k) k ..) _
  unfold spec_l3Steps.step0;rw[ws hi (by omega)]
  repeat'((first|refine .ba hE ?_|refine .ba h1 ?_|refine .t ?_|refine .u ?_|refine .some lg0 ?_|refine .some lg ?_|refine .some lgI ?_|(refine .bif (fun zz=>?_) (fun zz=>?_)<;>try simp(disch:=omega)only[zs,w64,zt]at zz))<;>try dsimp only)
  rw[ws he.2.1 (by omega)];simp(disch:=omega)only[w64];refine(hr d (by omega) _ (by omega) (by omega)).mono ?_;rintro _ rfl;exact ret1 (by omega)
theorem sst_if2 {i m e j:Nat}{x1 x2 x:Int}(h:opAt b i=2)(he:i<m∧m<e∧e<b.length∧e<j)(hx:0≤x∧x≤4398046511104∧0≤x1∧x1≤4398046511104∧0≤x2∧x2≤4398046511104)(hE:End b i m e)(h1:Sst b (i+1) m x1)(h2:Sst b (m+1) e x2)(hr:SstL b (e+1) j x):SstL b i j (1+max x1 x2+x):=by
  intro d hd n h0 h3;obtain⟨d,rfl⟩:∃d',d=d'+1:=⟨d-1,by omega⟩
  have hi:=opAt_in h (by omega);rw[opAt_lt hi]at h;have hm:m<b.length:=by omega
  have h2:Ans n_spec_l3Steps s_spec_l3Steps (b,IntKind.i64.wrap ((m:Int)+1),(e:Int),()) ((x2,()),()):=by rw[ws hm (by omega)];exact h2
  refine Tq.succ ?_;show Tq _ (fun k q=>spec_l3Steps.step0 (cl k) k ..) _
  unfold spec_l3Steps.step0;rw[ws hi (by omega)]
  repeat'((first|refine .ba hE ?_|refine .ba h1 ?_|refine .ba h2 ?_|refine .ba (l1Max_ans _ _) ?_|refine .t ?_|refine .u ?_|refine .some lg0 ?_|refine .some lg ?_|refine .some lgI ?_|(refine .bif (fun zz=>?_) (fun zz=>?_)<;>try simp(disch:=omega)only[zs,w64,zt]at zz))<;>try dsimp only)
  rw[ws he.2.2.1 (by omega)];simp(disch:=omega)only[w64];refine(hr d (by omega) _ (by omega) (by omega)).mono ?_;rintro _ rfl;exact ret1 (by omega)
theorem sst_loop {i e j:Nat}{x1 x:Int}(h:opAt b i=5)(he:i<e∧e<b.length∧e<j)(hN:0≤NAt b i∧NAt b i≤4)(hx:0≤x∧x≤4398046511104∧0≤x1∧x1≤4398046511104)(hE:End b i (-1) e)(h1:Sst b (i+1) e x1)(hr:SstL b (e+1) j x):SstL b i j (1+NAt b i*(1+x1)+x):=by
  intro d hd n h0 h3;obtain⟨d,rfl⟩:∃d',d=d'+1:=⟨d-1,by omega⟩
  have hi:=opAt_in h (by omega);have hN2:NAt b i=0∨NAt b i=1∨NAt b i=2∨NAt b i=3∨NAt b i=4:=by omega
  rw[NAt_lt hi]at*;rw[opAt_lt hi]at h;refine Tq.succ ?_;show Tq _ (fun k q=>spec_l3Steps.step0 (cl k) k ..) _
  unfold spec_l3Steps.step0;rw[ws hi (by omega)]
  repeat'((first|refine .ba hE ?_|refine .ba h1 ?_|refine .t ?_|refine .u ?_|refine .some lg0 ?_|refine .some lg ?_|refine .some lgI ?_|(refine .bif (fun zz=>?_) (fun zz=>?_)<;>try simp(disch:=omega)only[zs,w64,zt]at zz))<;>try dsimp only)
  rw[ws he.2.1 (by omega)];rcases hN2 with e|e|e|e|e
  all_goals
    rw[e]at h3⊢;simp(disch:=omega)only[w64];refine(hr d (by omega) _ (by omega) (by omega)).mono ?_;rintro _ rfl;exact ret1 (by omega)
theorem sst_try {i m e j:Nat}{x1 x2 x:Int}(h:opAt b i=8)(he:i<m∧m<e∧e<b.length∧e<j)(hx:0≤x∧x≤4398046511104∧0≤x1∧x1≤4398046511104∧0≤x2∧x2≤4398046511104)(hE:End b i m e)(h1:Sst b (i+1) m x1)(h2:Sst b (m+1) e x2)(hr:SstL b (e+1) j x):SstL b i j (1+x1+x2+x):=by
  intro d hd n h0 h3;obtain⟨d,rfl⟩:∃d',d=d'+1:=⟨d-1,by omega⟩
  have hi:=opAt_in h (by omega);rw[opAt_lt hi]at h;have hm:m<b.length:=by omega
  have h2:Ans n_spec_l3Steps s_spec_l3Steps (b,IntKind.i64.wrap ((m:Int)+1),(e:Int),()) ((x2,()),()):=by rw[ws hm (by omega)];exact h2
  refine Tq.succ ?_;show Tq _ (fun k q=>spec_l3Steps.step0 (cl k) k ..) _
  unfold spec_l3Steps.step0;rw[ws hi (by omega)]
  repeat'((first|refine .ba hE ?_|refine .ba h1 ?_|refine .ba h2 ?_|refine .t ?_|refine .u ?_|refine .some lg0 ?_|refine .some lg ?_|refine .some lgI ?_|(refine .bif (fun zz=>?_) (fun zz=>?_)<;>try simp(disch:=omega)only[zs,w64,zt]at zz))<;>try dsimp only)
  rw[ws he.2.2.1 (by omega)];simp(disch:=omega)only[w64];refine(hr d (by omega) _ (by omega) (by omega)).mono ?_;rintro _ rfl;exact ret1 (by omega)
theorem sst_seg(hN:LoopOk b){t:Fs}{i j:Nat}(h:Seg b t i j):SstL b i j (t.steps b):=by
  have hb2:b.length≤1048576:=by omega
  induction h with
  |nil hi h=>exact sst_nil hb
  | leaf hi h hr ih=>
    have h1:=hr.le;have b1:=steps_40 hN hb hr;exact sst_leaf hb hi (by omega) (by omega) (by omega) (end_leaf hb2 hi (by omega) (blk_seg hb2 hr).blk) ih
  | one h ht he hr ih1 ih2=>
    have h1:=ht.le;have h2:=hr.le;have h3:=opAt_in he (by omega);have b1:=steps_40 hN hb ht;have b2:=steps_40 hN hb hr;have hE:=end_one hb2 h (blk_seg hb2 ht).blk he;unfold Fs.steps;rcases h with h|h
    . rw[if_pos h];exact sst_if1 hb h (by omega) (by omega) hE (ih1.sst (by omega)) ih2
    . rw[if_neg (by omega)];exact sst_loop hb h (by omega) (hN _ h) (by omega) hE (ih1.sst (by omega)) ih2
  | two h ht ho he hr ih1 ih2 ih3=>
    have h1:=ht.le;have h3:=ho.le;have h4:=hr.le;have h2:=opAt_in he (by omega);have b1:=steps_40 hN hb ht;have b2:=steps_40 hN hb ho;have b3:=steps_40 hN hb hr;have hE:=end_two hb2 h (blk_seg hb2 ht).blk (blk_seg hb2 ho).blk he;unfold Fs.steps;rcases h with h|h
    . rw[if_pos h.1];exact sst_if2 hb h.1 (by omega) (by omega) hE (ih1.sst (by omega)) (ih2.sst (by omega)) ih3
    . rw[if_neg (by omega)];exact sst_try hb h.1 (by omega) (by omega) hE (ih1.sst (by omega)) (ih2.sst (by omega)) ih3
end
theorem Seg.uniq {b:List Sm}{t:Fs}{i j:Nat}(h:Seg b t i j):∀{t':Fs}{j':Nat},Seg b t' i j'→t=t'∧j=j':=by
  induction h with
  | @nil i hi h=>
    intro t' j' h';cases h' with
    |nil=>exact⟨rfl,rfl⟩
    |leaf a1 a2 a3=>omega
    |one a1 a2 a3 a4=>have:=opAt_ge (b:=b) (i:=i);omega
    |two a1 a2 a3 a4 a5=>have:=opAt_ge (b:=b) (i:=i);omega
  | @leaf r i j hi h hr ih=>
    intro t' j' h';cases h' with
    |nil a1 a2=>omega
    |leaf a1 a2 a3=>obtain⟨rfl,rfl⟩:=ih a3;exact⟨rfl,rfl⟩
    |one a1 a2 a3 a4=>omega
    |two a1 a2 a3 a4 a5=>omega
  | @one t r i e j h ht he hr ih1 ih2=>
    intro t' j' h';cases h' with
    |nil a1 a2=>have:=opAt_ge (b:=b) (i:=i);omega
    |leaf a1 a2 a3=>omega
    |one a1 a2 a3 a4=>obtain⟨rfl,rfl⟩:=ih1 a2;obtain⟨rfl,rfl⟩:=ih2 a4;exact⟨rfl,rfl⟩
    |two a1 a2 a3 a4 a5=>obtain⟨rfl,rfl⟩:=ih1 a2;omega
  | @two t o r i m e j h ht ho he hr ih1 ih2 ih3=>
    intro t' j' h';cases h' with
    |nil a1 a2=>have:=opAt_ge (b:=b) (i:=i);omega
    |leaf a1 a2 a3=>omega
    |one a1 a2 a3 a4=>obtain⟨rfl,rfl⟩:=ih1 a2;omega
    |two a1 a2 a3 a4 a5=>obtain⟨rfl,rfl⟩:=ih1 a2;obtain⟨rfl,rfl⟩:=ih2 a3;obtain⟨rfl,rfl⟩:=ih3 a5;exact⟨rfl,rfl⟩
def Nest(b:List Sm):Prop:=∃t,Seg b t 0 b.length
theorem nodes_ok {b:List Sm}(hb:b.length≤1048576){t:Fs}(h:Seg b t 0 b.length):Ans n_impl_nodesOf s_impl_nodesOf (b,()) ((t.trs,true,()),()):=by
  refine Gv.ans (Gv.of (fun k=>impl_nodesOf.F_eq (cl k) k b) ?_);unfold impl_nodesOf.F impl_nodesOf.Fm;refine Tq.bind ((many_seg hb h).many 0 0).tq ?_;rintro y ⟨m',e',rfl⟩;refine Tq.bt rfl (Tq.ret ?_);show((t.trs,(b.length:Int)==(b.length:Int),()),())=_
  rw[beq_self_eq_true]
theorem nodes_no {b:List Sm}(hb:b.length≤1048576)(h:¬Nest b):Gv n_impl_nodesOf s_impl_nodesOf (b,()) (fun(r:(List Tr×(Bool×Unit))×Unit)=>∃l,r=((l,false,()),())):=by
  refine Gv.of (fun k=>impl_nodesOf.F_eq (cl k) k b) ?_;unfold impl_nodesOf.F impl_nodesOf.Fm;rcases nest_total hb b.length 0 (by omega) (by omega)with⟨t,j,ht⟩|⟨_,f⟩
  . refine Tq.bind ((many_seg hb ht).many 0 0).tq ?_;rintro y ⟨m',e',rfl⟩;refine Tq.bt rfl (Tq.ret ⟨t.trs,?_⟩);show((t.trs,(j:Int)==(b.length:Int),()),())=_
    rw[beq_eq_false_iff_ne.2];intro e;obtain rfl:j=b.length:=by omega
    exact h ⟨t,ht⟩
  . refine Tq.bind (f.many 0 0).tq ?_;rintro y ⟨l,j,m',e',rfl⟩;exact Tq.bf rfl (Tq.ret ⟨_,rfl⟩)
theorem blk_no {b:List Sm}(hb:b.length≤1048576)(h:¬Nest b):∃x,x≠(b.length:Int)∧Blk b 0 x:=by
  rcases nest_total hb b.length 0 (by omega) (by omega)with⟨t,j,ht⟩|⟨f,_⟩
  . refine⟨j,?_,(blk_seg hb ht).blk⟩;intro e;obtain rfl:j=b.length:=by omega
    exact h ⟨t,ht⟩
  . exact⟨-1,by omega,f.blk⟩
def StsOk(p:Pg):Prop:=∀s∈p.2.2.2.2.2.1,StOk p s
theorem StsOk.loop {p:Pg}(h:StsOk p):LoopOk p.2.2.2.2.2.1:=by
  intro i hi;have h1:=opAt_in hi (by omega);have h2:=(h _ (List.getElem_mem h1)).2.1.2.2.1;rw[NAt_lt h1];rw[opAt_lt h1]at hi;exact h2 hi
theorem sSts_loop(p:Pg)(h:Hd p)(hs:Small p):∀(d j:Nat),p.2.2.2.2.2.1.length-j=d→
    Tq (d+1) (fun k q=>spec_l3Stmts.L0 (cl k) k p q (j:Int)) (· =((bo (∀s∈p.2.2.2.2.2.1.drop j,StOk p s),()),())):=by
  have hb:=h.b;intro d
  induction d with
  | zero=>
    intro j hd;refine Tq.succ ?_;show Tq _ (fun k q=>spec_l3Stmts.step0 (cl k) k ..) _
    unfold spec_l3Stmts.step0
    repeat'((first|refine .t ?_|refine .u ?_|refine .some lg0 ?_|refine .some lg ?_|refine .some lgI ?_|(refine .bif (fun zz=>?_) (fun zz=>?_)<;>try simp(disch:=omega)only[zs,w64,zt]at zz))<;>try dsimp only)
    rw[bo_t (all_end (by omega))];exact Tq.ret rfl
  | succ d ih=>
    intro j hd;have hj:j<p.2.2.2.2.2.1.length:=by omega
    have hq:=hs.2.2.2.2 _ (List.getElem_mem hj);refine Tq.succ ?_;show Tq _ (fun k q=>spec_l3Stmts.step0 (cl k) k ..) _
    unfold spec_l3Stmts.step0;rw[bo_congr (all_drop hj)]
    repeat'((first|refine .ba (sStmt_ans p h _ hq.1 hq.2) ?_|refine .t ?_|refine .u ?_|refine .some lg0 ?_|refine .some lg ?_|refine .some lgI ?_|(refine .bif (fun zz=>?_) (fun zz=>?_)<;>try simp(disch:=omega)only[zs,w64,zt]at zz))<;>try dsimp only)
    . refine Tq.ret ?_;rw[bo_f];exact fun h=>absurd h.1 (by assumption)
    . rw[ws hj (by omega),bo_congr (and_iff_right (by assumption))];exact ih (j+1) (by omega)
theorem sSts_ans(p:Pg)(h:Hd p)(hs:Small p):Ans n_spec_l3Stmts s_spec_l3Stmts (p,()) ((bo (StsOk p),()),()):=by
  refine Gv.ans (Gv.of (fun k=>spec_l3Stmts.F_eq (cl k) k p) ?_);unfold spec_l3Stmts.F spec_l3Stmts.Fm;exact Tq.diag (sSts_loop p h hs _ 0 rfl)
def Long(p:Pg):Prop:=∃t,Seg p.2.2.2.2.2.1 t 0 p.2.2.2.2.2.1.length∧400<t.steps p.2.2.2.2.2.1
noncomputable def tailP(p:Pg):Int:=bif bo (Nest p.2.2.2.2.2.1)then(bif bo (Long p)then 6 else 0)else 5
noncomputable def codeP(p:Pg):Int:=
  bif bo (1≤p.1∧p.1≤8)then bif bo (InsOk p)then bif bo (RoomOk p)then bif bo (StsOk p)then tailP p else 4 else 3 else 2 else 1
theorem iCode_loop(p:Pg)(h:Hd p)(hs:Small p):∀(d j:Nat),p.2.2.2.2.2.1.length-j=d→(∀s∈p.2.2.2.2.2.1.take j,StOk p s)→
    Tq (d+1) (fun k q=>impl_CodeOf.L0 (cl k) k p q (j:Int)) (· =((bif bo (∀s∈p.2.2.2.2.2.1.drop j,StOk p s)then tailP p else 4,()),())):=by
  have hb:=h.b;intro d
  induction d with
  | zero=>
    intro j hd ht;rw[List.take_of_length_le (by omega)]at ht;refine Tq.succ ?_;show Tq _ (fun k q=>impl_CodeOf.step0 (cl k) k ..) _
    unfold impl_CodeOf.step0 tailP;rw[bo_t (all_end (by omega))];by_cases hn:Nest p.2.2.2.2.2.1
    . obtain⟨t,hn2⟩:=hn;have hl:(400<t.steps p.2.2.2.2.2.1)↔Long p:=⟨fun h=>⟨t,hn2,h⟩,fun⟨t',h1,h2⟩=>by obtain⟨rfl,_⟩:=h1.uniq hn2;exact h2⟩;rw[bo_t (P:=Nest p.2.2.2.2.2.1) ⟨t,hn2⟩,bo_congr hl.symm]
      repeat'((first|refine .ba (nodes_ok (by omega) hn2) ?_|refine .ba ((stp_seg (by omega) (StsOk.loop ht) hn2).stp) ?_|refine .t ?_|refine .u ?_|refine .some lg0 ?_|refine .some lg ?_|refine .some lgI ?_|(refine .bif (fun zz=>?_) (fun zz=>?_)<;>try simp(disch:=omega)only[zs,w64,zt]at zz))<;>try dsimp only)
      . rw[bo_t (by omega)];exact Tq.ret rfl
      . rw[bo_f (by omega)];exact Tq.ret rfl
    . rw[bo_f hn]
      repeat'((first|(refine .bind (nodes_no (by omega) hn).tq ?_;rintro y ⟨l,rfl⟩)|refine .t ?_|refine .u ?_|refine .some lg0 ?_|refine .some lg ?_|refine .some lgI ?_|(refine .bif (fun zz=>?_) (fun zz=>?_)<;>try simp(disch:=omega)only[zs,w64,zt]at zz))<;>try dsimp only)
      exact Tq.ret rfl
  | succ d ih=>
    intro j hd ht;have hj:j<p.2.2.2.2.2.1.length:=by omega
    have hq:=hs.2.2.2.2 _ (List.getElem_mem hj);refine Tq.succ ?_;show Tq _ (fun k q=>impl_CodeOf.step0 (cl k) k ..) _
    unfold impl_CodeOf.step0;rw[bo_congr (all_drop hj)]
    repeat'((first|refine .ba (iStmt_ans p h _ hq.1 hq.2) ?_|refine .t ?_|refine .u ?_|refine .some lg0 ?_|refine .some lg ?_|refine .some lgI ?_|(refine .bif (fun zz=>?_) (fun zz=>?_)<;>try simp(disch:=omega)only[zs,w64,zt]at zz))<;>try dsimp only)
    . rw[bo_f (fun h=>absurd h.1 (by assumption))];exact Tq.ret rfl
    . rw[ws hj (by omega),bo_congr (and_iff_right (by assumption))];refine ih (j+1) (by omega) ?_;intro s hs;rw[List.take_succ_eq_append_getElem hj]at hs;rcases List.mem_append.1 hs with h|h
      . exact ht s h
      . rw[List.mem_singleton.1 h];assumption
theorem iCode_ans(p:Pg)(hs:Small p):Ans n_impl_CodeOf s_impl_CodeOf (p,()) ((codeP p,()),()):=by
  refine Gv.ans (Gv.of (fun k=>impl_CodeOf.F_eq (cl k) k p) ?_);unfold impl_CodeOf.F impl_CodeOf.Fm codeP;by_cases h1:1≤p.1∧p.1≤8
  . rw[bo_t h1]
    repeat'((first|refine .ba (iIn_ans p h1) ?_|refine .ba (iRoom_ans p) ?_|refine .t ?_|refine .u ?_|refine .some lg0 ?_|refine .some lg ?_|refine .some lgI ?_|(refine .bif (fun zz=>?_) (fun zz=>?_)<;>try simp(disch:=omega)only[zs,w64,zt]at zz))<;>try dsimp only)
    . rw[bo_f (by assumption)];exact Tq.ret rfl
    . rw[bo_t (P:=InsOk p) (by assumption),bo_f (by assumption)];exact Tq.ret rfl
    . rw[bo_t (P:=InsOk p) (by assumption),bo_t (P:=RoomOk p) (by assumption)];exact Tq.diag (iCode_loop p ⟨h1,by assumption,by assumption⟩ hs _ 0 rfl (fun s h=>by cases h))
  . rw[bo_f h1]
    repeat'((first|refine .t ?_|refine .u ?_|refine .some lg0 ?_|refine .some lg ?_|refine .some lgI ?_|(refine .bif (fun zz=>?_) (fun zz=>?_)<;>try simp(disch:=omega)only[zs,w64,zt]at zz))<;>try dsimp only)
    all_goals exact Tq.ret rfl
theorem sCode_ans(p:Pg)(hs:Small p):Ans n_spec_CodeOf s_spec_CodeOf (p,()) ((codeP p,()),()):=by
  obtain⟨s1,s2,s3,s4,s5⟩:=hs;refine Gv.ans (Gv.of (fun k=>spec_CodeOf.F_eq (cl k) k p) ?_);unfold spec_CodeOf.F spec_CodeOf.Fm codeP;by_cases h1:1≤p.1∧p.1≤8
  . rw [bo_t h1];by_cases h2:InsOk p
    . rw [bo_t h2];have h3:=h2;obtain⟨⟨l1,l2⟩,l3,l4,l5⟩:=h3;have hb1:=sz_bd h1;have g1:=sIn_ans p h1 p.2.1 (by omega) true;rw[bo_t ⟨fun x hx=>⟨⟨(l3 x hx).1,(l3 x hx).2.1,by rw[(l3 x hx).2.2];omega,by rw[(l3 x hx).2.2];omega⟩,fun _=>(l3 x hx).2.2⟩,l1⟩]at g1;have g2:=sIn_ans p h1 p.2.2.1 (by omega) false;rw[bo_t ⟨fun x hx=>⟨l4 x hx,fun e=>by cases e⟩,l2⟩]at g2;have g3:=sAll_ans p (fun x hx=>by have:=l3 x hx;unfold LowOk at this;omega) (fun x hx=>by have:=l4 x hx;unfold SecOk at this;omega) l1 l2;by_cases h3:RoomOk p
      . rw [bo_t h3];have hd:Hd p:=⟨h1,h2,h3⟩;have hb2:=hd.b;by_cases h4:StsOk p
        . rw[bo_t h4];unfold tailP;by_cases hn:Nest p.2.2.2.2.2.1
          . obtain⟨t,hn2⟩:=hn;have hl:(400<t.steps p.2.2.2.2.2.1)↔Long p:=⟨fun h=>⟨t,hn2,h⟩,fun⟨t',h1,h2⟩=>by obtain⟨rfl,_⟩:=h1.uniq hn2;exact h2⟩;have g4:Ans n_spec_l3Block s_spec_l3Block (p.2.2.2.2.2.1,(0:Int),()) (((p.2.2.2.2.2.1.length:Int),()),()):=(blk_seg (by omega) hn2).blk;have g5:Ans n_spec_l3Steps s_spec_l3Steps (p.2.2.2.2.2.1,(0:Int),(p.2.2.2.2.2.1.length:Int),()) ((t.steps p.2.2.2.2.2.1,()),()):=(sst_seg (by omega) h4.loop hn2).sst (by have:=steps_40 h4.loop (by omega) hn2;omega);rw[bo_t (P:=Nest p.2.2.2.2.2.1) ⟨t,hn2⟩,bo_congr hl.symm]
            repeat'((first|refine .ba (l1In_ans _ _ _) ?_|refine .ba g1 ?_|refine .ba g2 ?_|refine .ba g3 ?_|refine .ba (sRoom_ans p) ?_|refine .ba (sSts_ans p hd ⟨s1,s2,s3,s4,s5⟩) ?_|refine .ba g4 ?_|refine .ba g5 ?_|refine .t ?_|refine .u ?_|refine .some lg0 ?_|refine .some lg ?_|refine .some lgI ?_|(refine .bif (fun zz=>?_) (fun zz=>?_)<;>try simp(disch:=omega)only[zs,w64,zt]at zz))<;>try dsimp only)
            . rw[bo_t (by omega)];exact Tq.ret rfl
            . rw[bo_f (by omega)];exact Tq.ret rfl
          . rw[bo_f hn];obtain⟨x,hx,g4⟩:=blk_no (by omega) hn;have g4:Ans n_spec_l3Block s_spec_l3Block (p.2.2.2.2.2.1,(0:Int),()) ((x,()),()):=g4
            repeat'((first|refine .ba (l1In_ans _ _ _) ?_|refine .ba g1 ?_|refine .ba g2 ?_|refine .ba g3 ?_|refine .ba (sRoom_ans p) ?_|refine .ba (sSts_ans p hd ⟨s1,s2,s3,s4,s5⟩) ?_|refine .ba g4 ?_|refine .t ?_|refine .u ?_|refine .some lg0 ?_|refine .some lg ?_|refine .some lgI ?_|(refine .bif (fun zz=>?_) (fun zz=>?_)<;>try simp(disch:=omega)only[zs,w64,zt]at zz))<;>try dsimp only)
            exact Tq.ret rfl
        . rw[bo_f h4]
          repeat'((first|refine .ba (l1In_ans _ _ _) ?_|refine .ba g1 ?_|refine .ba g2 ?_|refine .ba g3 ?_|refine .ba (sRoom_ans p) ?_|refine .ba (sSts_ans p hd ⟨s1,s2,s3,s4,s5⟩) ?_|refine .t ?_|refine .u ?_|refine .some lg0 ?_|refine .some lg ?_|refine .some lgI ?_|(refine .bif (fun zz=>?_) (fun zz=>?_)<;>try simp(disch:=omega)only[zs,w64,zt]at zz))<;>try dsimp only)
          exact Tq.ret rfl
      . rw[bo_f h3]
        repeat'((first|refine .ba (l1In_ans _ _ _) ?_|refine .ba g1 ?_|refine .ba g2 ?_|refine .ba g3 ?_|refine .ba (sRoom_ans p) ?_|refine .t ?_|refine .u ?_|refine .some lg0 ?_|refine .some lg ?_|refine .some lgI ?_|(refine .bif (fun zz=>?_) (fun zz=>?_)<;>try simp(disch:=omega)only[zs,w64,zt]at zz))<;>try dsimp only)
        exact Tq.ret rfl
    . rw[bo_f h2]
      repeat'((first|refine .ba (l1In_ans _ _ _) ?_|refine .ba (sIn_ans p h1 _ s1 _) ?_|refine .ba (sIn_ans p h1 _ s2 _) ?_|(refine Tq.ret rfl)|refine .t ?_|refine .u ?_|refine .some lg0 ?_|refine .some lg ?_|refine .some lgI ?_|(refine .bif (fun zz=>?_) (fun zz=>?_)<;>try simp(disch:=omega)only[zs,w64,zt]at zz))<;>try dsimp only)
      rename_i g1;have g2:=zz;obtain⟨g1,l1⟩:=g1;obtain⟨g2,l2⟩:=g2;have hb1:=sz_bd h1;have g3:=sAll_ans p (fun x hx=>by have:=(g1 x hx).1;unfold SecOk at this;omega) (fun x hx=>by have:=(g2 x hx).1;unfold SecOk at this;omega) l1 l2;refine Tq.bind g3.tq fun y hy=>?_
      subst hy;refine Tq.bt (decide_eq_true ?_) (Tq.ret rfl);show sumBits p.2.1+sumBits p.2.2.1>10
      rcases Int.lt_or_le 10 (sumBits p.2.1+sumBits p.2.2.1)with h|h
      . exact h
      . exact absurd ⟨⟨l1,l2⟩,fun x hx=>⟨(g1 x hx).1.1,(g1 x hx).1.2.1,(g1 x hx).2 rfl⟩,fun x hx=>(g2 x hx).1,h⟩ h2
  . rw[bo_f h1]
    repeat'((first|refine .ba (l1In_ans _ _ _) ?_|refine .t ?_|refine .u ?_|refine .some lg0 ?_|refine .some lg ?_|refine .some lgI ?_|(refine .bif (fun zz=>?_) (fun zz=>?_)<;>try simp(disch:=omega)only[zs,w64,zt]at zz))<;>try dsimp only)
    exact Tq.ret rfl
structure Ok (p:Pg) (t:Fs):Prop where
  hd:Hd p
  st:StsOk p
  seg:Seg p.2.2.2.2.2.1 t 0 p.2.2.2.2.2.1.length
  few:t.steps p.2.2.2.2.2.1≤400
def IsOk(p:Pg):Prop:=∃t,Ok p t
theorem codeP_zero(p:Pg):codeP p=0↔IsOk p:=by
  unfold codeP tailP;constructor
  . intro h;by_cases h1:1≤p.1∧p.1≤8
    . by_cases h2:InsOk p
      . by_cases h3:RoomOk p
        . by_cases h4:StsOk p
          . by_cases h5:Nest p.2.2.2.2.2.1
            . by_cases h6:Long p
              . rw[bo_t h1,bo_t h2,bo_t h3,bo_t h4,bo_t h5,bo_t h6]at h;exact absurd (show(6:Int)=0 from h) (by omega)
              . obtain⟨t,ht⟩:=h5;refine⟨t,⟨h1,h2,h3⟩,h4,ht,?_⟩;rcases Int.lt_or_le 400 (t.steps p.2.2.2.2.2.1)with h|h
                . exact absurd ⟨t,ht,h⟩ h6
                . exact h
            . rw[bo_t h1,bo_t h2,bo_t h3,bo_t h4,bo_f h5]at h;exact absurd (show(5:Int)=0 from h) (by omega)
          . rw[bo_t h1,bo_t h2,bo_t h3,bo_f h4]at h;exact absurd (show(4:Int)=0 from h) (by omega)
        . rw[bo_t h1,bo_t h2,bo_f h3]at h;exact absurd (show(3:Int)=0 from h) (by omega)
      . rw[bo_t h1,bo_f h2]at h;exact absurd (show(2:Int)=0 from h) (by omega)
    . rw[bo_f h1]at h;exact absurd (show(1:Int)=0 from h) (by omega)
  . rintro⟨t,⟨h1,h2,h3⟩,h4,h5,h6⟩;have h7:¬Long p:=by
      rintro⟨t',h8,h9⟩;obtain⟨rfl,_⟩:=h8.uniq h5;omega
    rw[bo_t h1,bo_t h2,bo_t h3,bo_t h4,bo_t (P:=Nest p.2.2.2.2.2.1) ⟨t,h5⟩,bo_f h7];rfl
theorem iOk_ans(p:Pg)(hs:Small p):Ans n_impl_ProgOk s_impl_ProgOk (p,()) ((bo (IsOk p),()),()):=by
  refine Gv.ans (Gv.of (fun k=>impl_ProgOk.F_eq (cl k) k p) ?_);unfold impl_ProgOk.F impl_ProgOk.Fm
  repeat'((first|refine .ba (iCode_ans p hs) ?_|refine .t ?_|refine .u ?_|refine .some lg0 ?_|refine .some lg ?_|refine .some lgI ?_|(refine .bif (fun zz=>?_) (fun zz=>?_)<;>try simp(disch:=omega)only[zs,w64,zt]at zz))<;>try dsimp only)
  exact Tq.ret (by rw[bo_beq (codeP_zero p)])
theorem sOk_ans(p:Pg)(hs:Small p):Ans n_spec_ProgOk s_spec_ProgOk (p,()) ((bo (IsOk p),()),()):=by
  refine Gv.ans (Gv.of (fun k=>spec_ProgOk.F_eq (cl k) k p) ?_);unfold spec_ProgOk.F spec_ProgOk.Fm
  repeat'((first|refine .ba (sCode_ans p hs) ?_|refine .t ?_|refine .u ?_|refine .some lg0 ?_|refine .some lg ?_|refine .some lgI ?_|(refine .bif (fun zz=>?_) (fun zz=>?_)<;>try simp(disch:=omega)only[zs,w64,zt]at zz))<;>try dsimp only)
  exact Tq.ret (by rw[bo_beq (codeP_zero p)])
end Go.Proofs.YtjgfofcgmcnblaaGreat.Pf
