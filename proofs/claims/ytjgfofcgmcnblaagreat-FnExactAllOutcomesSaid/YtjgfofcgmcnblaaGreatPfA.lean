/- What functions answer, from some number of rounds on. No condition. -/
import Derived.Test.YtjgfofcgmcnblaaGreatPvEnv
import Derived.Test.YtjgfofcgmcnblaaGreatPvD
set_option linter.all false
namespace Go.Proofs.YtjgfofcgmcnblaaGreat.Pf
open Go Go.Pv
theorem w64 {x:Int}(h0:-9223372036854775808≤x)(h1:x≤9223372036854775807):IntKind.i64.wrap x=x:=by
  simp only[IntKind.wrap,IntKind.bits,IntKind.signed,Bool.true_and];split
  . rename_i h;have h:=of_decide_eq_true h;omega
  . rename_i h;have h:¬(x % 2^64≥2^(64-1)):=fun e=>h (decide_eq_true e)
    omega
/-! ### From some number of rounds on-/
noncomputable def cl(k:Nat):Cl:=sem E (fun _ _=>none) k
def Ev(p:Nat→Prop):Prop:=∃k0,∀k,k0≤k→p k
theorem Ev.all {p:Nat→Prop}(h:∀k,p k):Ev p:=⟨0,fun k _=>h k⟩
theorem Ev.and {p q:Nat→Prop}(h1:Ev p)(h2:Ev q):Ev fun k=>p k∧q k:=by
  obtain⟨a,h1⟩:=h1;obtain⟨b,h2⟩:=h2;exact⟨max a b,fun k hk=>⟨h1 k (by omega),h2 k (by omega)⟩⟩
theorem Ev.mono {p q:Nat→Prop}(h:Ev p)(hpq:∀k,p k→q k):Ev q:=by
  obtain⟨a,h⟩:=h;exact⟨a,fun k hk=>hpq k (h k hk)⟩
/--A function answers so. -/
def Ans(g:Nat)(s:Sg)(l:s.A.den)(r:s.R.den):Prop:=Ev fun k=>cl k g s l=some r
theorem Ans.of {g:Nat}{s:Sg}{l:s.A.den}{r:s.R.den}{f:Nat→Option s.R.den}(he:∀k,bodyK E (cl k) g k s l=f k)(h:Ev fun k=>f k=some r):Ans g s l r:=by
  obtain⟨k0,h⟩:=h;refine⟨k0+1,fun k hk=>?_⟩;obtain⟨k,rfl⟩:∃m,k=m+1:=⟨k-1,by omega⟩
  show bodyK E (cl k) g k s l=some r
  rw[he];exact h k (by omega)
theorem Ans.sem {g:Nat}{s:Sg}{l:s.A.den}{r:s.R.den}(h:Ans g s l r):∃k,Pv.sem E (fun _ _=>none) k g s l=some r:=by
  obtain⟨k0,h⟩:=h;exact⟨k0,h k0 (Nat.le_refl _)⟩
theorem ws {j n:Nat}(h:j<n)(hn:n≤9223372036854775807):IntKind.i64.wrap ((j:Int)+1)=((j+1:Nat):Int):=by
  rw[w64 (by omega) (by omega)];omega
theorem dlt {j n:Nat}(h:j<n):decide ((j:Int)<(n:Int))=true:=decide_eq_true (by omega)
theorem dnlt {j n:Nat}(h:n≤j):decide ((j:Int)<(n:Int))=false:=decide_eq_false (by omega)
theorem dle0(j:Nat):decide ((0:Int)≤(j:Int))=true:=decide_eq_true (by omega)
theorem lg {α:Type}{xs:List α}{j:Nat}(h:j<xs.length:=by omega):lget xs (Int.toNat (j:Int))=some xs[j]:=by
  rw[Int.toNat_natCast];exact List.getElem?_eq_getElem h
theorem lgn {α:Type}{xs:List α}{j:Nat}(h:j<xs.length):lget xs j=some xs[j]:=by
  exact List.getElem?_eq_getElem h
theorem Ev.step {p q:Nat→Prop}(h:Ev p)(hpq:∀k,p k→q (k+1)):Ev q:=by
  obtain⟨k0,h⟩:=h;refine⟨k0+1,fun k hk=>?_⟩;obtain⟨k,rfl⟩:∃m,k=m+1:=⟨k-1,by omega⟩
  exact hpq k (h k (by omega))
/-! ### Steps through a text-/
/-! ### From some number of calls on,with d rounds or more-/
def Tq {α:Type}(d:Nat)(f:Nat→Nat→Option α)(P:α→Prop):Prop:=∃r,P r∧∃k0,∀k,k0≤k→∀q,d≤q→f k q=some r
section
variable {α β:Type}{d:Nat}{P:α→Prop}{Q:β→Prop}
theorem Tq.ret {r:α}(h:P r):Tq d (fun _ _=>some r) P:=⟨r,h,0,fun _ _ _ _=>rfl⟩
theorem Tq.bind {f:Nat→Nat→Option α}{K:Nat→Nat→α→Option β}(h:Tq d f P)(hK:∀x,P x→Tq d (fun k q=>K k q x) Q):Tq d (fun k q=>(f k q).bind (K k q)) Q:=by
  obtain⟨x,hx,k0,h⟩:=h;obtain⟨r,hr,k1,hK⟩:=hK x hx;refine⟨r,hr,max k0 k1,fun k hk q hq=>?_⟩;show(f k q).bind (K k q)=some r
  rw[h k (by omega) q hq];exact hK k (by omega) q hq
theorem Tq.some {x:α}{f:Option α}{K:Nat→Nat→α→Option β}(h:f=.some x)(hK:Tq d (fun k q=>K k q x) Q):Tq d (fun k q=>f.bind (K k q)) Q:=by
  rw[h];exact hK
theorem Tq.bif {c:Bool}{a b:Nat→Nat→Option α}(ha:c=true→Tq d a P)(hb:c=false→Tq d b P):Tq d (fun k q=>bif c then a k q else b k q) P:=by
  cases c with
  |true=>exact ha rfl
  |false=>exact hb rfl
theorem Tq.bt {c:Bool}{a b:Nat→Nat→Option α}(h:c=true)(ha:Tq d a P):Tq d (fun k q=>bif c then a k q else b k q) P:=.bif (fun _=>ha) fun e=>by rw[h]at e;cases e
theorem Tq.bf {c:Bool}{a b:Nat→Nat→Option α}(h:c=false)(hb:Tq d b P):Tq d (fun k q=>bif c then a k q else b k q) P:=.bif (fun e=>by rw[h]at e;cases e) fun _=>hb
theorem Tq.mono {f:Nat→Nat→Option α}{P Q:α→Prop}(h:Tq d f P)(hPQ:∀x,P x→Q x):Tq d f Q:=by
  obtain⟨r,hr,h⟩:=h;exact⟨r,hPQ r hr,h⟩
theorem Tq.succ {f:Nat→Nat→Option α}(h:Tq d (fun k q=>f k (q+1)) P):Tq (d+1) f P:=by
  obtain⟨r,hr,k0,h⟩:=h;refine⟨r,hr,k0,fun k hk q hq=>?_⟩;obtain⟨q,rfl⟩:∃p,q=p+1:=⟨q-1,by omega⟩
  exact h k hk q (by omega)
theorem Tq.diag {f:Nat→Nat→Option α}{e:Nat}(h:Tq d f P):Tq e (fun k _=>f k k) P:=by
  obtain⟨r,hr,k0,h⟩:=h;exact⟨r,hr,max k0 d,fun k hk q _=>h k (by omega) k (by omega)⟩
theorem Tq.eq {f g:Nat→Nat→Option α}(h:Tq d g P)(e:∀k q,f k q=g k q):Tq d f P:=by
  obtain⟨r,hr,k0,h⟩:=h;exact⟨r,hr,k0,fun k hk q hq=>(e k q).trans (h k hk q hq)⟩
end
/--A function answers something of which so much is known. -/
def Gv(g:Nat)(s:Sg)(l:s.A.den)(P:s.R.den→Prop):Prop:=∃r,P r∧Ans g s l r
theorem Gv.tq {g:Nat}{s:Sg}{l:s.A.den}{P:s.R.den→Prop}{d:Nat}(h:Gv g s l P):Tq d (fun k _=>cl k g s l) P:=by
  obtain⟨r,hr,k0,h⟩:=h;exact⟨r,hr,k0,fun k hk _ _=>h k hk⟩
theorem Ans.tq {g:Nat}{s:Sg}{l:s.A.den}{r:s.R.den}{d:Nat}(h:Ans g s l r):Tq d (fun k _=>cl k g s l) (· =r):=Gv.tq ⟨r,rfl,h⟩
theorem Gv.of {g:Nat}{s:Sg}{l:s.A.den}{P:s.R.den→Prop}{f:Nat→Option s.R.den}(he:∀k,bodyK E (cl k) g k s l=f k)(h:Tq 0 (fun k _=>f k) P):Gv g s l P:=by
  obtain⟨r,hr,k0,h⟩:=h;exact⟨r,hr,Ans.of he ⟨k0,fun k hk=>h k hk 0 (Nat.le_refl _)⟩⟩
theorem Gv.ans {g:Nat}{s:Sg}{l:s.A.den}{r:s.R.den}(h:Gv g s l (· =r)):Ans g s l r:=by
  obtain⟨_,rfl,h⟩:=h;exact h
theorem Tq.ev {P:Nat→Prop}(h:Ev P):∃k0,∀k,k0≤k→P k:=h
theorem Tq.evEq {α:Type}{d:Nat}{P:α→Prop}{f g:Nat→Nat→Option α}(e:Ev fun k=>∀q,d≤q→f k q=g k q)(h:Tq d g P):Tq d f P:=by
  obtain⟨r,hr,k0,h⟩:=h;obtain⟨k1,e⟩:=e;exact⟨r,hr,max k0 k1,fun k hk q hq=>(e k (by omega) q hq).trans (h k (by omega) q hq)⟩
end Go.Proofs.YtjgfofcgmcnblaaGreat.Pf
