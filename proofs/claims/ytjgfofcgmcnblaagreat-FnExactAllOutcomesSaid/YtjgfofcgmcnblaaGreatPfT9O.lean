/- Printed texts: what the reading of these functions is. No condition. -/
import Derived.Test.YtjgfofcgmcnblaaGreatPvEnv
import Derived.KernelRfl
set_option linter.all false
set_option maxHeartbeats 2000000
namespace Go.Proofs.YtjgfofcgmcnblaaGreat.Pf
open Go Go.Pv IntKind
abbrev Y9O_0:Type:=((List ((List Int)×(Int×(Int×Unit)))))
abbrev Y9O_1:Type:=(List ((List Int)×(Int×(Int×Unit))))
abbrev Y9O_2:Type:=((List Int)×(Int×(Int×Unit)))
abbrev Y9O_3:Type:=(List Int×Int×Int×Unit)
/-! #### laws_eqOutcome-/
namespace laws_eqOutcome
abbrev R:=((Bool×Unit)×Unit)
def Fm(call:Cl)(k:Nat)(a0:Y9O_2)(a1:Y9O_2):Option R:=(call 61 s_laws_eqInt64S (a0.1,a1.1,())).bind fun(y0:(Bool×Unit)×Unit)=>bif !y0.1.1 then some ((false,()),())else bif a0.2.1!=a1.2.1 then some ((false,()),())else bif a0.2.2.1!=a1.2.2.1 then some ((false,()),())else some ((true,()),())
def F(call:Cl)(k:Nat)(a0:Y9O_2)(a1:Y9O_2):Option R:=Fm call k a0 a1
theorem F_eq(call:Cl)(k:Nat)(a0:Y9O_2)(a1:Y9O_2):bodyK E call n_laws_eqOutcome k s_laws_eqOutcome (a0,a1,())=F call k a0 a1:=by kernel_rfl
end laws_eqOutcome
/-! #### laws_eqOutcomeS-/
namespace laws_eqOutcomeS
abbrev R:=((Bool×Unit)×Unit)
def S0(a0:Y9O_1)(a1:Y9O_1)(v0_2:Int):St:=⟨mkS 27 [(0,.v (.slc (.pair (.slc tI) tTm)) (a0)),(1,.v (.slc (.pair (.slc tI) tTm)) (a1)),(5,.v tI v0_2)],[]⟩
def step0(call:Cl)(k:Nat)(a0:Y9O_1)(a1:Y9O_1)(r0:(Int)→Option R)(v0_2:Int):Option R:=bif decide (v0_2<(↑a0.length:Int))then bif decide (0≤v0_2)then(lget a0 v0_2.toNat).bind fun(y0:Y9O_3)=>bif decide (0≤v0_2)then(lget a1 v0_2.toNat).bind fun(y1:Y9O_3)=>(call 135 s_laws_eqOutcome (y0,y1,())).bind fun(y2:(Bool×Unit)×Unit)=>bif !y2.1.1 then some ((false,()),())else r0 (i64.wrap (v0_2+1))else none else none else some ((true,()),())
def L0(call:Cl)(k:Nat)(a0:Y9O_1)(a1:Y9O_1):Nat→(Int)→Option R|0,_=>none|n+1,v0_2=>step0 call k a0 a1 (L0 call k a0 a1 n) v0_2
def Fm(call:Cl)(k:Nat)(l0:Y9O_0→Y9O_0→(Int)→Option R)(a0:Y9O_1)(a1:Y9O_1):Option R:=bif(↑a0.length:Int)!=(↑a1.length:Int)then some ((false,()),())else l0 a0 a1 0
def F(call:Cl)(k:Nat)(a0:Y9O_1)(a1:Y9O_1):Option R:=Fm call k (fun a0_ a1_ v0_2_=>L0 call k a0_ a1_ k v0_2_) a0 a1
theorem L0_eq(call:Cl)(k:Nat)(J:Nat→St→Option R)(a0:Y9O_1)(a1:Y9O_1):∀(n:Nat)(x:(Int)),siteI E call n_laws_eqOutcomeS k s_laws_eqOutcomeS (a0,a1,()) J 0 n (S0 a0 a1 x)=L0 call k a0 a1 n x:=by
  refine loop_eq (s:=s_laws_eqOutcomeS) (fun x=>S0 a0 a1 x) (fun n x=>L0 call k a0 a1 n x) (fun r x=>step0 call k a0 a1 (fun v0_2=>r v0_2) x) (fun _=>rfl) (fun _ _=>rfl) fun J0 x=>?_
  kernel_rfl
theorem F_eq(call:Cl)(k:Nat)(a0:Y9O_1)(a1:Y9O_1):bodyK E call n_laws_eqOutcomeS k s_laws_eqOutcomeS (a0,a1,())=F call k a0 a1:=by
  exact Eq.trans (b:=Fm call k (fun a0 a1 v0_2_=>siteI E call n_laws_eqOutcomeS k s_laws_eqOutcomeS (a0,a1,()) (fun _ _=>none) 0 k (S0 a0 a1 v0_2_)) a0 a1) (by kernel_rfl) (congrArg (fun l=>Fm call k l a0 a1) (funext fun a0=>funext fun a1=>funext fun v0_2_=>L0_eq call k (fun _ _=>none) a0 a1 k v0_2_))
end laws_eqOutcomeS
/-! #### laws_markOutcomeS-/
namespace laws_markOutcomeS
abbrev R:=((Int×Unit)×((List ((List Int)×(Int×(Int×Unit))))×Unit))
def S0(v0_0:Int)(v0_1:Int)(v0_2:Y9O_1):St:=⟨mkS 34 [(0,.ref [500000]),(1,.v tI v0_0),(5,.v tI v0_1)],[([500000],.list 38 (.pair (.own 2 tI) tTm) v0_2)]⟩
def step0(call:Cl)(k:Nat)(r0:(Int)→(Int)→Y9O_0→Option R)(v0_0:Int)(v0_1:Int)(v0_2:Y9O_1):Option R:=bif decide (v0_1<(↑v0_2.length:Int))then bif decide (0≤v0_1)&&decide (v0_1.toNat<v0_2.length)then(lget v0_2 v0_1.toNat).bind fun(y0:Y9O_3)=>(call 76 s_laws_markInt64S (y0.1,v0_0,())).bind fun(y1:((Int×Unit)×List Int×Unit))=>(lget v0_2 v0_1.toNat).bind fun(y2:Y9O_3)=>bif decide (0≤v0_1)&&decide (v0_1.toNat<(v0_2.set v0_1.toNat (y1.2.1,y2.2)).length)then(lget (v0_2.set v0_1.toNat (y1.2.1,y2.2)) v0_1.toNat).bind fun(y3:Y9O_3)=>bif decide (0≤v0_1)&&decide (v0_1.toNat<((v0_2.set v0_1.toNat (y1.2.1,y2.2)).set v0_1.toNat (y3.1,y1.1.1,y3.2.2)).length)then(lget ((v0_2.set v0_1.toNat (y1.2.1,y2.2)).set v0_1.toNat (y3.1,y1.1.1,y3.2.2)) v0_1.toNat).bind fun(y4:Y9O_3)=>r0 (i64.wrap (i64.wrap (y1.1.1+1)+1)) (i64.wrap (v0_1+1)) (((v0_2.set v0_1.toNat (y1.2.1,y2.2)).set v0_1.toNat (y3.1,y1.1.1,y3.2.2)).set v0_1.toNat (y4.1,y4.2.1,i64.wrap (y1.1.1+1),y4.2.2.2))else none else none else none else some ((v0_0,()),v0_2,())
def L0(call:Cl)(k:Nat):Nat→(Int)→(Int)→Y9O_0→Option R|0,_,_,_=>none|n+1,v0_0,v0_1,v0_2=>step0 call k (L0 call k n) v0_0 v0_1 v0_2
def Fm(call:Cl)(k:Nat)(l0:(Int)→(Int)→Y9O_0→Option R)(a0:Y9O_1)(a1:Int):Option R:=l0 a1 0 a0
def F(call:Cl)(k:Nat)(a0:Y9O_1)(a1:Int):Option R:=Fm call k (fun v0_0_ v0_1_ v0_2_=>L0 call k k v0_0_ v0_1_ v0_2_) a0 a1
theorem L0_eq(call:Cl)(k:Nat)(J:Nat→St→Option R)(a0:Y9O_1)(a1:Int):∀(n:Nat)(x:((Int)×(Int)×Y9O_0)),siteI E call n_laws_markOutcomeS k s_laws_markOutcomeS (a0,a1,()) J 0 n (S0 x.1 x.2.1 x.2.2)=L0 call k n x.1 x.2.1 x.2.2:=by
  refine loop_eq (s:=s_laws_markOutcomeS) (fun x=>S0 x.1 x.2.1 x.2.2) (fun n x=>L0 call k n x.1 x.2.1 x.2.2) (fun r x=>step0 call k (fun v0_0 v0_1 v0_2=>r (v0_0,v0_1,v0_2)) x.1 x.2.1 x.2.2) (fun _=>rfl) (fun _ _=>rfl) fun J0 x=>?_
  kernel_rfl
theorem F_eq(call:Cl)(k:Nat)(a0:Y9O_1)(a1:Int):bodyK E call n_laws_markOutcomeS k s_laws_markOutcomeS (a0,a1,())=F call k a0 a1:=by
  exact Eq.trans (b:=Fm call k (fun v0_0_ v0_1_ v0_2_=>siteI E call n_laws_markOutcomeS k s_laws_markOutcomeS (a0,a1,()) (fun _ _=>none) 0 k (S0 v0_0_ v0_1_ v0_2_)) a0 a1) (by kernel_rfl) (congrArg (fun l=>Fm call k l a0 a1) (funext fun v0_0_=>funext fun v0_1_=>funext fun v0_2_=>L0_eq call k (fun _ _=>none) a0 a1 k (v0_0_,v0_1_,v0_2_)))
end laws_markOutcomeS
/-! #### laws_heldOutcomeS-/
namespace laws_heldOutcomeS
abbrev R:=((Int×Unit)×Unit)
def S0(a0:Y9O_1)(v0_1:Int)(v0_2:Int):St:=⟨mkS 40 [(0,.v (.slc (.pair (.slc tI) tTm)) (a0)),(1,.v tI v0_1),(5,.v tI v0_2)],[]⟩
def step0(call:Cl)(k:Nat)(a0:Y9O_1)(r0:(Int)→(Int)→Option R)(v0_1:Int)(v0_2:Int):Option R:=bif decide (v0_2<(↑a0.length:Int))then bif decide (0≤v0_2)then(lget a0 v0_2.toNat).bind fun(y0:Y9O_3)=>(call 78 s_laws_heldInt64S (y0.1,v0_1,())).bind fun(y1:(Int×Unit)×Unit)=>bif decide (y1.1.1<0)then some (((-1),()),())else bif decide (0≤v0_2)then(lget a0 v0_2.toNat).bind fun(y2:Y9O_3)=>bif y2.2.1!=y1.1.1 then some (((-1),()),())else bif decide (0≤v0_2)then(lget a0 v0_2.toNat).bind fun(y3:Y9O_3)=>bif y3.2.2.1!=i64.wrap (y1.1.1+1)then some (((-1),()),())else r0 (i64.wrap (i64.wrap (y1.1.1+1)+1)) (i64.wrap (v0_2+1))else none else none else none else some ((v0_1,()),())
def L0(call:Cl)(k:Nat)(a0:Y9O_1):Nat→(Int)→(Int)→Option R|0,_,_=>none|n+1,v0_1,v0_2=>step0 call k a0 (L0 call k a0 n) v0_1 v0_2
def Fm(call:Cl)(k:Nat)(l0:Y9O_0→(Int)→(Int)→Option R)(a0:Y9O_1)(a1:Int):Option R:=l0 a0 a1 0
def F(call:Cl)(k:Nat)(a0:Y9O_1)(a1:Int):Option R:=Fm call k (fun a0_ v0_1_ v0_2_=>L0 call k a0_ k v0_1_ v0_2_) a0 a1
theorem L0_eq(call:Cl)(k:Nat)(J:Nat→St→Option R)(a0:Y9O_1)(a1:Int):∀(n:Nat)(x:((Int)×(Int))),siteI E call n_laws_heldOutcomeS k s_laws_heldOutcomeS (a0,a1,()) J 0 n (S0 a0 x.1 x.2)=L0 call k a0 n x.1 x.2:=by
  refine loop_eq (s:=s_laws_heldOutcomeS) (fun x=>S0 a0 x.1 x.2) (fun n x=>L0 call k a0 n x.1 x.2) (fun r x=>step0 call k a0 (fun v0_1 v0_2=>r (v0_1,v0_2)) x.1 x.2) (fun _=>rfl) (fun _ _=>rfl) fun J0 x=>?_
  kernel_rfl
theorem F_eq(call:Cl)(k:Nat)(a0:Y9O_1)(a1:Int):bodyK E call n_laws_heldOutcomeS k s_laws_heldOutcomeS (a0,a1,())=F call k a0 a1:=by
  exact Eq.trans (b:=Fm call k (fun a0 v0_1_ v0_2_=>siteI E call n_laws_heldOutcomeS k s_laws_heldOutcomeS (a0,a1,()) (fun _ _=>none) 0 k (S0 a0 v0_1_ v0_2_)) a0 a1) (by kernel_rfl) (congrArg (fun l=>Fm call k l a0 a1) (funext fun a0=>funext fun v0_1_=>funext fun v0_2_=>L0_eq call k (fun _ _=>none) a0 a1 k (v0_1_,v0_2_)))
end laws_heldOutcomeS
end Go.Proofs.YtjgfofcgmcnblaaGreat.Pf
