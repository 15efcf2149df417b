/- Printed texts: what the reading of these functions is. No condition. -/
import Derived.Test.YtjgfofcgmcnblaaGreatPvEnv
import Derived.KernelRfl
set_option linter.all false
set_option maxHeartbeats 2000000
namespace Go.Proofs.YtjgfofcgmcnblaaGreat.Pf
open Go Go.Pv IntKind
abbrev Y9_0:Type:=(Int×((List (Int×(Int×Unit)))×((List (Int×(Int×Unit)))×(Int×((List Int)×((List (Int×(Int×((List (Int×(Int×Unit)))×((List (Int×(Int×Unit)))×Unit)))))×Unit))))))
abbrev Y9_1:Type:=((List (Int×(Int×((List (Int×(Int×Unit)))×((List (Int×(Int×Unit)))×Unit))))))
abbrev Y9_2:Type:=(List (Int×(Int×((List (Int×(Int×Unit)))×((List (Int×(Int×Unit)))×Unit)))))
abbrev Y9_3:Type:=(Int×Int×List (Int×Int×Unit)×List (Int×Int×Unit)×Unit)
abbrev Y9_4:Type:=((Int×Unit)×List (Int×Int×Unit)×Unit)
abbrev Y9_5:Type:=((Int)×(Int)×((List (Int×(Int×Unit)))))
abbrev Y9_6:Type:=((List (Int×(Int×Unit))))
abbrev Y9_7:Type:=(List (Int×(Int×Unit)))
/-! #### laws_markInt64S-/
namespace laws_markInt64S
abbrev R:=((Int×Unit)×((List Int)×Unit))
def S0(v0_0:Int)(v0_1:Int)(v0_2:(List Int)):St:=⟨mkS 19 [(0,.ref [500000]),(1,.v tI v0_0),(5,.v tI v0_1)],[([500000],.list 2 tI v0_2)]⟩
def step0(call:Cl)(k:Nat)(r0:(Int)→(Int)→((List Int))→Option R)(v0_0:Int)(v0_1:Int)(v0_2:(List Int)):Option R:=bif decide (v0_1<(↑v0_2.length:Int))then bif decide (0≤v0_1)&&decide (v0_1.toNat<v0_2.length)then(lget v0_2 v0_1.toNat).bind fun(y0:Int)=>r0 (i64.wrap (v0_0+1)) (i64.wrap (v0_1+1)) (v0_2.set v0_1.toNat v0_0)else none else some ((v0_0,()),v0_2,())
def L0(call:Cl)(k:Nat):Nat→(Int)→(Int)→((List Int))→Option R|0,_,_,_=>none|n+1,v0_0,v0_1,v0_2=>step0 call k (L0 call k n) v0_0 v0_1 v0_2
def Fm(call:Cl)(k:Nat)(l0:(Int)→(Int)→((List Int))→Option R)(a0:(List Int))(a1:Int):Option R:=l0 a1 0 a0
def F(call:Cl)(k:Nat)(a0:(List Int))(a1:Int):Option R:=Fm call k (fun v0_0_ v0_1_ v0_2_=>L0 call k k v0_0_ v0_1_ v0_2_) a0 a1
theorem L0_eq(call:Cl)(k:Nat)(J:Nat→St→Option R)(a0:(List Int))(a1:Int):∀(n:Nat)(x:((Int)×(Int)×((List Int)))),siteI E call n_laws_markInt64S k s_laws_markInt64S (a0,a1,()) J 0 n (S0 x.1 x.2.1 x.2.2)=L0 call k n x.1 x.2.1 x.2.2:=by
  refine loop_eq (s:=s_laws_markInt64S) (fun x=>S0 x.1 x.2.1 x.2.2) (fun n x=>L0 call k n x.1 x.2.1 x.2.2) (fun r x=>step0 call k (fun v0_0 v0_1 v0_2=>r (v0_0,v0_1,v0_2)) x.1 x.2.1 x.2.2) (fun _=>rfl) (fun _ _=>rfl) fun J0 x=>?_
  kernel_rfl
theorem F_eq(call:Cl)(k:Nat)(a0:(List Int))(a1:Int):bodyK E call n_laws_markInt64S k s_laws_markInt64S (a0,a1,())=F call k a0 a1:=by
  exact Eq.trans (b:=Fm call k (fun v0_0_ v0_1_ v0_2_=>siteI E call n_laws_markInt64S k s_laws_markInt64S (a0,a1,()) (fun _ _=>none) 0 k (S0 v0_0_ v0_1_ v0_2_)) a0 a1) (by kernel_rfl) (congrArg (fun l=>Fm call k l a0 a1) (funext fun v0_0_=>funext fun v0_1_=>funext fun v0_2_=>L0_eq call k (fun _ _=>none) a0 a1 k (v0_0_,v0_1_,v0_2_)))
end laws_markInt64S
/-! #### laws_markInputS-/
namespace laws_markInputS
abbrev R:=((Int×Unit)×((List (Int×(Int×Unit)))×Unit))
def S0(v0_0:Int)(v0_1:Int)(v0_2:Y9_7):St:=⟨mkS 27 [(0,.ref [500000]),(1,.v tI v0_0),(5,.v tI v0_1)],[([500000],.list 59 tTm v0_2)]⟩
def step0(call:Cl)(k:Nat)(r0:(Int)→(Int)→Y9_6→Option R)(v0_0:Int)(v0_1:Int)(v0_2:Y9_7):Option R:=bif decide (v0_1<(↑v0_2.length:Int))then bif decide (0≤v0_1)&&decide (v0_1.toNat<v0_2.length)then(lget v0_2 v0_1.toNat).bind fun(y0:Int×Int×Unit)=>bif decide (0≤v0_1)&&decide (v0_1.toNat<(v0_2.set v0_1.toNat (v0_0,y0.2)).length)then(lget (v0_2.set v0_1.toNat (v0_0,y0.2)) v0_1.toNat).bind fun(y1:Int×Int×Unit)=>r0 (i64.wrap (i64.wrap (v0_0+1)+1)) (i64.wrap (v0_1+1)) ((v0_2.set v0_1.toNat (v0_0,y0.2)).set v0_1.toNat (y1.1,i64.wrap (v0_0+1),y1.2.2))else none else none else some ((v0_0,()),v0_2,())
def L0(call:Cl)(k:Nat):Nat→(Int)→(Int)→Y9_6→Option R|0,_,_,_=>none|n+1,v0_0,v0_1,v0_2=>step0 call k (L0 call k n) v0_0 v0_1 v0_2
def Fm(call:Cl)(k:Nat)(l0:(Int)→(Int)→Y9_6→Option R)(a0:Y9_7)(a1:Int):Option R:=l0 a1 0 a0
def F(call:Cl)(k:Nat)(a0:Y9_7)(a1:Int):Option R:=Fm call k (fun v0_0_ v0_1_ v0_2_=>L0 call k k v0_0_ v0_1_ v0_2_) a0 a1
theorem L0_eq(call:Cl)(k:Nat)(J:Nat→St→Option R)(a0:Y9_7)(a1:Int):∀(n:Nat)(x:Y9_5),siteI E call n_laws_markInputS k s_laws_markInputS (a0,a1,()) J 0 n (S0 x.1 x.2.1 x.2.2)=L0 call k n x.1 x.2.1 x.2.2:=by
  refine loop_eq (s:=s_laws_markInputS) (fun x=>S0 x.1 x.2.1 x.2.2) (fun n x=>L0 call k n x.1 x.2.1 x.2.2) (fun r x=>step0 call k (fun v0_0 v0_1 v0_2=>r (v0_0,v0_1,v0_2)) x.1 x.2.1 x.2.2) (fun _=>rfl) (fun _ _=>rfl) fun J0 x=>?_
  kernel_rfl
theorem F_eq(call:Cl)(k:Nat)(a0:Y9_7)(a1:Int):bodyK E call n_laws_markInputS k s_laws_markInputS (a0,a1,())=F call k a0 a1:=by
  exact Eq.trans (b:=Fm call k (fun v0_0_ v0_1_ v0_2_=>siteI E call n_laws_markInputS k s_laws_markInputS (a0,a1,()) (fun _ _=>none) 0 k (S0 v0_0_ v0_1_ v0_2_)) a0 a1) (by kernel_rfl) (congrArg (fun l=>Fm call k l a0 a1) (funext fun v0_0_=>funext fun v0_1_=>funext fun v0_2_=>L0_eq call k (fun _ _=>none) a0 a1 k (v0_0_,v0_1_,v0_2_)))
end laws_markInputS
/-! #### laws_markTermS-/
namespace laws_markTermS
abbrev R:=((Int×Unit)×((List (Int×(Int×Unit)))×Unit))
def S0(v0_0:Int)(v0_1:Int)(v0_2:Y9_7):St:=⟨mkS 27 [(0,.ref [500000]),(1,.v tI v0_0),(5,.v tI v0_1)],[([500000],.list 184 tTm v0_2)]⟩
def step0(call:Cl)(k:Nat)(r0:(Int)→(Int)→Y9_6→Option R)(v0_0:Int)(v0_1:Int)(v0_2:Y9_7):Option R:=bif decide (v0_1<(↑v0_2.length:Int))then bif decide (0≤v0_1)&&decide (v0_1.toNat<v0_2.length)then(lget v0_2 v0_1.toNat).bind fun(y0:Int×Int×Unit)=>bif decide (0≤v0_1)&&decide (v0_1.toNat<(v0_2.set v0_1.toNat (v0_0,y0.2)).length)then(lget (v0_2.set v0_1.toNat (v0_0,y0.2)) v0_1.toNat).bind fun(y1:Int×Int×Unit)=>r0 (i64.wrap (i64.wrap (v0_0+1)+1)) (i64.wrap (v0_1+1)) ((v0_2.set v0_1.toNat (v0_0,y0.2)).set v0_1.toNat (y1.1,i64.wrap (v0_0+1),y1.2.2))else none else none else some ((v0_0,()),v0_2,())
def L0(call:Cl)(k:Nat):Nat→(Int)→(Int)→Y9_6→Option R|0,_,_,_=>none|n+1,v0_0,v0_1,v0_2=>step0 call k (L0 call k n) v0_0 v0_1 v0_2
def Fm(call:Cl)(k:Nat)(l0:(Int)→(Int)→Y9_6→Option R)(a0:Y9_7)(a1:Int):Option R:=l0 a1 0 a0
def F(call:Cl)(k:Nat)(a0:Y9_7)(a1:Int):Option R:=Fm call k (fun v0_0_ v0_1_ v0_2_=>L0 call k k v0_0_ v0_1_ v0_2_) a0 a1
theorem L0_eq(call:Cl)(k:Nat)(J:Nat→St→Option R)(a0:Y9_7)(a1:Int):∀(n:Nat)(x:Y9_5),siteI E call n_laws_markTermS k s_laws_markTermS (a0,a1,()) J 0 n (S0 x.1 x.2.1 x.2.2)=L0 call k n x.1 x.2.1 x.2.2:=by
  refine loop_eq (s:=s_laws_markTermS) (fun x=>S0 x.1 x.2.1 x.2.2) (fun n x=>L0 call k n x.1 x.2.1 x.2.2) (fun r x=>step0 call k (fun v0_0 v0_1 v0_2=>r (v0_0,v0_1,v0_2)) x.1 x.2.1 x.2.2) (fun _=>rfl) (fun _ _=>rfl) fun J0 x=>?_
  kernel_rfl
theorem F_eq(call:Cl)(k:Nat)(a0:Y9_7)(a1:Int):bodyK E call n_laws_markTermS k s_laws_markTermS (a0,a1,())=F call k a0 a1:=by
  exact Eq.trans (b:=Fm call k (fun v0_0_ v0_1_ v0_2_=>siteI E call n_laws_markTermS k s_laws_markTermS (a0,a1,()) (fun _ _=>none) 0 k (S0 v0_0_ v0_1_ v0_2_)) a0 a1) (by kernel_rfl) (congrArg (fun l=>Fm call k l a0 a1) (funext fun v0_0_=>funext fun v0_1_=>funext fun v0_2_=>L0_eq call k (fun _ _=>none) a0 a1 k (v0_0_,v0_1_,v0_2_)))
end laws_markTermS
/-! #### laws_markStmtS-/
namespace laws_markStmtS
abbrev R:=((Int×Unit)×((List (Int×(Int×((List (Int×(Int×Unit)))×((List (Int×(Int×Unit)))×Unit)))))×Unit))
def S0(v0_0:Int)(v0_1:Int)(v0_2:Y9_2):St:=⟨mkS 41 [(0,.ref [500000]),(1,.v tI v0_0),(5,.v tI v0_1)],[([500000],.list 114 (.pair tI (.pair tI (.pair (.own 184 tTm) (.pair (.own 184 tTm) .unit)))) v0_2)]⟩
def step0(call:Cl)(k:Nat)(r0:(Int)→(Int)→Y9_1→Option R)(v0_0:Int)(v0_1:Int)(v0_2:Y9_2):Option R:=bif decide (v0_1<(↑v0_2.length:Int))then bif decide (0≤v0_1)&&decide (v0_1.toNat<v0_2.length)then(lget v0_2 v0_1.toNat).bind fun(y0:Y9_3)=>bif decide (0≤v0_1)&&decide (v0_1.toNat<(v0_2.set v0_1.toNat (v0_0,y0.2)).length)then(lget (v0_2.set v0_1.toNat (v0_0,y0.2)) v0_1.toNat).bind fun(y1:Y9_3)=>bif decide (0≤v0_1)&&decide (v0_1.toNat<((v0_2.set v0_1.toNat (v0_0,y0.2)).set v0_1.toNat (y1.1,i64.wrap (v0_0+1),y1.2.2)).length)then(lget ((v0_2.set v0_1.toNat (v0_0,y0.2)).set v0_1.toNat (y1.1,i64.wrap (v0_0+1),y1.2.2)) v0_1.toNat).bind fun(y2:Y9_3)=>(call 182 s_laws_markTermS (y2.2.2.1,i64.wrap (i64.wrap (v0_0+1)+1),())).bind fun(y3:Y9_4)=>(lget ((v0_2.set v0_1.toNat (v0_0,y0.2)).set v0_1.toNat (y1.1,i64.wrap (v0_0+1),y1.2.2)) v0_1.toNat).bind fun(y4:Y9_3)=>bif decide (0≤v0_1)&&decide (v0_1.toNat<(((v0_2.set v0_1.toNat (v0_0,y0.2)).set v0_1.toNat (y1.1,i64.wrap (v0_0+1),y1.2.2)).set v0_1.toNat (y4.1,y4.2.1,y3.2.1,y4.2.2.2)).length)then(lget (((v0_2.set v0_1.toNat (v0_0,y0.2)).set v0_1.toNat (y1.1,i64.wrap (v0_0+1),y1.2.2)).set v0_1.toNat (y4.1,y4.2.1,y3.2.1,y4.2.2.2)) v0_1.toNat).bind fun(y5:Y9_3)=>(call 182 s_laws_markTermS (y5.2.2.2.1,y3.1.1,())).bind fun(y6:Y9_4)=>(lget (((v0_2.set v0_1.toNat (v0_0,y0.2)).set v0_1.toNat (y1.1,i64.wrap (v0_0+1),y1.2.2)).set v0_1.toNat (y4.1,y4.2.1,y3.2.1,y4.2.2.2)) v0_1.toNat).bind fun(y7:Y9_3)=>r0 y6.1.1 (i64.wrap (v0_1+1)) ((((v0_2.set v0_1.toNat (v0_0,y0.2)).set v0_1.toNat (y1.1,i64.wrap (v0_0+1),y1.2.2)).set v0_1.toNat (y4.1,y4.2.1,y3.2.1,y4.2.2.2)).set v0_1.toNat (y7.1,y7.2.1,y7.2.2.1,y6.2.1,y7.2.2.2.2))else none else none else none else none else some ((v0_0,()),v0_2,())
def L0(call:Cl)(k:Nat):Nat→(Int)→(Int)→Y9_1→Option R|0,_,_,_=>none|n+1,v0_0,v0_1,v0_2=>step0 call k (L0 call k n) v0_0 v0_1 v0_2
def Fm(call:Cl)(k:Nat)(l0:(Int)→(Int)→Y9_1→Option R)(a0:Y9_2)(a1:Int):Option R:=l0 a1 0 a0
def F(call:Cl)(k:Nat)(a0:Y9_2)(a1:Int):Option R:=Fm call k (fun v0_0_ v0_1_ v0_2_=>L0 call k k v0_0_ v0_1_ v0_2_) a0 a1
theorem L0_eq(call:Cl)(k:Nat)(J:Nat→St→Option R)(a0:Y9_2)(a1:Int):∀(n:Nat)(x:((Int)×(Int)×Y9_1)),siteI E call n_laws_markStmtS k s_laws_markStmtS (a0,a1,()) J 0 n (S0 x.1 x.2.1 x.2.2)=L0 call k n x.1 x.2.1 x.2.2:=by
  refine loop_eq (s:=s_laws_markStmtS) (fun x=>S0 x.1 x.2.1 x.2.2) (fun n x=>L0 call k n x.1 x.2.1 x.2.2) (fun r x=>step0 call k (fun v0_0 v0_1 v0_2=>r (v0_0,v0_1,v0_2)) x.1 x.2.1 x.2.2) (fun _=>rfl) (fun _ _=>rfl) fun J0 x=>?_
  kernel_rfl
theorem F_eq(call:Cl)(k:Nat)(a0:Y9_2)(a1:Int):bodyK E call n_laws_markStmtS k s_laws_markStmtS (a0,a1,())=F call k a0 a1:=by
  exact Eq.trans (b:=Fm call k (fun v0_0_ v0_1_ v0_2_=>siteI E call n_laws_markStmtS k s_laws_markStmtS (a0,a1,()) (fun _ _=>none) 0 k (S0 v0_0_ v0_1_ v0_2_)) a0 a1) (by kernel_rfl) (congrArg (fun l=>Fm call k l a0 a1) (funext fun v0_0_=>funext fun v0_1_=>funext fun v0_2_=>L0_eq call k (fun _ _=>none) a0 a1 k (v0_0_,v0_1_,v0_2_)))
end laws_markStmtS
/-! #### laws_markProg-/
namespace laws_markProg
abbrev R:=((Int×Unit)×((Int×((List (Int×(Int×Unit)))×((List (Int×(Int×Unit)))×(Int×((List Int)×((List (Int×(Int×((List (Int×(Int×Unit)))×((List (Int×(Int×Unit)))×Unit)))))×Unit))))))×Unit))
def Fm(call:Cl)(k:Nat)(a0:Y9_0)(a1:Int):Option R:=(call 136 s_laws_markInputS (a0.2.1,a1,())).bind fun(y0:Y9_4)=>(call 136 s_laws_markInputS (a0.2.2.1,y0.1.1,())).bind fun(y1:Y9_4)=>(call 76 s_laws_markInt64S (a0.2.2.2.2.1,y1.1.1,())).bind fun(y2:((Int×Unit)×List Int×Unit))=>(call 137 s_laws_markStmtS (a0.2.2.2.2.2.1,y2.1.1,())).bind fun(y3:((Int×Unit)×List Y9_3×Unit))=>some ((y3.1.1,()),(a0.1,y0.2.1,y1.2.1,a0.2.2.2.1,y2.2.1,y3.2.1,a0.2.2.2.2.2.2),())
def F(call:Cl)(k:Nat)(a0:Y9_0)(a1:Int):Option R:=Fm call k a0 a1
theorem F_eq(call:Cl)(k:Nat)(a0:Y9_0)(a1:Int):bodyK E call n_laws_markProg k s_laws_markProg (a0,a1,())=F call k a0 a1:=by kernel_rfl
end laws_markProg
/-! #### laws_heldInt64S-/
namespace laws_heldInt64S
abbrev R:=((Int×Unit)×Unit)
def S0(a0:(List Int))(v0_1:Int)(v0_2:Int):St:=⟨mkS 21 [(0,.v (.slc tI) (a0)),(1,.v tI v0_1),(5,.v tI v0_2)],[]⟩
def step0(call:Cl)(k:Nat)(a0:(List Int))(r0:(Int)→(Int)→Option R)(v0_1:Int)(v0_2:Int):Option R:=bif decide (v0_2<(↑a0.length:Int))then bif decide (0≤v0_2)then(lget a0 v0_2.toNat).bind fun(y0:Int)=>bif y0 !=v0_1 then some (((-1),()),())else r0 (i64.wrap (v0_1+1)) (i64.wrap (v0_2+1))else none else some ((v0_1,()),())
def L0(call:Cl)(k:Nat)(a0:(List Int)):Nat→(Int)→(Int)→Option R|0,_,_=>none|n+1,v0_1,v0_2=>step0 call k a0 (L0 call k a0 n) v0_1 v0_2
def Fm(call:Cl)(k:Nat)(l0:((List Int))→(Int)→(Int)→Option R)(a0:(List Int))(a1:Int):Option R:=l0 a0 a1 0
def F(call:Cl)(k:Nat)(a0:(List Int))(a1:Int):Option R:=Fm call k (fun a0_ v0_1_ v0_2_=>L0 call k a0_ k v0_1_ v0_2_) a0 a1
theorem L0_eq(call:Cl)(k:Nat)(J:Nat→St→Option R)(a0:(List Int))(a1:Int):∀(n:Nat)(x:((Int)×(Int))),siteI E call n_laws_heldInt64S k s_laws_heldInt64S (a0,a1,()) J 0 n (S0 a0 x.1 x.2)=L0 call k a0 n x.1 x.2:=by
  refine loop_eq (s:=s_laws_heldInt64S) (fun x=>S0 a0 x.1 x.2) (fun n x=>L0 call k a0 n x.1 x.2) (fun r x=>step0 call k a0 (fun v0_1 v0_2=>r (v0_1,v0_2)) x.1 x.2) (fun _=>rfl) (fun _ _=>rfl) fun J0 x=>?_
  kernel_rfl
theorem F_eq(call:Cl)(k:Nat)(a0:(List Int))(a1:Int):bodyK E call n_laws_heldInt64S k s_laws_heldInt64S (a0,a1,())=F call k a0 a1:=by
  exact Eq.trans (b:=Fm call k (fun a0 v0_1_ v0_2_=>siteI E call n_laws_heldInt64S k s_laws_heldInt64S (a0,a1,()) (fun _ _=>none) 0 k (S0 a0 v0_1_ v0_2_)) a0 a1) (by kernel_rfl) (congrArg (fun l=>Fm call k l a0 a1) (funext fun a0=>funext fun v0_1_=>funext fun v0_2_=>L0_eq call k (fun _ _=>none) a0 a1 k (v0_1_,v0_2_)))
end laws_heldInt64S
end Go.Proofs.YtjgfofcgmcnblaaGreat.Pf
