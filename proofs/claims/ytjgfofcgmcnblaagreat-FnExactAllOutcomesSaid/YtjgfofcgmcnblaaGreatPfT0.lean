/- Printed texts: what the reading of these functions is. No condition. -/
import Derived.Test.YtjgfofcgmcnblaaGreatPvEnv
import Derived.KernelRfl
set_option linter.all false
set_option maxHeartbeats 2000000
namespace Go.Proofs.YtjgfofcgmcnblaaGreat.Pf
open Go Go.Pv IntKind
abbrev Y0_0:Type:=(Int×((List (Int×(Int×Unit)))×((List (Int×(Int×Unit)))×(Int×((List Int)×((List (Int×(Int×((List (Int×(Int×Unit)))×((List (Int×(Int×Unit)))×Unit)))))×Unit))))))
abbrev Y0_1:Type:=((List (Int×(Int×((List (Int×(Int×Unit)))×((List (Int×(Int×Unit)))×Unit))))))
abbrev Y0_2:Type:=(List (Int×(Int×((List (Int×(Int×Unit)))×((List (Int×(Int×Unit)))×Unit)))))
abbrev Y0_3:Type:=(Int×(Int×((List (Int×(Int×Unit)))×((List (Int×(Int×Unit)))×Unit))))
abbrev Y0_4:Type:=(Int×Int×List (Int×Int×Unit)×List (Int×Int×Unit)×Unit)
abbrev Y0_5:Type:=((List (Int×Int×Unit)×Unit)×Unit)
abbrev Y0_6:Type:=((Int)×((List (Int×(Int×Unit)))))
abbrev Y0_7:Type:=((List (Int×(Int×Unit))))
abbrev Y0_8:Type:=(List (Int×(Int×Unit)))
abbrev Y0_9:Type:=(Int×(Int×Unit))
abbrev Y0_10:Type:=(Bool×Unit)
abbrev Y0_11:Type:=(Int×Unit)
/-! #### laws_szInt64S-/
namespace laws_szInt64S
abbrev R:=((Int×Unit)×Unit)
def Fm(call:Cl)(k:Nat)(a0:(List Int))(a1:Int):Option R:=bif decide (i64.wrap (a1-(↑a0.length:Int))<0)then some (((-1),()),())else some ((i64.wrap (a1-(↑a0.length:Int)),()),())
def F(call:Cl)(k:Nat)(a0:(List Int))(a1:Int):Option R:=Fm call k a0 a1
theorem F_eq(call:Cl)(k:Nat)(a0:(List Int))(a1:Int):bodyK E call n_laws_szInt64S k s_laws_szInt64S (a0,a1,())=F call k a0 a1:=by kernel_rfl
end laws_szInt64S
/-! #### laws_szInputS-/
namespace laws_szInputS
abbrev R:=((Int×Unit)×Unit)
def Fm(call:Cl)(k:Nat)(a0:Y0_8)(a1:Int):Option R:=bif decide (i64.wrap (a1-(↑a0.length:Int))<0)then some (((-1),()),())else some ((i64.wrap (a1-(↑a0.length:Int)),()),())
def F(call:Cl)(k:Nat)(a0:Y0_8)(a1:Int):Option R:=Fm call k a0 a1
theorem F_eq(call:Cl)(k:Nat)(a0:Y0_8)(a1:Int):bodyK E call n_laws_szInputS k s_laws_szInputS (a0,a1,())=F call k a0 a1:=by kernel_rfl
end laws_szInputS
/-! #### laws_szTermS-/
namespace laws_szTermS
abbrev R:=((Int×Unit)×Unit)
def Fm(call:Cl)(k:Nat)(a0:Y0_8)(a1:Int):Option R:=bif decide (i64.wrap (a1-(↑a0.length:Int))<0)then some (((-1),()),())else some ((i64.wrap (a1-(↑a0.length:Int)),()),())
def F(call:Cl)(k:Nat)(a0:Y0_8)(a1:Int):Option R:=Fm call k a0 a1
theorem F_eq(call:Cl)(k:Nat)(a0:Y0_8)(a1:Int):bodyK E call n_laws_szTermS k s_laws_szTermS (a0,a1,())=F call k a0 a1:=by kernel_rfl
end laws_szTermS
/-! #### laws_szStmt-/
namespace laws_szStmt
abbrev R:=((Int×Unit)×Unit)
def Fm(call:Cl)(k:Nat)(a0:Y0_3)(a1:Int):Option R:=(call 212 s_laws_szTermS (a0.2.2.1,a1,())).bind fun(y0:Y0_11×Unit)=>bif decide (y0.1.1<0)then some (((-1),()),())else(call 212 s_laws_szTermS (a0.2.2.2.1,y0.1.1,())).bind fun(y1:Y0_11×Unit)=>bif decide (y1.1.1<0)then some (((-1),()),())else some ((y1.1.1,()),())
def F(call:Cl)(k:Nat)(a0:Y0_3)(a1:Int):Option R:=Fm call k a0 a1
theorem F_eq(call:Cl)(k:Nat)(a0:Y0_3)(a1:Int):bodyK E call n_laws_szStmt k s_laws_szStmt (a0,a1,())=F call k a0 a1:=by kernel_rfl
end laws_szStmt
/-! #### laws_szStmtS-/
namespace laws_szStmtS
abbrev R:=((Int×Unit)×Unit)
def S0(a0:Y0_2)(v0_1:Int)(v0_2:Int):St:=⟨mkS 27 [(0,.v (.slc tSm) (a0)),(1,.v tI v0_1),(5,.v tI v0_2)],[]⟩
def step0(call:Cl)(k:Nat)(a0:Y0_2)(r0:(Int)→(Int)→Option R)(v0_1:Int)(v0_2:Int):Option R:=bif decide (v0_2<(↑a0.length:Int))then bif decide (0≤v0_2)then(lget a0 v0_2.toNat).bind fun(y0:Y0_4)=>(call 171 s_laws_szStmt (y0,v0_1,())).bind fun(y1:Y0_11×Unit)=>bif decide (y1.1.1<0)then some (((-1),()),())else r0 y1.1.1 (i64.wrap (v0_2+1))else none else some ((v0_1,()),())
def L0(call:Cl)(k:Nat)(a0:Y0_2):Nat→(Int)→(Int)→Option R|0,_,_=>none|n+1,v0_1,v0_2=>step0 call k a0 (L0 call k a0 n) v0_1 v0_2
def Fm(call:Cl)(k:Nat)(l0:Y0_1→(Int)→(Int)→Option R)(a0:Y0_2)(a1:Int):Option R:=bif decide (i64.wrap (a1-(↑a0.length:Int))<0)then some (((-1),()),())else l0 a0 (i64.wrap (a1-(↑a0.length:Int))) 0
def F(call:Cl)(k:Nat)(a0:Y0_2)(a1:Int):Option R:=Fm call k (fun a0_ v0_1_ v0_2_=>L0 call k a0_ k v0_1_ v0_2_) a0 a1
theorem L0_eq(call:Cl)(k:Nat)(J:Nat→St→Option R)(a0:Y0_2)(a1:Int):∀(n:Nat)(x:((Int)×(Int))),siteI E call n_laws_szStmtS k s_laws_szStmtS (a0,a1,()) J 0 n (S0 a0 x.1 x.2)=L0 call k a0 n x.1 x.2:=by
  refine loop_eq (s:=s_laws_szStmtS) (fun x=>S0 a0 x.1 x.2) (fun n x=>L0 call k a0 n x.1 x.2) (fun r x=>step0 call k a0 (fun v0_1 v0_2=>r (v0_1,v0_2)) x.1 x.2) (fun _=>rfl) (fun _ _=>rfl) fun J0 x=>?_
  kernel_rfl
theorem F_eq(call:Cl)(k:Nat)(a0:Y0_2)(a1:Int):bodyK E call n_laws_szStmtS k s_laws_szStmtS (a0,a1,())=F call k a0 a1:=by
  exact Eq.trans (b:=Fm call k (fun a0 v0_1_ v0_2_=>siteI E call n_laws_szStmtS k s_laws_szStmtS (a0,a1,()) (fun _ _=>none) 0 k (S0 a0 v0_1_ v0_2_)) a0 a1) (by kernel_rfl) (congrArg (fun l=>Fm call k l a0 a1) (funext fun a0=>funext fun v0_1_=>funext fun v0_2_=>L0_eq call k (fun _ _=>none) a0 a1 k (v0_1_,v0_2_)))
end laws_szStmtS
/-! #### laws_szProg-/
namespace laws_szProg
abbrev R:=((Int×Unit)×Unit)
def Fm(call:Cl)(k:Nat)(a0:Y0_0)(a1:Int):Option R:=(call 112 s_laws_szInputS (a0.2.1,a1,())).bind fun(y0:Y0_11×Unit)=>bif decide (y0.1.1<0)then some (((-1),()),())else(call 112 s_laws_szInputS (a0.2.2.1,y0.1.1,())).bind fun(y1:Y0_11×Unit)=>bif decide (y1.1.1<0)then some (((-1),()),())else(call 113 s_laws_szInt64S (a0.2.2.2.2.1,y1.1.1,())).bind fun(y2:Y0_11×Unit)=>bif decide (y2.1.1<0)then some (((-1),()),())else(call 114 s_laws_szStmtS (a0.2.2.2.2.2.1,y2.1.1,())).bind fun(y3:Y0_11×Unit)=>bif decide (y3.1.1<0)then some (((-1),()),())else some ((y3.1.1,()),())
def F(call:Cl)(k:Nat)(a0:Y0_0)(a1:Int):Option R:=Fm call k a0 a1
theorem F_eq(call:Cl)(k:Nat)(a0:Y0_0)(a1:Int):bodyK E call n_laws_szProg k s_laws_szProg (a0,a1,())=F call k a0 a1:=by kernel_rfl
end laws_szProg
/-! #### laws_toInt64S-/
namespace laws_toInt64S
abbrev R:=(((List Int)×Unit)×Unit)
def S0(a0:(List Int))(v0_1:Int)(v0_2:(List Int)):St:=⟨mkS 22 [(0,.v (.slc tI) (a0)),(3,.ref [500003]),(4,.v tI v0_1)],[([500003],.list 2 tI v0_2)]⟩
def step0(call:Cl)(k:Nat)(a0:(List Int))(r0:(Int)→((List Int))→Option R)(v0_1:Int)(v0_2:(List Int)):Option R:=bif decide (v0_1<(↑a0.length:Int))then bif decide (0≤v0_1)then(lget a0 v0_1.toNat).bind fun(y0:Int)=>bif decide (0≤v0_1)&&decide (v0_1.toNat<v0_2.length)then(lget v0_2 v0_1.toNat).bind fun(y1:Int)=>r0 (i64.wrap (v0_1+1)) (v0_2.set v0_1.toNat y0)else none else none else some ((v0_2,()),())
def L0(call:Cl)(k:Nat)(a0:(List Int)):Nat→(Int)→((List Int))→Option R|0,_,_=>none|n+1,v0_1,v0_2=>step0 call k a0 (L0 call k a0 n) v0_1 v0_2
def Fm(call:Cl)(k:Nat)(l0:((List Int))→(Int)→((List Int))→Option R)(a0:(List Int)):Option R:=bif decide ((↑a0.length:Int)=(↑a0.length:Int))&&decide (0≤(↑a0.length:Int))&&decide ((↑a0.length:Int)*(↑ti2.bytes:Int)≤281474976710656)then l0 a0 0 (List.replicate (↑a0.length:Int).toNat (Int.ofNat (nat_lit 0)))else none
def F(call:Cl)(k:Nat)(a0:(List Int)):Option R:=Fm call k (fun a0_ v0_1_ v0_2_=>L0 call k a0_ k v0_1_ v0_2_) a0
theorem L0_eq(call:Cl)(k:Nat)(J:Nat→St→Option R)(a0:(List Int)):∀(n:Nat)(x:((Int)×((List Int)))),siteI E call n_laws_toInt64S k s_laws_toInt64S (a0,()) J 0 n (S0 a0 x.1 x.2)=L0 call k a0 n x.1 x.2:=by
  refine loop_eq (s:=s_laws_toInt64S) (fun x=>S0 a0 x.1 x.2) (fun n x=>L0 call k a0 n x.1 x.2) (fun r x=>step0 call k a0 (fun v0_1 v0_2=>r (v0_1,v0_2)) x.1 x.2) (fun _=>rfl) (fun _ _=>rfl) fun J0 x=>?_
  kernel_rfl
theorem F_eq(call:Cl)(k:Nat)(a0:(List Int)):bodyK E call n_laws_toInt64S k s_laws_toInt64S (a0,())=F call k a0:=by
  exact Eq.trans (b:=Fm call k (fun a0 v0_1_ v0_2_=>siteI E call n_laws_toInt64S k s_laws_toInt64S (a0,()) (fun _ _=>none) 0 k (S0 a0 v0_1_ v0_2_)) a0) (by kernel_rfl) (congrArg (fun l=>Fm call k l a0) (funext fun a0=>funext fun v0_1_=>funext fun v0_2_=>L0_eq call k (fun _ _=>none) a0 k (v0_1_,v0_2_)))
end laws_toInt64S
/-! #### laws_toInput-/
namespace laws_toInput
abbrev R:=(((Int×(Int×Unit))×Unit)×Unit)
def Fm(call:Cl)(k:Nat)(a0:Y0_9):Option R:=some (((a0.1,a0.2.1,()),()),())
def F(call:Cl)(k:Nat)(a0:Y0_9):Option R:=Fm call k a0
theorem F_eq(call:Cl)(k:Nat)(a0:Y0_9):bodyK E call n_laws_toInput k s_laws_toInput (a0,())=F call k a0:=by kernel_rfl
end laws_toInput
/-! #### laws_toInputS-/
namespace laws_toInputS
abbrev R:=(((List (Int×(Int×Unit)))×Unit)×Unit)
def S0(a0:Y0_8)(v0_1:Int)(v0_2:Y0_8):St:=⟨mkS 23 [(0,.v tTl (a0)),(3,.ref [500003]),(4,.v tI v0_1)],[([500003],.list 59 tTm v0_2)]⟩
def step0(call:Cl)(k:Nat)(a0:Y0_8)(r0:(Int)→Y0_7→Option R)(v0_1:Int)(v0_2:Y0_8):Option R:=bif decide (v0_1<(↑a0.length:Int))then bif decide (0≤v0_1)then(lget a0 v0_1.toNat).bind fun(y0:Int×Int×Unit)=>(call 173 s_laws_toInput (y0,())).bind fun(y1:(((Int×Int×Unit)×Unit)×Unit))=>bif decide (0≤v0_1)&&decide (v0_1.toNat<v0_2.length)then(lget v0_2 v0_1.toNat).bind fun(y2:Int×Int×Unit)=>r0 (i64.wrap (v0_1+1)) (v0_2.set v0_1.toNat y1.1.1)else none else none else some ((v0_2,()),())
def L0(call:Cl)(k:Nat)(a0:Y0_8):Nat→(Int)→Y0_7→Option R|0,_,_=>none|n+1,v0_1,v0_2=>step0 call k a0 (L0 call k a0 n) v0_1 v0_2
def Fm(call:Cl)(k:Nat)(l0:Y0_7→(Int)→Y0_7→Option R)(a0:Y0_8):Option R:=bif decide ((↑a0.length:Int)=(↑a0.length:Int))&&decide (0≤(↑a0.length:Int))&&decide ((↑a0.length:Int)*(↑ti59.bytes:Int)≤281474976710656)then l0 a0 0 (List.replicate (↑a0.length:Int).toNat (0,0,()))else none
def F(call:Cl)(k:Nat)(a0:Y0_8):Option R:=Fm call k (fun a0_ v0_1_ v0_2_=>L0 call k a0_ k v0_1_ v0_2_) a0
theorem L0_eq(call:Cl)(k:Nat)(J:Nat→St→Option R)(a0:Y0_8):∀(n:Nat)(x:Y0_6),siteI E call n_laws_toInputS k s_laws_toInputS (a0,()) J 0 n (S0 a0 x.1 x.2)=L0 call k a0 n x.1 x.2:=by
  refine loop_eq (s:=s_laws_toInputS) (fun x=>S0 a0 x.1 x.2) (fun n x=>L0 call k a0 n x.1 x.2) (fun r x=>step0 call k a0 (fun v0_1 v0_2=>r (v0_1,v0_2)) x.1 x.2) (fun _=>rfl) (fun _ _=>rfl) fun J0 x=>?_
  kernel_rfl
theorem F_eq(call:Cl)(k:Nat)(a0:Y0_8):bodyK E call n_laws_toInputS k s_laws_toInputS (a0,())=F call k a0:=by
  exact Eq.trans (b:=Fm call k (fun a0 v0_1_ v0_2_=>siteI E call n_laws_toInputS k s_laws_toInputS (a0,()) (fun _ _=>none) 0 k (S0 a0 v0_1_ v0_2_)) a0) (by kernel_rfl) (congrArg (fun l=>Fm call k l a0) (funext fun a0=>funext fun v0_1_=>funext fun v0_2_=>L0_eq call k (fun _ _=>none) a0 k (v0_1_,v0_2_)))
end laws_toInputS
/-! #### laws_toTerm-/
namespace laws_toTerm
abbrev R:=(((Int×(Int×Unit))×Unit)×Unit)
def Fm(call:Cl)(k:Nat)(a0:Y0_9):Option R:=some (((a0.1,a0.2.1,()),()),())
def F(call:Cl)(k:Nat)(a0:Y0_9):Option R:=Fm call k a0
theorem F_eq(call:Cl)(k:Nat)(a0:Y0_9):bodyK E call n_laws_toTerm k s_laws_toTerm (a0,())=F call k a0:=by kernel_rfl
end laws_toTerm
/-! #### laws_toTermS-/
namespace laws_toTermS
abbrev R:=(((List (Int×(Int×Unit)))×Unit)×Unit)
def S0(a0:Y0_8)(v0_1:Int)(v0_2:Y0_8):St:=⟨mkS 23 [(0,.v tTl (a0)),(3,.ref [500003]),(4,.v tI v0_1)],[([500003],.list 184 tTm v0_2)]⟩
def step0(call:Cl)(k:Nat)(a0:Y0_8)(r0:(Int)→Y0_7→Option R)(v0_1:Int)(v0_2:Y0_8):Option R:=bif decide (v0_1<(↑a0.length:Int))then bif decide (0≤v0_1)then(lget a0 v0_1.toNat).bind fun(y0:Int×Int×Unit)=>(call 236 s_laws_toTerm (y0,())).bind fun(y1:(((Int×Int×Unit)×Unit)×Unit))=>bif decide (0≤v0_1)&&decide (v0_1.toNat<v0_2.length)then(lget v0_2 v0_1.toNat).bind fun(y2:Int×Int×Unit)=>r0 (i64.wrap (v0_1+1)) (v0_2.set v0_1.toNat y1.1.1)else none else none else some ((v0_2,()),())
def L0(call:Cl)(k:Nat)(a0:Y0_8):Nat→(Int)→Y0_7→Option R|0,_,_=>none|n+1,v0_1,v0_2=>step0 call k a0 (L0 call k a0 n) v0_1 v0_2
def Fm(call:Cl)(k:Nat)(l0:Y0_7→(Int)→Y0_7→Option R)(a0:Y0_8):Option R:=bif decide ((↑a0.length:Int)=(↑a0.length:Int))&&decide (0≤(↑a0.length:Int))&&decide ((↑a0.length:Int)*(↑ti184.bytes:Int)≤281474976710656)then l0 a0 0 (List.replicate (↑a0.length:Int).toNat (0,0,()))else none
def F(call:Cl)(k:Nat)(a0:Y0_8):Option R:=Fm call k (fun a0_ v0_1_ v0_2_=>L0 call k a0_ k v0_1_ v0_2_) a0
theorem L0_eq(call:Cl)(k:Nat)(J:Nat→St→Option R)(a0:Y0_8):∀(n:Nat)(x:Y0_6),siteI E call n_laws_toTermS k s_laws_toTermS (a0,()) J 0 n (S0 a0 x.1 x.2)=L0 call k a0 n x.1 x.2:=by
  refine loop_eq (s:=s_laws_toTermS) (fun x=>S0 a0 x.1 x.2) (fun n x=>L0 call k a0 n x.1 x.2) (fun r x=>step0 call k a0 (fun v0_1 v0_2=>r (v0_1,v0_2)) x.1 x.2) (fun _=>rfl) (fun _ _=>rfl) fun J0 x=>?_
  kernel_rfl
theorem F_eq(call:Cl)(k:Nat)(a0:Y0_8):bodyK E call n_laws_toTermS k s_laws_toTermS (a0,())=F call k a0:=by
  exact Eq.trans (b:=Fm call k (fun a0 v0_1_ v0_2_=>siteI E call n_laws_toTermS k s_laws_toTermS (a0,()) (fun _ _=>none) 0 k (S0 a0 v0_1_ v0_2_)) a0) (by kernel_rfl) (congrArg (fun l=>Fm call k l a0) (funext fun a0=>funext fun v0_1_=>funext fun v0_2_=>L0_eq call k (fun _ _=>none) a0 k (v0_1_,v0_2_)))
end laws_toTermS
/-! #### laws_toStmt-/
namespace laws_toStmt
abbrev R:=(((Int×(Int×((List (Int×(Int×Unit)))×((List (Int×(Int×Unit)))×Unit))))×Unit)×Unit)
def Fm(call:Cl)(k:Nat)(a0:Y0_3):Option R:=(call 213 s_laws_toTermS (a0.2.2.1,())).bind fun(y0:Y0_5)=>(call 213 s_laws_toTermS (a0.2.2.2.1,())).bind fun(y1:Y0_5)=>some (((a0.1,a0.2.1,y0.1.1,y1.1.1,()),()),())
def F(call:Cl)(k:Nat)(a0:Y0_3):Option R:=Fm call k a0
theorem F_eq(call:Cl)(k:Nat)(a0:Y0_3):bodyK E call n_laws_toStmt k s_laws_toStmt (a0,())=F call k a0:=by kernel_rfl
end laws_toStmt
/-! #### laws_toStmtS-/
namespace laws_toStmtS
abbrev R:=(((List (Int×(Int×((List (Int×(Int×Unit)))×((List (Int×(Int×Unit)))×Unit)))))×Unit)×Unit)
def S0(a0:Y0_2)(v0_1:Int)(v0_2:Y0_2):St:=⟨mkS 23 [(0,.v (.slc tSm) (a0)),(3,.ref [500003]),(4,.v tI v0_1)],[([500003],.list 114 (.pair tI (.pair tI (.pair (.own 184 tTm) (.pair (.own 184 tTm) .unit)))) v0_2)]⟩
def step0(call:Cl)(k:Nat)(a0:Y0_2)(r0:(Int)→Y0_1→Option R)(v0_1:Int)(v0_2:Y0_2):Option R:=bif decide (v0_1<(↑a0.length:Int))then bif decide (0≤v0_1)then(lget a0 v0_1.toNat).bind fun(y0:Y0_4)=>(call 174 s_laws_toStmt (y0,())).bind fun(y1:((Y0_4×Unit)×Unit))=>bif decide (0≤v0_1)&&decide (v0_1.toNat<v0_2.length)then(lget v0_2 v0_1.toNat).bind fun(y2:Y0_4)=>r0 (i64.wrap (v0_1+1)) (v0_2.set v0_1.toNat y1.1.1)else none else none else some ((v0_2,()),())
def L0(call:Cl)(k:Nat)(a0:Y0_2):Nat→(Int)→Y0_1→Option R|0,_,_=>none|n+1,v0_1,v0_2=>step0 call k a0 (L0 call k a0 n) v0_1 v0_2
def Fm(call:Cl)(k:Nat)(l0:Y0_1→(Int)→Y0_1→Option R)(a0:Y0_2):Option R:=bif decide ((↑a0.length:Int)=(↑a0.length:Int))&&decide (0≤(↑a0.length:Int))&&decide ((↑a0.length:Int)*(↑ti114.bytes:Int)≤281474976710656)then l0 a0 0 (List.replicate (↑a0.length:Int).toNat (0,0,[],[],()))else none
def F(call:Cl)(k:Nat)(a0:Y0_2):Option R:=Fm call k (fun a0_ v0_1_ v0_2_=>L0 call k a0_ k v0_1_ v0_2_) a0
theorem L0_eq(call:Cl)(k:Nat)(J:Nat→St→Option R)(a0:Y0_2):∀(n:Nat)(x:((Int)×Y0_1)),siteI E call n_laws_toStmtS k s_laws_toStmtS (a0,()) J 0 n (S0 a0 x.1 x.2)=L0 call k a0 n x.1 x.2:=by
  refine loop_eq (s:=s_laws_toStmtS) (fun x=>S0 a0 x.1 x.2) (fun n x=>L0 call k a0 n x.1 x.2) (fun r x=>step0 call k a0 (fun v0_1 v0_2=>r (v0_1,v0_2)) x.1 x.2) (fun _=>rfl) (fun _ _=>rfl) fun J0 x=>?_
  kernel_rfl
theorem F_eq(call:Cl)(k:Nat)(a0:Y0_2):bodyK E call n_laws_toStmtS k s_laws_toStmtS (a0,())=F call k a0:=by
  exact Eq.trans (b:=Fm call k (fun a0 v0_1_ v0_2_=>siteI E call n_laws_toStmtS k s_laws_toStmtS (a0,()) (fun _ _=>none) 0 k (S0 a0 v0_1_ v0_2_)) a0) (by kernel_rfl) (congrArg (fun l=>Fm call k l a0) (funext fun a0=>funext fun v0_1_=>funext fun v0_2_=>L0_eq call k (fun _ _=>none) a0 k (v0_1_,v0_2_)))
end laws_toStmtS
/-! #### laws_toProg-/
namespace laws_toProg
abbrev R:=(((Int×((List (Int×(Int×Unit)))×((List (Int×(Int×Unit)))×(Int×((List Int)×((List (Int×(Int×((List (Int×(Int×Unit)))×((List (Int×(Int×Unit)))×Unit)))))×Unit))))))×Unit)×Unit)
def Fm(call:Cl)(k:Nat)(a0:Y0_0):Option R:=(call 116 s_laws_toInputS (a0.2.1,())).bind fun(y0:Y0_5)=>(call 116 s_laws_toInputS (a0.2.2.1,())).bind fun(y1:Y0_5)=>(call 59 s_laws_toInt64S (a0.2.2.2.2.1,())).bind fun(y2:((List Int×Unit)×Unit))=>(call 117 s_laws_toStmtS (a0.2.2.2.2.2.1,())).bind fun(y3:((List Y0_4×Unit)×Unit))=>some (((a0.1,y0.1.1,y1.1.1,a0.2.2.2.1,y2.1.1,y3.1.1,()),()),())
def F(call:Cl)(k:Nat)(a0:Y0_0):Option R:=Fm call k a0
theorem F_eq(call:Cl)(k:Nat)(a0:Y0_0):bodyK E call n_laws_toProg k s_laws_toProg (a0,())=F call k a0:=by kernel_rfl
end laws_toProg
/-! #### laws_eqInt64S-/
namespace laws_eqInt64S
abbrev R:=((Bool×Unit)×Unit)
def S0(a0:(List Int))(a1:(List Int))(v0_2:Int):St:=⟨mkS 26 [(0,.v (.slc tI) (a0)),(1,.v (.slc tI) (a1)),(5,.v tI v0_2)],[]⟩
def step0(call:Cl)(k:Nat)(a0:(List Int))(a1:(List Int))(r0:(Int)→Option R)(v0_2:Int):Option R:=bif decide (v0_2<(↑a0.length:Int))then bif decide (0≤v0_2)then(lget a0 v0_2.toNat).bind fun(y0:Int)=>bif decide (0≤v0_2)then(lget a1 v0_2.toNat).bind fun(y1:Int)=>bif y0 !=y1 then some ((false,()),())else r0 (i64.wrap (v0_2+1))else none else none else some ((true,()),())
def L0(call:Cl)(k:Nat)(a0:(List Int))(a1:(List Int)):Nat→(Int)→Option R|0,_=>none|n+1,v0_2=>step0 call k a0 a1 (L0 call k a0 a1 n) v0_2
def Fm(call:Cl)(k:Nat)(l0:((List Int))→((List Int))→(Int)→Option R)(a0:(List Int))(a1:(List Int)):Option R:=bif(↑a0.length:Int)!=(↑a1.length:Int)then some ((false,()),())else l0 a0 a1 0
def F(call:Cl)(k:Nat)(a0:(List Int))(a1:(List Int)):Option R:=Fm call k (fun a0_ a1_ v0_2_=>L0 call k a0_ a1_ k v0_2_) a0 a1
theorem L0_eq(call:Cl)(k:Nat)(J:Nat→St→Option R)(a0:(List Int))(a1:(List Int)):∀(n:Nat)(x:(Int)),siteI E call n_laws_eqInt64S k s_laws_eqInt64S (a0,a1,()) J 0 n (S0 a0 a1 x)=L0 call k a0 a1 n x:=by
  refine loop_eq (s:=s_laws_eqInt64S) (fun x=>S0 a0 a1 x) (fun n x=>L0 call k a0 a1 n x) (fun r x=>step0 call k a0 a1 (fun v0_2=>r v0_2) x) (fun _=>rfl) (fun _ _=>rfl) fun J0 x=>?_
  kernel_rfl
theorem F_eq(call:Cl)(k:Nat)(a0:(List Int))(a1:(List Int)):bodyK E call n_laws_eqInt64S k s_laws_eqInt64S (a0,a1,())=F call k a0 a1:=by
  exact Eq.trans (b:=Fm call k (fun a0 a1 v0_2_=>siteI E call n_laws_eqInt64S k s_laws_eqInt64S (a0,a1,()) (fun _ _=>none) 0 k (S0 a0 a1 v0_2_)) a0 a1) (by kernel_rfl) (congrArg (fun l=>Fm call k l a0 a1) (funext fun a0=>funext fun a1=>funext fun v0_2_=>L0_eq call k (fun _ _=>none) a0 a1 k v0_2_))
end laws_eqInt64S
/-! #### laws_eqInput-/
namespace laws_eqInput
abbrev R:=((Bool×Unit)×Unit)
def Fm(call:Cl)(k:Nat)(a0:Y0_9)(a1:Y0_9):Option R:=bif a0.1!=a1.1 then some ((false,()),())else bif a0.2.1!=a1.2.1 then some ((false,()),())else some ((true,()),())
def F(call:Cl)(k:Nat)(a0:Y0_9)(a1:Y0_9):Option R:=Fm call k a0 a1
theorem F_eq(call:Cl)(k:Nat)(a0:Y0_9)(a1:Y0_9):bodyK E call n_laws_eqInput k s_laws_eqInput (a0,a1,())=F call k a0 a1:=by kernel_rfl
end laws_eqInput
/-! #### laws_eqInputS-/
namespace laws_eqInputS
abbrev R:=((Bool×Unit)×Unit)
def S0(a0:Y0_8)(a1:Y0_8)(v0_2:Int):St:=⟨mkS 27 [(0,.v tTl (a0)),(1,.v tTl (a1)),(5,.v tI v0_2)],[]⟩
def step0(call:Cl)(k:Nat)(a0:Y0_8)(a1:Y0_8)(r0:(Int)→Option R)(v0_2:Int):Option R:=bif decide (v0_2<(↑a0.length:Int))then bif decide (0≤v0_2)then(lget a0 v0_2.toNat).bind fun(y0:Int×Int×Unit)=>bif decide (0≤v0_2)then(lget a1 v0_2.toNat).bind fun(y1:Int×Int×Unit)=>(call 176 s_laws_eqInput (y0,y1,())).bind fun(y2:Y0_10×Unit)=>bif !y2.1.1 then some ((false,()),())else r0 (i64.wrap (v0_2+1))else none else none else some ((true,()),())
def L0(call:Cl)(k:Nat)(a0:Y0_8)(a1:Y0_8):Nat→(Int)→Option R|0,_=>none|n+1,v0_2=>step0 call k a0 a1 (L0 call k a0 a1 n) v0_2
def Fm(call:Cl)(k:Nat)(l0:Y0_7→Y0_7→(Int)→Option R)(a0:Y0_8)(a1:Y0_8):Option R:=bif(↑a0.length:Int)!=(↑a1.length:Int)then some ((false,()),())else l0 a0 a1 0
def F(call:Cl)(k:Nat)(a0:Y0_8)(a1:Y0_8):Option R:=Fm call k (fun a0_ a1_ v0_2_=>L0 call k a0_ a1_ k v0_2_) a0 a1
theorem L0_eq(call:Cl)(k:Nat)(J:Nat→St→Option R)(a0:Y0_8)(a1:Y0_8):∀(n:Nat)(x:(Int)),siteI E call n_laws_eqInputS k s_laws_eqInputS (a0,a1,()) J 0 n (S0 a0 a1 x)=L0 call k a0 a1 n x:=by
  refine loop_eq (s:=s_laws_eqInputS) (fun x=>S0 a0 a1 x) (fun n x=>L0 call k a0 a1 n x) (fun r x=>step0 call k a0 a1 (fun v0_2=>r v0_2) x) (fun _=>rfl) (fun _ _=>rfl) fun J0 x=>?_
  kernel_rfl
theorem F_eq(call:Cl)(k:Nat)(a0:Y0_8)(a1:Y0_8):bodyK E call n_laws_eqInputS k s_laws_eqInputS (a0,a1,())=F call k a0 a1:=by
  exact Eq.trans (b:=Fm call k (fun a0 a1 v0_2_=>siteI E call n_laws_eqInputS k s_laws_eqInputS (a0,a1,()) (fun _ _=>none) 0 k (S0 a0 a1 v0_2_)) a0 a1) (by kernel_rfl) (congrArg (fun l=>Fm call k l a0 a1) (funext fun a0=>funext fun a1=>funext fun v0_2_=>L0_eq call k (fun _ _=>none) a0 a1 k v0_2_))
end laws_eqInputS
/-! #### laws_eqTerm-/
namespace laws_eqTerm
abbrev R:=((Bool×Unit)×Unit)
def Fm(call:Cl)(k:Nat)(a0:Y0_9)(a1:Y0_9):Option R:=bif a0.1!=a1.1 then some ((false,()),())else bif a0.2.1!=a1.2.1 then some ((false,()),())else some ((true,()),())
def F(call:Cl)(k:Nat)(a0:Y0_9)(a1:Y0_9):Option R:=Fm call k a0 a1
theorem F_eq(call:Cl)(k:Nat)(a0:Y0_9)(a1:Y0_9):bodyK E call n_laws_eqTerm k s_laws_eqTerm (a0,a1,())=F call k a0 a1:=by kernel_rfl
end laws_eqTerm
/-! #### laws_eqTermS-/
namespace laws_eqTermS
abbrev R:=((Bool×Unit)×Unit)
def S0(a0:Y0_8)(a1:Y0_8)(v0_2:Int):St:=⟨mkS 27 [(0,.v tTl (a0)),(1,.v tTl (a1)),(5,.v tI v0_2)],[]⟩
def step0(call:Cl)(k:Nat)(a0:Y0_8)(a1:Y0_8)(r0:(Int)→Option R)(v0_2:Int):Option R:=bif decide (v0_2<(↑a0.length:Int))then bif decide (0≤v0_2)then(lget a0 v0_2.toNat).bind fun(y0:Int×Int×Unit)=>bif decide (0≤v0_2)then(lget a1 v0_2.toNat).bind fun(y1:Int×Int×Unit)=>(call 237 s_laws_eqTerm (y0,y1,())).bind fun(y2:Y0_10×Unit)=>bif !y2.1.1 then some ((false,()),())else r0 (i64.wrap (v0_2+1))else none else none else some ((true,()),())
def L0(call:Cl)(k:Nat)(a0:Y0_8)(a1:Y0_8):Nat→(Int)→Option R|0,_=>none|n+1,v0_2=>step0 call k a0 a1 (L0 call k a0 a1 n) v0_2
def Fm(call:Cl)(k:Nat)(l0:Y0_7→Y0_7→(Int)→Option R)(a0:Y0_8)(a1:Y0_8):Option R:=bif(↑a0.length:Int)!=(↑a1.length:Int)then some ((false,()),())else l0 a0 a1 0
def F(call:Cl)(k:Nat)(a0:Y0_8)(a1:Y0_8):Option R:=Fm call k (fun a0_ a1_ v0_2_=>L0 call k a0_ a1_ k v0_2_) a0 a1
theorem L0_eq(call:Cl)(k:Nat)(J:Nat→St→Option R)(a0:Y0_8)(a1:Y0_8):∀(n:Nat)(x:(Int)),siteI E call n_laws_eqTermS k s_laws_eqTermS (a0,a1,()) J 0 n (S0 a0 a1 x)=L0 call k a0 a1 n x:=by
  refine loop_eq (s:=s_laws_eqTermS) (fun x=>S0 a0 a1 x) (fun n x=>L0 call k a0 a1 n x) (fun r x=>step0 call k a0 a1 (fun v0_2=>r v0_2) x) (fun _=>rfl) (fun _ _=>rfl) fun J0 x=>?_
  kernel_rfl
theorem F_eq(call:Cl)(k:Nat)(a0:Y0_8)(a1:Y0_8):bodyK E call n_laws_eqTermS k s_laws_eqTermS (a0,a1,())=F call k a0 a1:=by
  exact Eq.trans (b:=Fm call k (fun a0 a1 v0_2_=>siteI E call n_laws_eqTermS k s_laws_eqTermS (a0,a1,()) (fun _ _=>none) 0 k (S0 a0 a1 v0_2_)) a0 a1) (by kernel_rfl) (congrArg (fun l=>Fm call k l a0 a1) (funext fun a0=>funext fun a1=>funext fun v0_2_=>L0_eq call k (fun _ _=>none) a0 a1 k v0_2_))
end laws_eqTermS
/-! #### laws_eqStmt-/
namespace laws_eqStmt
abbrev R:=((Bool×Unit)×Unit)
def Fm(call:Cl)(k:Nat)(a0:Y0_3)(a1:Y0_3):Option R:=bif a0.1!=a1.1 then some ((false,()),())else bif a0.2.1!=a1.2.1 then some ((false,()),())else(call 215 s_laws_eqTermS (a0.2.2.1,a1.2.2.1,())).bind fun(y0:Y0_10×Unit)=>bif !y0.1.1 then some ((false,()),())else(call 215 s_laws_eqTermS (a0.2.2.2.1,a1.2.2.2.1,())).bind fun(y1:Y0_10×Unit)=>bif !y1.1.1 then some ((false,()),())else some ((true,()),())
def F(call:Cl)(k:Nat)(a0:Y0_3)(a1:Y0_3):Option R:=Fm call k a0 a1
theorem F_eq(call:Cl)(k:Nat)(a0:Y0_3)(a1:Y0_3):bodyK E call n_laws_eqStmt k s_laws_eqStmt (a0,a1,())=F call k a0 a1:=by kernel_rfl
end laws_eqStmt
/-! #### laws_eqStmtS-/
namespace laws_eqStmtS
abbrev R:=((Bool×Unit)×Unit)
def S0(a0:Y0_2)(a1:Y0_2)(v0_2:Int):St:=⟨mkS 27 [(0,.v (.slc tSm) (a0)),(1,.v (.slc tSm) (a1)),(5,.v tI v0_2)],[]⟩
def step0(call:Cl)(k:Nat)(a0:Y0_2)(a1:Y0_2)(r0:(Int)→Option R)(v0_2:Int):Option R:=bif decide (v0_2<(↑a0.length:Int))then bif decide (0≤v0_2)then(lget a0 v0_2.toNat).bind fun(y0:Y0_4)=>bif decide (0≤v0_2)then(lget a1 v0_2.toNat).bind fun(y1:Y0_4)=>(call 177 s_laws_eqStmt (y0,y1,())).bind fun(y2:Y0_10×Unit)=>bif !y2.1.1 then some ((false,()),())else r0 (i64.wrap (v0_2+1))else none else none else some ((true,()),())
def L0(call:Cl)(k:Nat)(a0:Y0_2)(a1:Y0_2):Nat→(Int)→Option R|0,_=>none|n+1,v0_2=>step0 call k a0 a1 (L0 call k a0 a1 n) v0_2
def Fm(call:Cl)(k:Nat)(l0:Y0_1→Y0_1→(Int)→Option R)(a0:Y0_2)(a1:Y0_2):Option R:=bif(↑a0.length:Int)!=(↑a1.length:Int)then some ((false,()),())else l0 a0 a1 0
def F(call:Cl)(k:Nat)(a0:Y0_2)(a1:Y0_2):Option R:=Fm call k (fun a0_ a1_ v0_2_=>L0 call k a0_ a1_ k v0_2_) a0 a1
theorem L0_eq(call:Cl)(k:Nat)(J:Nat→St→Option R)(a0:Y0_2)(a1:Y0_2):∀(n:Nat)(x:(Int)),siteI E call n_laws_eqStmtS k s_laws_eqStmtS (a0,a1,()) J 0 n (S0 a0 a1 x)=L0 call k a0 a1 n x:=by
  refine loop_eq (s:=s_laws_eqStmtS) (fun x=>S0 a0 a1 x) (fun n x=>L0 call k a0 a1 n x) (fun r x=>step0 call k a0 a1 (fun v0_2=>r v0_2) x) (fun _=>rfl) (fun _ _=>rfl) fun J0 x=>?_
  kernel_rfl
theorem F_eq(call:Cl)(k:Nat)(a0:Y0_2)(a1:Y0_2):bodyK E call n_laws_eqStmtS k s_laws_eqStmtS (a0,a1,())=F call k a0 a1:=by
  exact Eq.trans (b:=Fm call k (fun a0 a1 v0_2_=>siteI E call n_laws_eqStmtS k s_laws_eqStmtS (a0,a1,()) (fun _ _=>none) 0 k (S0 a0 a1 v0_2_)) a0 a1) (by kernel_rfl) (congrArg (fun l=>Fm call k l a0 a1) (funext fun a0=>funext fun a1=>funext fun v0_2_=>L0_eq call k (fun _ _=>none) a0 a1 k v0_2_))
end laws_eqStmtS
/-! #### laws_eqProg-/
namespace laws_eqProg
abbrev R:=((Bool×Unit)×Unit)
def Fm(call:Cl)(k:Nat)(a0:Y0_0)(a1:Y0_0):Option R:=bif a0.1!=a1.1 then some ((false,()),())else(call 121 s_laws_eqInputS (a0.2.1,a1.2.1,())).bind fun(y0:Y0_10×Unit)=>bif !y0.1.1 then some ((false,()),())else(call 121 s_laws_eqInputS (a0.2.2.1,a1.2.2.1,())).bind fun(y1:Y0_10×Unit)=>bif !y1.1.1 then some ((false,()),())else bif a0.2.2.2.1!=a1.2.2.2.1 then some ((false,()),())else(call 61 s_laws_eqInt64S (a0.2.2.2.2.1,a1.2.2.2.2.1,())).bind fun(y2:Y0_10×Unit)=>bif !y2.1.1 then some ((false,()),())else(call 122 s_laws_eqStmtS (a0.2.2.2.2.2.1,a1.2.2.2.2.2.1,())).bind fun(y3:Y0_10×Unit)=>bif !y3.1.1 then some ((false,()),())else some ((true,()),())
def F(call:Cl)(k:Nat)(a0:Y0_0)(a1:Y0_0):Option R:=Fm call k a0 a1
theorem F_eq(call:Cl)(k:Nat)(a0:Y0_0)(a1:Y0_0):bodyK E call n_laws_eqProg k s_laws_eqProg (a0,a1,())=F call k a0 a1:=by kernel_rfl
end laws_eqProg
end Go.Proofs.YtjgfofcgmcnblaaGreat.Pf
