/- Printed texts: what the reading of these functions is. No condition. -/
import Derived.Test.YtjgfofcgmcnblaaGreatPvEnv
import Derived.KernelRfl
set_option linter.all false
set_option maxHeartbeats 2000000
namespace Go.Proofs.YtjgfofcgmcnblaaGreat.Pf
open Go Go.Pv IntKind
abbrev Y8_0:Type:=((Int×(Int×Int×Unit)×Unit)×((Int×List (Int×Int×Unit)×List (Int×Int×Unit)×Int×List Int×List (Int×Int×List (Int×Int×Unit)×List (Int×Int×Unit)×Unit)×Unit)×(List Int×List (List Int)×Unit)×List Int×Unit)×Unit)
abbrev Y8_1:Type:=(((Int×Int×Unit)×Unit)×((Int×List (Int×Int×Unit)×List (Int×Int×Unit)×Int×List Int×List (Int×Int×List (Int×Int×Unit)×List (Int×Int×Unit)×Unit)×Unit)×(List Int×List (List Int)×Unit)×List Int×Unit)×Unit)
abbrev Y8_2:Type:=((Int×((List (Int×(Int×Unit)))×((List (Int×(Int×Unit)))×(Int×((List Int)×((List (Int×(Int×((List (Int×(Int×Unit)))×((List (Int×(Int×Unit)))×Unit)))))×Unit))))))×(((List Int)×((List (List Int))×Unit))×((List Int)×Unit)))
abbrev Y8_3:Type:=((Int)×((List Int))×((List (List Int)))×((List Int))×((Int×((List (Int×(Int×Unit)))×((List (Int×(Int×Unit)))×(Int×((List Int)×((List (Int×(Int×((List (Int×(Int×Unit)))×((List (Int×(Int×Unit)))×Unit)))))×Unit))))))))
abbrev Y8_4:Type:=((Int×((List (Int×(Int×Unit)))×((List (Int×(Int×Unit)))×(Int×((List Int)×((List (Int×(Int×((List (Int×(Int×Unit)))×((List (Int×(Int×Unit)))×Unit)))))×Unit)))))))
abbrev Y8_5:Type:=(Int×((List (Int×(Int×Unit)))×((List (Int×(Int×Unit)))×(Int×((List Int)×((List (Int×(Int×((List (Int×(Int×Unit)))×((List (Int×(Int×Unit)))×Unit)))))×Unit))))))
abbrev Y8_6:Type:=(Int×(Int×((List (Int×(Int×Unit)))×((List (Int×(Int×Unit)))×Unit))))
abbrev Y8_7:Type:=(Int×((List Go.Pv.Tr)×((List Go.Pv.Tr)×Unit)))
abbrev Y8_8:Type:=(List (Int×(Int×Unit)))
abbrev Y8_9:Type:=(List (List Int))
/-! #### impl_machine_value-/
namespace impl_machine_value
abbrev R:=((Int×((Int×(Int×Unit))×Unit))×(((Int×((List (Int×(Int×Unit)))×((List (Int×(Int×Unit)))×(Int×((List Int)×((List (Int×(Int×((List (Int×(Int×Unit)))×((List (Int×(Int×Unit)))×Unit)))))×Unit))))))×(((List Int)×((List (List Int))×Unit))×((List Int)×Unit)))×Unit))
def Fm(call:Cl)(k:Nat)(a0:Y8_2)(a1:Y8_8):Option R:=(call 254 s_impl_reckon (a0.1,a0.2.1,a1,false,())).bind fun(y0:((Int×Int×Unit)×Unit))=>bif y0.1.2.1!=0 then some ((0,(2,y0.1.2.1,()),()),a0,())else some ((y0.1.1,(0,0,()),()),a0,())
def F(call:Cl)(k:Nat)(a0:Y8_2)(a1:Y8_8):Option R:=Fm call k a0 a1
theorem F_eq(call:Cl)(k:Nat)(a0:Y8_2)(a1:Y8_8):bodyK E call n_impl_machine_value k s_impl_machine_value (a0,a1,())=F call k a0 a1:=by kernel_rfl
end impl_machine_value
/-! #### impl_machine_put-/
namespace impl_machine_put
abbrev R:=(((Int×(Int×Unit))×Unit)×(((Int×((List (Int×(Int×Unit)))×((List (Int×(Int×Unit)))×(Int×((List Int)×((List (Int×(Int×((List (Int×(Int×Unit)))×((List (Int×(Int×Unit)))×Unit)))))×Unit))))))×(((List Int)×((List (List Int))×Unit))×((List Int)×Unit)))×Unit))
def Fm(call:Cl)(k:Nat)(a0:Y8_2)(a1:Y8_6):Option R:=(call 248 s_impl_machine_value (a0,a1.2.2.1,())).bind fun(y0:Y8_0)=>bif y0.1.2.1.1!=0 then some ((y0.1.2.1,()),y0.2.1,())else(call 248 s_impl_machine_value (y0.2.1,a1.2.2.2.1,())).bind fun(y1:Y8_0)=>bif y1.1.2.1.1!=0 then some ((y1.1.2.1,()),y1.2.1,())else bif decide (0≤a1.2.1)then(lget y1.2.1.1.2.2.2.2.1 (Int.toNat a1.2.1)).bind fun(y2:Int)=>bif decide (y0.1.1≥y2)then some (((2,2,()),()),y1.2.1,())else bif decide (0≤a1.2.1)&&decide (Int.toNat a1.2.1<List.length y1.2.1.2.1.2.1)then(lget y1.2.1.2.1.2.1 (Int.toNat a1.2.1)).bind fun(y3:List Int)=>bif decide (0≤y0.1.1)&&decide (Int.toNat y0.1.1<y3.length)then(lget y1.2.1.2.1.2.1 (Int.toNat a1.2.1)).bind fun(y4:List Int)=>(lget y4 (Int.toNat y0.1.1)).bind fun(y5:Int)=>some (((0,0,()),()),(y1.2.1.1,(y1.2.1.2.1.1,List.set y1.2.1.2.1.2.1 (Int.toNat a1.2.1) (y4.set (Int.toNat y0.1.1) y1.1.1),y1.2.1.2.1.2.2),y1.2.1.2.2.1,y1.2.1.2.2.2),())else none else none else none
def F(call:Cl)(k:Nat)(a0:Y8_2)(a1:Y8_6):Option R:=Fm call k a0 a1
theorem F_eq(call:Cl)(k:Nat)(a0:Y8_2)(a1:Y8_6):bodyK E call n_impl_machine_put k s_impl_machine_put (a0,a1,())=F call k a0 a1:=by kernel_rfl
end impl_machine_put
/-! #### impl_machine_do-/
namespace impl_machine_do
abbrev R:=(((Int×(Int×Unit))×Unit)×(((Int×((List (Int×(Int×Unit)))×((List (Int×(Int×Unit)))×(Int×((List Int)×((List (Int×(Int×((List (Int×(Int×Unit)))×((List (Int×(Int×Unit)))×Unit)))))×Unit))))))×(((List Int)×((List (List Int))×Unit))×((List Int)×Unit)))×Unit))
def S0(a1:(List Go.Pv.Tr))(v0_2:Int)(v0_5:(List Int))(v0_6:Y8_9)(v0_7:(List Int))(v0_8:Y8_5):St:=⟨mkS 23 [(0,.p [500000] [] 0),(1,.v .fo (a1)),(4,.p [500004] [] 0),(8,.v tI ((↑a1.length:Int))),(9,.v tI v0_2)],[([500004],.box (.v tTm ((0),((0),())))),([500000,5,1,1,0],.list 2 tI v0_5),([500000,5,1,0,1,0],.list 28 (.own 2 tI) v0_6),([500000,5,1,0,0],.list 2 tI v0_7),([500000],.box (.pr (.v (.sptr tPg) v0_8) (.pr (.pr (.ref [500000,5,1,0,0]) (.pr (.ref [500000,5,1,0,1,0]) (.v .unit ()))) (.pr (.ref [500000,5,1,1,0]) (.v .unit ())))))]⟩
def step0(call:Cl)(k:Nat)(a1:(List Go.Pv.Tr))(r0:(Int)→((List Int))→(Y8_9)→((List Int))→Y8_4→Option R)(v0_2:Int)(v0_5:(List Int))(v0_6:Y8_9)(v0_7:(List Int))(v0_8:Y8_5):Option R:=bif decide (v0_2<(↑a1.length:Int))then bif decide (0≤v0_2)then(lget a1 v0_2.toNat).bind fun(y0:Tr)=>(call 235 s_impl_machine_step ((v0_8,(v0_7,v0_6,()),v0_5,()),trO y0,())).bind fun(y1:Y8_1)=>bif y1.1.1.1!=0 then some ((y1.1.1,()),y1.2.1,())else r0 (i64.wrap (v0_2+1)) y1.2.1.2.2.1 y1.2.1.2.1.2.1 y1.2.1.2.1.1 y1.2.1.1 else none else some (((0,0,()),()),(v0_8,(v0_7,v0_6,()),v0_5,()),())
def L0(call:Cl)(k:Nat)(a1:(List Go.Pv.Tr)):Nat→(Int)→((List Int))→(Y8_9)→((List Int))→Y8_4→Option R|0,_,_,_,_,_=>none|n+1,v0_2,v0_5,v0_6,v0_7,v0_8=>step0 call k a1 (L0 call k a1 n) v0_2 v0_5 v0_6 v0_7 v0_8
def Fm(call:Cl)(k:Nat)(l0:((List Go.Pv.Tr))→(Int)→((List Int))→(Y8_9)→((List Int))→Y8_4→Option R)(a0:Y8_2)(a1:(List Go.Pv.Tr)):Option R:=l0 a1 0 a0.2.2.1 a0.2.1.2.1 a0.2.1.1 a0.1
def F(call:Cl)(k:Nat)(a0:Y8_2)(a1:(List Go.Pv.Tr)):Option R:=Fm call k (fun a1_ v0_2_ v0_5_ v0_6_ v0_7_ v0_8_=>L0 call k a1_ k v0_2_ v0_5_ v0_6_ v0_7_ v0_8_) a0 a1
theorem L0_eq(call:Cl)(k:Nat)(J:Nat→St→Option R)(a0:Y8_2)(a1:(List Go.Pv.Tr)):∀(n:Nat)(x:Y8_3),siteI E call n_impl_machine_do k s_impl_machine_do (a0,a1,()) J 0 n (S0 a1 x.1 x.2.1 x.2.2.1 x.2.2.2.1 x.2.2.2.2)=L0 call k a1 n x.1 x.2.1 x.2.2.1 x.2.2.2.1 x.2.2.2.2:=by
  refine loop_eq (s:=s_impl_machine_do) (fun x=>S0 a1 x.1 x.2.1 x.2.2.1 x.2.2.2.1 x.2.2.2.2) (fun n x=>L0 call k a1 n x.1 x.2.1 x.2.2.1 x.2.2.2.1 x.2.2.2.2) (fun r x=>step0 call k a1 (fun v0_2 v0_5 v0_6 v0_7 v0_8=>r (v0_2,v0_5,v0_6,v0_7,v0_8)) x.1 x.2.1 x.2.2.1 x.2.2.2.1 x.2.2.2.2) (fun _=>rfl) (fun _ _=>rfl) fun J0 x=>?_
  kernel_rfl
theorem F_eq(call:Cl)(k:Nat)(a0:Y8_2)(a1:(List Go.Pv.Tr)):bodyK E call n_impl_machine_do k s_impl_machine_do (a0,a1,())=F call k a0 a1:=by
  exact Eq.trans (b:=Fm call k (fun a1 v0_2_ v0_5_ v0_6_ v0_7_ v0_8_=>siteI E call n_impl_machine_do k s_impl_machine_do (a0,a1,()) (fun _ _=>none) 0 k (S0 a1 v0_2_ v0_5_ v0_6_ v0_7_ v0_8_)) a0 a1) (by kernel_rfl) (congrArg (fun l=>Fm call k l a0 a1) (funext fun a1=>funext fun v0_2_=>funext fun v0_5_=>funext fun v0_6_=>funext fun v0_7_=>funext fun v0_8_=>L0_eq call k (fun _ _=>none) a0 a1 k (v0_2_,v0_5_,v0_6_,v0_7_,v0_8_)))
end impl_machine_do
/-! #### impl_machine_step-/
namespace impl_machine_step
abbrev R:=(((Int×(Int×Unit))×Unit)×(((Int×((List (Int×(Int×Unit)))×((List (Int×(Int×Unit)))×(Int×((List Int)×((List (Int×(Int×((List (Int×(Int×Unit)))×((List (Int×(Int×Unit)))×Unit)))))×Unit))))))×(((List Int)×((List (List Int))×Unit))×((List Int)×Unit)))×Unit))
def S0(a1:Y8_7)(y0:(Y8_6))(v0_2:Int)(v0_5:(List Int))(v0_6:Y8_9)(v0_7:(List Int))(v0_8:Y8_5):St:=⟨mkS 151 [(0,.p [500000] [] 0),(1,.v (.sptr (.pair tI (.pair .fo (.pair .fo .unit)))) (a1)),(4,.p [500004] [] 0),(5,.v (.sptr tSm) (y0)),(6,.v tI v0_2)],[([500004],.box (.v tTm ((0),((0),())))),([500000,5,1,1,0],.list 2 tI v0_5),([500000,5,1,0,1,0],.list 28 (.own 2 tI) v0_6),([500000,5,1,0,0],.list 2 tI v0_7),([500000],.box (.pr (.v (.sptr tPg) v0_8) (.pr (.pr (.ref [500000,5,1,0,0]) (.pr (.ref [500000,5,1,0,1,0]) (.v .unit ()))) (.pr (.ref [500000,5,1,1,0]) (.v .unit ())))))]⟩
def step0(call:Cl)(k:Nat)(a1:Y8_7)(y0:Y8_6)(r0:(Int)→((List Int))→(Y8_9)→((List Int))→Y8_4→Option R)(v0_2:Int)(v0_5:(List Int))(v0_6:Y8_9)(v0_7:(List Int))(v0_8:Y8_5):Option R:=bif decide (v0_2<y0.2.1)then(call 210 s_impl_machine_do ((v0_8,(v0_7,v0_6,()),v0_5,()),a1.2.1,())).bind fun(y2:Y8_1)=>bif y2.1.1.1!=0 then some ((y2.1.1,()),y2.2.1,())else r0 (i64.wrap (v0_2+1)) y2.2.1.2.2.1 y2.2.1.2.1.2.1 y2.2.1.2.1.1 y2.2.1.1 else some (((0,0,()),()),(v0_8,(v0_7,v0_6,()),v0_5,()),())
def L0(call:Cl)(k:Nat)(a1:Y8_7)(y0:Y8_6):Nat→(Int)→((List Int))→(Y8_9)→((List Int))→Y8_4→Option R|0,_,_,_,_,_=>none|n+1,v0_2,v0_5,v0_6,v0_7,v0_8=>step0 call k a1 y0 (L0 call k a1 y0 n) v0_2 v0_5 v0_6 v0_7 v0_8
def Fm(call:Cl)(k:Nat)(l0:(Y8_7)→(Y8_6)→(Int)→((List Int))→(Y8_9)→((List Int))→Y8_4→Option R)(a0:Y8_2)(a1:Y8_7):Option R:=bif decide (0≤a1.1)then(lget a0.1.2.2.2.2.2.1 (Int.toNat a1.1)).bind fun(y0:(Int×Int×List (Int×Int×Unit)×List (Int×Int×Unit)×Unit))=>bif y0.1==1 then(call 246 s_impl_machine_put (a0,y0,())).bind fun(y1:Y8_1)=>some ((y1.1.1,()),y1.2.1,())else bif y0.1==7 then some (((1,y0.2.1,()),()),a0,())else bif y0.1==5 then l0 a1 y0 0 a0.2.2.1 a0.2.1.2.1 a0.2.1.1 a0.1 else bif y0.1==8 then(call 210 s_impl_machine_do (a0,a1.2.1,())).bind fun(y3:Y8_1)=>bif y3.1.1.1==1 then(call 247 s_impl_catchOf (y3.2.1.1,a1,())).bind fun(y4:(Int×Unit)×Unit)=>bif y3.1.1.2.1==y4.1.1 then(call 210 s_impl_machine_do (y3.2.1,a1.2.2.1,())).bind fun(y5:Y8_1)=>some ((y5.1.1,()),y5.2.1,())else some ((y3.1.1,()),y3.2.1,())else some ((y3.1.1,()),y3.2.1,())else(call 248 s_impl_machine_value (a0,y0.2.2.2.1,())).bind fun(y6:Y8_0)=>bif y6.1.2.1.1!=0 then some ((y6.1.2.1,()),y6.2.1,())else bif y0.1==0 then bif decide (0≤y0.2.1)&&decide (Int.toNat y0.2.1<List.length y6.2.1.2.1.1)then(lget y6.2.1.2.1.1 (Int.toNat y0.2.1)).bind fun(y7:Int)=>some (((0,0,()),()),(y6.2.1.1,(List.set y6.2.1.2.1.1 (Int.toNat y0.2.1) y6.1.1,y6.2.1.2.1.2.1,y6.2.1.2.1.2.2),y6.2.1.2.2.1,y6.2.1.2.2.2),())else none else bif y0.1==6 then bif decide ((List.length y6.2.1.2.2.1+[y6.1.1].length)*ti2.bytes≤140737488355328)then some (((0,0,()),()),(y6.2.1.1,y6.2.1.2.1,y6.2.1.2.2.1++[y6.1.1],y6.2.1.2.2.2),())else none else bif y6.1.1!=0 then(call 210 s_impl_machine_do (y6.2.1,a1.2.1,())).bind fun(y8:Y8_1)=>some ((y8.1.1,()),y8.2.1,())else(call 210 s_impl_machine_do (y6.2.1,a1.2.2.1,())).bind fun(y9:Y8_1)=>some ((y9.1.1,()),y9.2.1,())else none
def F(call:Cl)(k:Nat)(a0:Y8_2)(a1:Y8_7):Option R:=Fm call k (fun a1_ y0_ v0_2_ v0_5_ v0_6_ v0_7_ v0_8_=>L0 call k a1_ y0_ k v0_2_ v0_5_ v0_6_ v0_7_ v0_8_) a0 a1
theorem L0_eq(call:Cl)(k:Nat)(J:Nat→St→Option R)(a0:Y8_2)(a1:Y8_7)(y0:Y8_6):∀(n:Nat)(x:Y8_3),siteI E call n_impl_machine_step k s_impl_machine_step (a0,a1,()) J 0 n (S0 a1 y0 x.1 x.2.1 x.2.2.1 x.2.2.2.1 x.2.2.2.2)=L0 call k a1 y0 n x.1 x.2.1 x.2.2.1 x.2.2.2.1 x.2.2.2.2:=by
  refine loop_eq (s:=s_impl_machine_step) (fun x=>S0 a1 y0 x.1 x.2.1 x.2.2.1 x.2.2.2.1 x.2.2.2.2) (fun n x=>L0 call k a1 y0 n x.1 x.2.1 x.2.2.1 x.2.2.2.1 x.2.2.2.2) (fun r x=>step0 call k a1 y0 (fun v0_2 v0_5 v0_6 v0_7 v0_8=>r (v0_2,v0_5,v0_6,v0_7,v0_8)) x.1 x.2.1 x.2.2.1 x.2.2.2.1 x.2.2.2.2) (fun _=>rfl) (fun _ _=>rfl) fun J0 x=>?_
  kernel_rfl
theorem F_eq(call:Cl)(k:Nat)(a0:Y8_2)(a1:Y8_7):bodyK E call n_impl_machine_step k s_impl_machine_step (a0,a1,())=F call k a0 a1:=by
  exact Eq.trans (b:=Fm call k (fun a1 y0 v0_2_ v0_5_ v0_6_ v0_7_ v0_8_=>siteI E call n_impl_machine_step k s_impl_machine_step (a0,a1,()) (fun _ _=>none) 0 k (S0 a1 y0 v0_2_ v0_5_ v0_6_ v0_7_ v0_8_)) a0 a1) (by kernel_rfl) (congrArg (fun l=>Fm call k l a0 a1) (funext fun a1=>funext fun y0=>funext fun v0_2_=>funext fun v0_5_=>funext fun v0_6_=>funext fun v0_7_=>funext fun v0_8_=>L0_eq call k (fun _ _=>none) a0 a1 y0 k (v0_2_,v0_5_,v0_6_,v0_7_,v0_8_)))
end impl_machine_step
/-! #### impl_ran-/
namespace impl_ran
abbrev R:=((((List Int)×(Int×(Int×Unit)))×(((List Int)×((List (List Int))×Unit))×Unit))×Unit)
def Fm(call:Cl)(k:Nat)(a0:Y8_5)(a1:(List Int))(a2:(List Int)):Option R:=(call 198 s_impl_nodesOf (a0.2.2.2.2.2.1,())).bind fun(y0:((List Tr×Bool×Unit)×Unit))=>(call 209 s_impl_startAt (a0,a1,a2,())).bind fun(y1:(((List Int×List (List Int)×Unit)×Unit)×Unit))=>(call 210 s_impl_machine_do ((a0,y1.1.1,[],()),y0.1.1,())).bind fun(y2:Y8_1)=>some (((y2.2.1.2.2.1,y2.1.1.1,y2.1.1.2.1,()),y2.2.1.2.1,()),())
def F(call:Cl)(k:Nat)(a0:Y8_5)(a1:(List Int))(a2:(List Int)):Option R:=Fm call k a0 a1 a2
theorem F_eq(call:Cl)(k:Nat)(a0:Y8_5)(a1:(List Int))(a2:(List Int)):bodyK E call n_impl_ran k s_impl_ran (a0,a1,a2,())=F call k a0 a1 a2:=by kernel_rfl
end impl_ran
end Go.Proofs.YtjgfofcgmcnblaaGreat.Pf
