/- Printed texts of functions, and what they answer: part 2. No condition but those of each. -/
import Derived.Test.YtjgfofcgmcnblaaGreatPfM1
import Derived.KernelRfl
set_option linter.all false
set_option maxHeartbeats 2000000
namespace Go.Proofs.YtjgfofcgmcnblaaGreat.Pf
open Go Go.Pv IntKind
abbrev Y5_0:Type:=(Int×((List (Int×(Int×Unit)))×((List (Int×(Int×Unit)))×(Int×((List Int)×((List (Int×(Int×((List (Int×(Int×Unit)))×((List (Int×(Int×Unit)))×Unit)))))×Unit))))))
abbrev Y5_1:Type:=((List Int)×((List (List Int))×Unit))
abbrev Y5_2:Type:=(List (Int×(Int×Unit)))
abbrev Y5_3:Type:=((Int×Unit)×Unit)
abbrev Y5_4:Type:=((Int)×(Int))
abbrev Y5_5:Type:=(Int×Unit)
namespace spec_l5Bit
abbrev R:=((Int×Unit)×Unit)
def Fm(call:Cl)(k:Nat)(a0:Bool):Option R:=bif a0 then some ((1,()),())else some ((0,()),())
def F(call:Cl)(k:Nat)(a0:Bool):Option R:=Fm call k a0
theorem F_eq(call:Cl)(k:Nat)(a0:Bool):bodyK E call n_spec_l5Bit k s_spec_l5Bit (a0,())=F call k a0:=by kernel_rfl
end spec_l5Bit
namespace spec_l5Bits
abbrev R:=((Int×Unit)×Unit)
def S0(a0:Int)(a1:Int)(a2:Int)(a3:Int)(v0_4:Int)(v0_5:Int):St:=⟨mkS 47 [(0,.v tI (a0)),(1,.v tI (a1)),(2,.v tI (a2)),(3,.v tI (a3)),(9,.v tI v0_4),(10,.v tI v0_5)],[]⟩
def step0(call:Cl)(k:Nat)(a0:Int)(a1:Int)(a2:Int)(a3:Int)(r0:(Int)→(Int)→Option R)(v0_4:Int)(v0_5:Int):Option R:=bif decide (v0_5<a0)then bif decide (v0_5=0)then none else bif decide (v0_5=0)then none else bif a3==1 then(call 172 s_spec_l1Max ((i64.wrap (a1.tdiv v0_5)).tmod 2,(i64.wrap (a2.tdiv v0_5)).tmod 2,())).bind fun(y0:Y5_5×Unit)=>bif a3==2 then r0 (i64.wrap (v0_4+i64.wrap ((i64.wrap ((i64.wrap (a1.tdiv v0_5)).tmod 2+(i64.wrap (a2.tdiv v0_5)).tmod 2)).tmod 2*v0_5))) (i64.wrap (v0_5*2))else r0 (i64.wrap (v0_4+i64.wrap (y0.1.1*v0_5))) (i64.wrap (v0_5*2))else bif a3==2 then r0 (i64.wrap (v0_4+i64.wrap ((i64.wrap ((i64.wrap (a1.tdiv v0_5)).tmod 2+(i64.wrap (a2.tdiv v0_5)).tmod 2)).tmod 2*v0_5))) (i64.wrap (v0_5*2))else r0 (i64.wrap (v0_4+i64.wrap (i64.wrap ((i64.wrap (a1.tdiv v0_5)).tmod 2*(i64.wrap (a2.tdiv v0_5)).tmod 2)*v0_5))) (i64.wrap (v0_5*2))else some ((v0_4,()),())
def L0(call:Cl)(k:Nat)(a0:Int)(a1:Int)(a2:Int)(a3:Int):Nat→(Int)→(Int)→Option R|0,_,_=>none|n+1,v0_4,v0_5=>step0 call k a0 a1 a2 a3 (L0 call k a0 a1 a2 a3 n) v0_4 v0_5
def Fm(call:Cl)(k:Nat)(l0:(Int)→(Int)→(Int)→(Int)→(Int)→(Int)→Option R)(a0:Int)(a1:Int)(a2:Int)(a3:Int):Option R:=l0 a0 a1 a2 a3 0 1
def F(call:Cl)(k:Nat)(a0:Int)(a1:Int)(a2:Int)(a3:Int):Option R:=Fm call k (fun a0_ a1_ a2_ a3_ v0_4_ v0_5_=>L0 call k a0_ a1_ a2_ a3_ k v0_4_ v0_5_) a0 a1 a2 a3
theorem L0_eq(call:Cl)(k:Nat)(J:Nat→St→Option R)(a0:Int)(a1:Int)(a2:Int)(a3:Int):∀(n:Nat)(x:Y5_4),siteI E call n_spec_l5Bits k s_spec_l5Bits (a0,a1,a2,a3,()) J 0 n (S0 a0 a1 a2 a3 x.1 x.2)=L0 call k a0 a1 a2 a3 n x.1 x.2:=by
  refine loop_eq (s:=s_spec_l5Bits) (fun x=>S0 a0 a1 a2 a3 x.1 x.2) (fun n x=>L0 call k a0 a1 a2 a3 n x.1 x.2) (fun r x=>step0 call k a0 a1 a2 a3 (fun v0_4 v0_5=>r (v0_4,v0_5)) x.1 x.2) (fun _=>rfl) (fun _ _=>rfl) fun J0 x=>?_
  kernel_rfl
theorem F_eq(call:Cl)(k:Nat)(a0:Int)(a1:Int)(a2:Int)(a3:Int):bodyK E call n_spec_l5Bits k s_spec_l5Bits (a0,a1,a2,a3,())=F call k a0 a1 a2 a3:=by
  exact Eq.trans (b:=Fm call k (fun a0 a1 a2 a3 v0_4_ v0_5_=>siteI E call n_spec_l5Bits k s_spec_l5Bits (a0,a1,a2,a3,()) (fun _ _=>none) 0 k (S0 a0 a1 a2 a3 v0_4_ v0_5_)) a0 a1 a2 a3) (by kernel_rfl) (congrArg (fun l=>Fm call k l a0 a1 a2 a3) (funext fun a0=>funext fun a1=>funext fun a2=>funext fun a3=>funext fun v0_4_=>funext fun v0_5_=>L0_eq call k (fun _ _=>none) a0 a1 a2 a3 k (v0_4_,v0_5_)))
end spec_l5Bits
namespace spec_l5Shift
abbrev R:=((Int×Unit)×Unit)
def S0(a0:Int)(a3:Bool)(v0_1:Int)(v0_2:Int):St:=⟨mkS 25 [(0,.v tI (a0)),(1,.v tI v0_1),(2,.v tI v0_2),(3,.v .bool (a3))],[]⟩
def step0(call:Cl)(k:Nat)(a0:Int)(a3:Bool)(r0:(Int)→(Int)→Option R)(v0_1:Int)(v0_2:Int):Option R:=bif decide (v0_2>0)then bif decide (v0_1>0)then bif a3 then bif decide (a0=0)then none else r0 ((i64.wrap (v0_1*2)).tmod a0) (i64.wrap (v0_2-1))else r0 (i64.wrap (v0_1.tdiv 2)) (i64.wrap (v0_2-1))else some ((v0_1,()),())else some ((v0_1,()),())
def L0(call:Cl)(k:Nat)(a0:Int)(a3:Bool):Nat→(Int)→(Int)→Option R|0,_,_=>none|n+1,v0_1,v0_2=>step0 call k a0 a3 (L0 call k a0 a3 n) v0_1 v0_2
def Fm(call:Cl)(k:Nat)(l0:(Int)→(Bool)→(Int)→(Int)→Option R)(a0:Int)(a1:Int)(a2:Int)(a3:Bool):Option R:=l0 a0 a3 a1 a2
def F(call:Cl)(k:Nat)(a0:Int)(a1:Int)(a2:Int)(a3:Bool):Option R:=Fm call k (fun a0_ a3_ v0_1_ v0_2_=>L0 call k a0_ a3_ k v0_1_ v0_2_) a0 a1 a2 a3
theorem L0_eq(call:Cl)(k:Nat)(J:Nat→St→Option R)(a0:Int)(a1:Int)(a2:Int)(a3:Bool):∀(n:Nat)(x:Y5_4),siteI E call n_spec_l5Shift k s_spec_l5Shift (a0,a1,a2,a3,()) J 0 n (S0 a0 a3 x.1 x.2)=L0 call k a0 a3 n x.1 x.2:=by
  refine loop_eq (s:=s_spec_l5Shift) (fun x=>S0 a0 a3 x.1 x.2) (fun n x=>L0 call k a0 a3 n x.1 x.2) (fun r x=>step0 call k a0 a3 (fun v0_1 v0_2=>r (v0_1,v0_2)) x.1 x.2) (fun _=>rfl) (fun _ _=>rfl) fun J0 x=>?_
  kernel_rfl
theorem F_eq(call:Cl)(k:Nat)(a0:Int)(a1:Int)(a2:Int)(a3:Bool):bodyK E call n_spec_l5Shift k s_spec_l5Shift (a0,a1,a2,a3,())=F call k a0 a1 a2 a3:=by
  exact Eq.trans (b:=Fm call k (fun a0 a3 v0_1_ v0_2_=>siteI E call n_spec_l5Shift k s_spec_l5Shift (a0,a1,a2,a3,()) (fun _ _=>none) 0 k (S0 a0 a3 v0_1_ v0_2_)) a0 a1 a2 a3) (by kernel_rfl) (congrArg (fun l=>Fm call k l a0 a1 a2 a3) (funext fun a0=>funext fun a3=>funext fun v0_1_=>funext fun v0_2_=>L0_eq call k (fun _ _=>none) a0 a1 a2 a3 k (v0_1_,v0_2_)))
end spec_l5Shift
namespace spec_l5Op
abbrev R:=((Int×Unit)×Unit)
def Fm(call:Cl)(k:Nat)(a0:Int)(a1:Int)(a2:Int)(a3:Int):Option R:=bif a1==3 then some ((i64.wrap (i64.wrap (a0-1)-a2),()),())else bif a1==4 then bif decide (a0=0)then none else some (((i64.wrap (a0-a2)).tmod a0,()),())else bif a1==5 then bif decide (a0=0)then none else some (((i64.wrap (a2+a3)).tmod a0,()),())else bif a1==6 then bif decide (a0=0)then none else some (((i64.wrap (i64.wrap (a2-a3)+a0)).tmod a0,()),())else bif a1==7 then bif decide (a0=0)then none else some (((i64.wrap (a2*a3)).tmod a0,()),())else bif a1==8 then bif a3==0 then some ((0,()),())else bif decide (a3=0)then none else some ((i64.wrap (a2.tdiv a3),()),())else bif a1==9 then bif a3==0 then some ((0,()),())else bif decide (a3=0)then none else some ((a2.tmod a3,()),())else bif a1==10 then(call 244 s_spec_l5Bits (a0,a2,a3,0,())).bind fun(y0:Y5_5×Unit)=>some ((y0.1.1,()),())else bif a1==11 then(call 244 s_spec_l5Bits (a0,a2,a3,1,())).bind fun(y1:Y5_5×Unit)=>some ((y1.1.1,()),())else bif a1==12 then(call 244 s_spec_l5Bits (a0,a2,a3,2,())).bind fun(y2:Y5_5×Unit)=>some ((y2.1.1,()),())else bif a1==13 then(call 245 s_spec_l5Shift (a0,a2,a3,true,())).bind fun(y3:Y5_5×Unit)=>some ((y3.1.1,()),())else bif a1==14 then(call 245 s_spec_l5Shift (a0,a2,a3,false,())).bind fun(y4:Y5_5×Unit)=>some ((y4.1.1,()),())else bif a1==15 then(call 217 s_spec_l5Bit (a2==a3,())).bind fun(y5:Y5_5×Unit)=>some ((y5.1.1,()),())else(call 217 s_spec_l5Bit (decide (a2<a3),())).bind fun(y6:Y5_5×Unit)=>some ((y6.1.1,()),())
def F(call:Cl)(k:Nat)(a0:Int)(a1:Int)(a2:Int)(a3:Int):Option R:=Fm call k a0 a1 a2 a3
theorem F_eq(call:Cl)(k:Nat)(a0:Int)(a1:Int)(a2:Int)(a3:Int):bodyK E call n_spec_l5Op k s_spec_l5Op (a0,a1,a2,a3,())=F call k a0 a1 a2 a3:=by kernel_rfl
end spec_l5Op
namespace spec_l5Value
abbrev R:=((Int×(Int×Unit))×Unit)
def S0(a1:Y5_1)(a2:Y5_2)(y0:Y5_3)(v0_1:Int)(v0_3:Int)(v0_4:(List Int)):St:=⟨mkS 164 [(2,.v tTl (a2)),(4,.p [500004] [] 0),(8,.ref [500008]),(9,.v tI v0_1),(10,.v tI (y0.1.1)),(11,.v tI v0_3)],[([500008],.list 2 tI v0_4),([500004],.box (.v (.pair (.slc tI) (.pair (.slc (.slc tI)) .unit)) ((a1.1),((a1.2.1),()))))]⟩
def step0(call:Cl)(k:Nat)(a1:Y5_1)(a2:Y5_2)(y0:Y5_3)(r0:(Int)→(Int)→((List Int))→Option R)(v0_1:Int)(v0_3:Int)(v0_4:(List Int)):Option R:=bif decide (v0_3<(↑a2.length:Int))then bif decide (0≤v0_3)then(lget a2 v0_3.toNat).bind fun(y1:Int×Int×Unit)=>(call 233 s_spec_TakesOf (y1.1,())).bind fun(y2:Y5_5×Unit)=>bif decide (0≤i64.wrap ((↑v0_4.length:Int)-y2.1.1))then bif decide ((i64.wrap ((↑v0_4.length:Int)-y2.1.1)).toNat≤v0_4.length)&&decide (v0_4.length≤v0_4.length)then bif decide ((0+(List.take (v0_4.length-(i64.wrap ((↑v0_4.length:Int)-y2.1.1)).toNat) (List.drop (i64.wrap ((↑v0_4.length:Int)-y2.1.1)).toNat v0_4)).length)*ti2.bytes≤140737488355328)then bif decide (0≤i64.wrap ((↑v0_4.length:Int)-y2.1.1))then bif decide (0≤(i64.wrap ((↑v0_4.length:Int)-y2.1.1)).toNat)&&decide ((i64.wrap ((↑v0_4.length:Int)-y2.1.1)).toNat≤v0_4.length)then bif decide (0≤v0_3)then(lget a2 v0_3.toNat).bind fun(y3:Int×Int×Unit)=>bif y3.1==0 then bif decide (0≤v0_3)then(lget a2 v0_3.toNat).bind fun(y4:Int×Int×Unit)=>bif v0_1==0 then bif decide ((i64.wrap ((↑v0_4.length:Int)-y2.1.1)).toNat-0≤v0_4.length)then bif decide (((List.take ((i64.wrap ((↑v0_4.length:Int)-y2.1.1)).toNat-0) v0_4).length+[y4.2.1].length)*ti2.bytes≤140737488355328)then r0 0 (i64.wrap (v0_3+1)) (List.take ((i64.wrap ((↑v0_4.length:Int)-y2.1.1)).toNat-0) v0_4++[y4.2.1])else none else none else bif decide ((i64.wrap ((↑v0_4.length:Int)-y2.1.1)).toNat-0≤v0_4.length)then bif decide (((List.take ((i64.wrap ((↑v0_4.length:Int)-y2.1.1)).toNat-0) v0_4).length+[y4.2.1].length)*ti2.bytes≤140737488355328)then r0 v0_1 (i64.wrap (v0_3+1)) (List.take ((i64.wrap ((↑v0_4.length:Int)-y2.1.1)).toNat-0) v0_4++[y4.2.1])else none else none else none else bif y3.1==1 then bif decide (0≤v0_3)then(lget a2 v0_3.toNat).bind fun(y5:Int×Int×Unit)=>bif decide (0≤y5.2.1)then(lget a1.1 (Int.toNat y5.2.1)).bind fun(y6:Int)=>bif v0_1==0 then bif decide ((i64.wrap ((↑v0_4.length:Int)-y2.1.1)).toNat-0≤v0_4.length)then bif decide (((List.take ((i64.wrap ((↑v0_4.length:Int)-y2.1.1)).toNat-0) v0_4).length+[y6].length)*ti2.bytes≤140737488355328)then r0 0 (i64.wrap (v0_3+1)) (List.take ((i64.wrap ((↑v0_4.length:Int)-y2.1.1)).toNat-0) v0_4++[y6])else none else none else bif decide ((i64.wrap ((↑v0_4.length:Int)-y2.1.1)).toNat-0≤v0_4.length)then bif decide (((List.take ((i64.wrap ((↑v0_4.length:Int)-y2.1.1)).toNat-0) v0_4).length+[y6].length)*ti2.bytes≤140737488355328)then r0 v0_1 (i64.wrap (v0_3+1)) (List.take ((i64.wrap ((↑v0_4.length:Int)-y2.1.1)).toNat-0) v0_4++[y6])else none else none else none else none else bif y3.1==2 then bif decide (0≤0)&&decide (Int.toNat 0<([]++List.take (v0_4.length-(i64.wrap ((↑v0_4.length:Int)-y2.1.1)).toNat) (List.drop (i64.wrap ((↑v0_4.length:Int)-y2.1.1)).toNat v0_4)).length)then(lget ([]++List.take (v0_4.length-(i64.wrap ((↑v0_4.length:Int)-y2.1.1)).toNat) (List.drop (i64.wrap ((↑v0_4.length:Int)-y2.1.1)).toNat v0_4)) (Int.toNat 0)).bind fun(y7:Int)=>bif decide (0≤v0_3)then(lget a2 v0_3.toNat).bind fun(y8:Int×Int×Unit)=>bif decide (0≤y8.2.1)then(lget a1.2.1 (Int.toNat y8.2.1)).bind fun(y9:List Int)=>bif decide (y7<(↑y9.length:Int))then bif decide (0≤v0_3)then(lget a2 v0_3.toNat).bind fun(y10:Int×Int×Unit)=>bif decide (0≤y10.2.1)then(lget a1.2.1 (Int.toNat y10.2.1)).bind fun(y11:List Int)=>bif decide (0≤0)&&decide (Int.toNat 0<([]++List.take (v0_4.length-(i64.wrap ((↑v0_4.length:Int)-y2.1.1)).toNat) (List.drop (i64.wrap ((↑v0_4.length:Int)-y2.1.1)).toNat v0_4)).length)then(lget ([]++List.take (v0_4.length-(i64.wrap ((↑v0_4.length:Int)-y2.1.1)).toNat) (List.drop (i64.wrap ((↑v0_4.length:Int)-y2.1.1)).toNat v0_4)) (Int.toNat 0)).bind fun(y12:Int)=>bif decide (0≤y12)then(lget y11 y12.toNat).bind fun(y13:Int)=>bif v0_1==0 then bif decide ((i64.wrap ((↑v0_4.length:Int)-y2.1.1)).toNat-0≤v0_4.length)then bif decide (((List.take ((i64.wrap ((↑v0_4.length:Int)-y2.1.1)).toNat-0) v0_4).length+[y13].length)*ti2.bytes≤140737488355328)then r0 0 (i64.wrap (v0_3+1)) (List.take ((i64.wrap ((↑v0_4.length:Int)-y2.1.1)).toNat-0) v0_4++[y13])else none else none else bif decide ((i64.wrap ((↑v0_4.length:Int)-y2.1.1)).toNat-0≤v0_4.length)then bif decide (((List.take ((i64.wrap ((↑v0_4.length:Int)-y2.1.1)).toNat-0) v0_4).length+[y13].length)*ti2.bytes≤140737488355328)then r0 v0_1 (i64.wrap (v0_3+1)) (List.take ((i64.wrap ((↑v0_4.length:Int)-y2.1.1)).toNat-0) v0_4++[y13])else none else none else none else none else none else none else bif v0_1==0 then bif decide ((i64.wrap ((↑v0_4.length:Int)-y2.1.1)).toNat-0≤v0_4.length)then bif decide (((List.take ((i64.wrap ((↑v0_4.length:Int)-y2.1.1)).toNat-0) v0_4).length+[(0:Int)].length)*ti2.bytes≤140737488355328)then r0 2 (i64.wrap (v0_3+1)) (List.take ((i64.wrap ((↑v0_4.length:Int)-y2.1.1)).toNat-0) v0_4++[(0:Int)])else none else none else bif decide ((i64.wrap ((↑v0_4.length:Int)-y2.1.1)).toNat-0≤v0_4.length)then bif decide (((List.take ((i64.wrap ((↑v0_4.length:Int)-y2.1.1)).toNat-0) v0_4).length+[(0:Int)].length)*ti2.bytes≤140737488355328)then r0 v0_1 (i64.wrap (v0_3+1)) (List.take ((i64.wrap ((↑v0_4.length:Int)-y2.1.1)).toNat-0) v0_4++[(0:Int)])else none else none else none else none else none else bif y3.1==3 then bif y3.1==3 then bif decide (0≤v0_3)then(lget a2 v0_3.toNat).bind fun(y14:Int×Int×Unit)=>bif decide (0≤0)&&decide (Int.toNat 0<([]++List.take (v0_4.length-(i64.wrap ((↑v0_4.length:Int)-y2.1.1)).toNat) (List.drop (i64.wrap ((↑v0_4.length:Int)-y2.1.1)).toNat v0_4)).length)then(lget ([]++List.take (v0_4.length-(i64.wrap ((↑v0_4.length:Int)-y2.1.1)).toNat) (List.drop (i64.wrap ((↑v0_4.length:Int)-y2.1.1)).toNat v0_4)) (Int.toNat 0)).bind fun(y15:Int)=>(call 234 s_spec_l5Op (y0.1.1,y14.1,y15,0,())).bind fun(y16:Y5_5×Unit)=>bif v0_1==0 then bif decide ((i64.wrap ((↑v0_4.length:Int)-y2.1.1)).toNat-0≤v0_4.length)then bif decide (((List.take ((i64.wrap ((↑v0_4.length:Int)-y2.1.1)).toNat-0) v0_4).length+[y16.1.1].length)*ti2.bytes≤140737488355328)then r0 0 (i64.wrap (v0_3+1)) (List.take ((i64.wrap ((↑v0_4.length:Int)-y2.1.1)).toNat-0) v0_4++[y16.1.1])else none else none else bif decide ((i64.wrap ((↑v0_4.length:Int)-y2.1.1)).toNat-0≤v0_4.length)then bif decide (((List.take ((i64.wrap ((↑v0_4.length:Int)-y2.1.1)).toNat-0) v0_4).length+[y16.1.1].length)*ti2.bytes≤140737488355328)then r0 v0_1 (i64.wrap (v0_3+1)) (List.take ((i64.wrap ((↑v0_4.length:Int)-y2.1.1)).toNat-0) v0_4++[y16.1.1])else none else none else none else none else bif y3.1==17 then bif decide (0≤2)&&decide (Int.toNat 2<([]++List.take (v0_4.length-(i64.wrap ((↑v0_4.length:Int)-y2.1.1)).toNat) (List.drop (i64.wrap ((↑v0_4.length:Int)-y2.1.1)).toNat v0_4)).length)then(lget ([]++List.take (v0_4.length-(i64.wrap ((↑v0_4.length:Int)-y2.1.1)).toNat) (List.drop (i64.wrap ((↑v0_4.length:Int)-y2.1.1)).toNat v0_4)) (Int.toNat 2)).bind fun(y17:Int)=>bif decide (0≤0)&&decide (Int.toNat 0<([]++List.take (v0_4.length-(i64.wrap ((↑v0_4.length:Int)-y2.1.1)).toNat) (List.drop (i64.wrap ((↑v0_4.length:Int)-y2.1.1)).toNat v0_4)).length)then(lget ([]++List.take (v0_4.length-(i64.wrap ((↑v0_4.length:Int)-y2.1.1)).toNat) (List.drop (i64.wrap ((↑v0_4.length:Int)-y2.1.1)).toNat v0_4)) (Int.toNat 0)).bind fun(y18:Int)=>bif y18 !=0 then bif decide (0≤1)&&decide (Int.toNat 1<([]++List.take (v0_4.length-(i64.wrap ((↑v0_4.length:Int)-y2.1.1)).toNat) (List.drop (i64.wrap ((↑v0_4.length:Int)-y2.1.1)).toNat v0_4)).length)then(lget ([]++List.take (v0_4.length-(i64.wrap ((↑v0_4.length:Int)-y2.1.1)).toNat) (List.drop (i64.wrap ((↑v0_4.length:Int)-y2.1.1)).toNat v0_4)) (Int.toNat 1)).bind fun(y19:Int)=>bif v0_1==0 then bif decide ((i64.wrap ((↑v0_4.length:Int)-y2.1.1)).toNat-0≤v0_4.length)then bif decide (((List.take ((i64.wrap ((↑v0_4.length:Int)-y2.1.1)).toNat-0) v0_4).length+[y19].length)*ti2.bytes≤140737488355328)then r0 0 (i64.wrap (v0_3+1)) (List.take ((i64.wrap ((↑v0_4.length:Int)-y2.1.1)).toNat-0) v0_4++[y19])else none else none else bif decide ((i64.wrap ((↑v0_4.length:Int)-y2.1.1)).toNat-0≤v0_4.length)then bif decide (((List.take ((i64.wrap ((↑v0_4.length:Int)-y2.1.1)).toNat-0) v0_4).length+[y19].length)*ti2.bytes≤140737488355328)then r0 v0_1 (i64.wrap (v0_3+1)) (List.take ((i64.wrap ((↑v0_4.length:Int)-y2.1.1)).toNat-0) v0_4++[y19])else none else none else none else bif v0_1==0 then bif decide ((i64.wrap ((↑v0_4.length:Int)-y2.1.1)).toNat-0≤v0_4.length)then bif decide (((List.take ((i64.wrap ((↑v0_4.length:Int)-y2.1.1)).toNat-0) v0_4).length+[y17].length)*ti2.bytes≤140737488355328)then r0 0 (i64.wrap (v0_3+1)) (List.take ((i64.wrap ((↑v0_4.length:Int)-y2.1.1)).toNat-0) v0_4++[y17])else none else none else bif decide ((i64.wrap ((↑v0_4.length:Int)-y2.1.1)).toNat-0≤v0_4.length)then bif decide (((List.take ((i64.wrap ((↑v0_4.length:Int)-y2.1.1)).toNat-0) v0_4).length+[y17].length)*ti2.bytes≤140737488355328)then r0 v0_1 (i64.wrap (v0_3+1)) (List.take ((i64.wrap ((↑v0_4.length:Int)-y2.1.1)).toNat-0) v0_4++[y17])else none else none else none else none else bif decide (0≤1)&&decide (Int.toNat 1<([]++List.take (v0_4.length-(i64.wrap ((↑v0_4.length:Int)-y2.1.1)).toNat) (List.drop (i64.wrap ((↑v0_4.length:Int)-y2.1.1)).toNat v0_4)).length)then(lget ([]++List.take (v0_4.length-(i64.wrap ((↑v0_4.length:Int)-y2.1.1)).toNat) (List.drop (i64.wrap ((↑v0_4.length:Int)-y2.1.1)).toNat v0_4)) (Int.toNat 1)).bind fun(y20:Int)=>bif y20==0 then bif decide (0≤v0_3)then(lget a2 v0_3.toNat).bind fun(y21:Int×Int×Unit)=>bif y21.1==8 then bif decide (0≤v0_3)then(lget a2 v0_3.toNat).bind fun(y22:Int×Int×Unit)=>bif decide (0≤0)&&decide (Int.toNat 0<([]++List.take (v0_4.length-(i64.wrap ((↑v0_4.length:Int)-y2.1.1)).toNat) (List.drop (i64.wrap ((↑v0_4.length:Int)-y2.1.1)).toNat v0_4)).length)then(lget ([]++List.take (v0_4.length-(i64.wrap ((↑v0_4.length:Int)-y2.1.1)).toNat) (List.drop (i64.wrap ((↑v0_4.length:Int)-y2.1.1)).toNat v0_4)) (Int.toNat 0)).bind fun(y23:Int)=>bif decide (0≤1)&&decide (Int.toNat 1<([]++List.take (v0_4.length-(i64.wrap ((↑v0_4.length:Int)-y2.1.1)).toNat) (List.drop (i64.wrap ((↑v0_4.length:Int)-y2.1.1)).toNat v0_4)).length)then(lget ([]++List.take (v0_4.length-(i64.wrap ((↑v0_4.length:Int)-y2.1.1)).toNat) (List.drop (i64.wrap ((↑v0_4.length:Int)-y2.1.1)).toNat v0_4)) (Int.toNat 1)).bind fun(y24:Int)=>(call 234 s_spec_l5Op (y0.1.1,y22.1,y23,y24,())).bind fun(y25:Y5_5×Unit)=>bif v0_1==0 then bif decide ((i64.wrap ((↑v0_4.length:Int)-y2.1.1)).toNat-0≤v0_4.length)then bif decide (((List.take ((i64.wrap ((↑v0_4.length:Int)-y2.1.1)).toNat-0) v0_4).length+[y25.1.1].length)*ti2.bytes≤140737488355328)then r0 1 (i64.wrap (v0_3+1)) (List.take ((i64.wrap ((↑v0_4.length:Int)-y2.1.1)).toNat-0) v0_4++[y25.1.1])else none else none else bif decide ((i64.wrap ((↑v0_4.length:Int)-y2.1.1)).toNat-0≤v0_4.length)then bif decide (((List.take ((i64.wrap ((↑v0_4.length:Int)-y2.1.1)).toNat-0) v0_4).length+[y25.1.1].length)*ti2.bytes≤140737488355328)then r0 v0_1 (i64.wrap (v0_3+1)) (List.take ((i64.wrap ((↑v0_4.length:Int)-y2.1.1)).toNat-0) v0_4++[y25.1.1])else none else none else none else none else none else bif decide (0≤v0_3)then(lget a2 v0_3.toNat).bind fun(y26:Int×Int×Unit)=>bif y26.1==9 then bif decide (0≤v0_3)then(lget a2 v0_3.toNat).bind fun(y27:Int×Int×Unit)=>bif decide (0≤0)&&decide (Int.toNat 0<([]++List.take (v0_4.length-(i64.wrap ((↑v0_4.length:Int)-y2.1.1)).toNat) (List.drop (i64.wrap ((↑v0_4.length:Int)-y2.1.1)).toNat v0_4)).length)then(lget ([]++List.take (v0_4.length-(i64.wrap ((↑v0_4.length:Int)-y2.1.1)).toNat) (List.drop (i64.wrap ((↑v0_4.length:Int)-y2.1.1)).toNat v0_4)) (Int.toNat 0)).bind fun(y28:Int)=>bif decide (0≤1)&&decide (Int.toNat 1<([]++List.take (v0_4.length-(i64.wrap ((↑v0_4.length:Int)-y2.1.1)).toNat) (List.drop (i64.wrap ((↑v0_4.length:Int)-y2.1.1)).toNat v0_4)).length)then(lget ([]++List.take (v0_4.length-(i64.wrap ((↑v0_4.length:Int)-y2.1.1)).toNat) (List.drop (i64.wrap ((↑v0_4.length:Int)-y2.1.1)).toNat v0_4)) (Int.toNat 1)).bind fun(y29:Int)=>(call 234 s_spec_l5Op (y0.1.1,y27.1,y28,y29,())).bind fun(y30:Y5_5×Unit)=>bif v0_1==0 then bif decide ((i64.wrap ((↑v0_4.length:Int)-y2.1.1)).toNat-0≤v0_4.length)then bif decide (((List.take ((i64.wrap ((↑v0_4.length:Int)-y2.1.1)).toNat-0) v0_4).length+[y30.1.1].length)*ti2.bytes≤140737488355328)then r0 1 (i64.wrap (v0_3+1)) (List.take ((i64.wrap ((↑v0_4.length:Int)-y2.1.1)).toNat-0) v0_4++[y30.1.1])else none else none else bif decide ((i64.wrap ((↑v0_4.length:Int)-y2.1.1)).toNat-0≤v0_4.length)then bif decide (((List.take ((i64.wrap ((↑v0_4.length:Int)-y2.1.1)).toNat-0) v0_4).length+[y30.1.1].length)*ti2.bytes≤140737488355328)then r0 v0_1 (i64.wrap (v0_3+1)) (List.take ((i64.wrap ((↑v0_4.length:Int)-y2.1.1)).toNat-0) v0_4++[y30.1.1])else none else none else none else none else none else bif decide (0≤v0_3)then(lget a2 v0_3.toNat).bind fun(y31:Int×Int×Unit)=>bif decide (0≤0)&&decide (Int.toNat 0<([]++List.take (v0_4.length-(i64.wrap ((↑v0_4.length:Int)-y2.1.1)).toNat) (List.drop (i64.wrap ((↑v0_4.length:Int)-y2.1.1)).toNat v0_4)).length)then(lget ([]++List.take (v0_4.length-(i64.wrap ((↑v0_4.length:Int)-y2.1.1)).toNat) (List.drop (i64.wrap ((↑v0_4.length:Int)-y2.1.1)).toNat v0_4)) (Int.toNat 0)).bind fun(y32:Int)=>bif decide (0≤1)&&decide (Int.toNat 1<([]++List.take (v0_4.length-(i64.wrap ((↑v0_4.length:Int)-y2.1.1)).toNat) (List.drop (i64.wrap ((↑v0_4.length:Int)-y2.1.1)).toNat v0_4)).length)then(lget ([]++List.take (v0_4.length-(i64.wrap ((↑v0_4.length:Int)-y2.1.1)).toNat) (List.drop (i64.wrap ((↑v0_4.length:Int)-y2.1.1)).toNat v0_4)) (Int.toNat 1)).bind fun(y33:Int)=>(call 234 s_spec_l5Op (y0.1.1,y31.1,y32,y33,())).bind fun(y34:Y5_5×Unit)=>bif v0_1==0 then bif decide ((i64.wrap ((↑v0_4.length:Int)-y2.1.1)).toNat-0≤v0_4.length)then bif decide (((List.take ((i64.wrap ((↑v0_4.length:Int)-y2.1.1)).toNat-0) v0_4).length+[y34.1.1].length)*ti2.bytes≤140737488355328)then r0 0 (i64.wrap (v0_3+1)) (List.take ((i64.wrap ((↑v0_4.length:Int)-y2.1.1)).toNat-0) v0_4++[y34.1.1])else none else none else bif decide ((i64.wrap ((↑v0_4.length:Int)-y2.1.1)).toNat-0≤v0_4.length)then bif decide (((List.take ((i64.wrap ((↑v0_4.length:Int)-y2.1.1)).toNat-0) v0_4).length+[y34.1.1].length)*ti2.bytes≤140737488355328)then r0 v0_1 (i64.wrap (v0_3+1)) (List.take ((i64.wrap ((↑v0_4.length:Int)-y2.1.1)).toNat-0) v0_4++[y34.1.1])else none else none else none else none else none else none else none else bif decide (0≤v0_3)then(lget a2 v0_3.toNat).bind fun(y35:Int×Int×Unit)=>bif decide (0≤0)&&decide (Int.toNat 0<([]++List.take (v0_4.length-(i64.wrap ((↑v0_4.length:Int)-y2.1.1)).toNat) (List.drop (i64.wrap ((↑v0_4.length:Int)-y2.1.1)).toNat v0_4)).length)then(lget ([]++List.take (v0_4.length-(i64.wrap ((↑v0_4.length:Int)-y2.1.1)).toNat) (List.drop (i64.wrap ((↑v0_4.length:Int)-y2.1.1)).toNat v0_4)) (Int.toNat 0)).bind fun(y36:Int)=>bif decide (0≤1)&&decide (Int.toNat 1<([]++List.take (v0_4.length-(i64.wrap ((↑v0_4.length:Int)-y2.1.1)).toNat) (List.drop (i64.wrap ((↑v0_4.length:Int)-y2.1.1)).toNat v0_4)).length)then(lget ([]++List.take (v0_4.length-(i64.wrap ((↑v0_4.length:Int)-y2.1.1)).toNat) (List.drop (i64.wrap ((↑v0_4.length:Int)-y2.1.1)).toNat v0_4)) (Int.toNat 1)).bind fun(y37:Int)=>(call 234 s_spec_l5Op (y0.1.1,y35.1,y36,y37,())).bind fun(y38:Y5_5×Unit)=>bif v0_1==0 then bif decide ((i64.wrap ((↑v0_4.length:Int)-y2.1.1)).toNat-0≤v0_4.length)then bif decide (((List.take ((i64.wrap ((↑v0_4.length:Int)-y2.1.1)).toNat-0) v0_4).length+[y38.1.1].length)*ti2.bytes≤140737488355328)then r0 0 (i64.wrap (v0_3+1)) (List.take ((i64.wrap ((↑v0_4.length:Int)-y2.1.1)).toNat-0) v0_4++[y38.1.1])else none else none else bif decide ((i64.wrap ((↑v0_4.length:Int)-y2.1.1)).toNat-0≤v0_4.length)then bif decide (((List.take ((i64.wrap ((↑v0_4.length:Int)-y2.1.1)).toNat-0) v0_4).length+[y38.1.1].length)*ti2.bytes≤140737488355328)then r0 v0_1 (i64.wrap (v0_3+1)) (List.take ((i64.wrap ((↑v0_4.length:Int)-y2.1.1)).toNat-0) v0_4++[y38.1.1])else none else none else none else none else none else none else bif y3.1==4 then bif decide (0≤v0_3)then(lget a2 v0_3.toNat).bind fun(y39:Int×Int×Unit)=>bif decide (0≤0)&&decide (Int.toNat 0<([]++List.take (v0_4.length-(i64.wrap ((↑v0_4.length:Int)-y2.1.1)).toNat) (List.drop (i64.wrap ((↑v0_4.length:Int)-y2.1.1)).toNat v0_4)).length)then(lget ([]++List.take (v0_4.length-(i64.wrap ((↑v0_4.length:Int)-y2.1.1)).toNat) (List.drop (i64.wrap ((↑v0_4.length:Int)-y2.1.1)).toNat v0_4)) (Int.toNat 0)).bind fun(y40:Int)=>(call 234 s_spec_l5Op (y0.1.1,y39.1,y40,0,())).bind fun(y41:Y5_5×Unit)=>bif v0_1==0 then bif decide ((i64.wrap ((↑v0_4.length:Int)-y2.1.1)).toNat-0≤v0_4.length)then bif decide (((List.take ((i64.wrap ((↑v0_4.length:Int)-y2.1.1)).toNat-0) v0_4).length+[y41.1.1].length)*ti2.bytes≤140737488355328)then r0 0 (i64.wrap (v0_3+1)) (List.take ((i64.wrap ((↑v0_4.length:Int)-y2.1.1)).toNat-0) v0_4++[y41.1.1])else none else none else bif decide ((i64.wrap ((↑v0_4.length:Int)-y2.1.1)).toNat-0≤v0_4.length)then bif decide (((List.take ((i64.wrap ((↑v0_4.length:Int)-y2.1.1)).toNat-0) v0_4).length+[y41.1.1].length)*ti2.bytes≤140737488355328)then r0 v0_1 (i64.wrap (v0_3+1)) (List.take ((i64.wrap ((↑v0_4.length:Int)-y2.1.1)).toNat-0) v0_4++[y41.1.1])else none else none else none else none else bif y3.1==17 then bif decide (0≤2)&&decide (Int.toNat 2<([]++List.take (v0_4.length-(i64.wrap ((↑v0_4.length:Int)-y2.1.1)).toNat) (List.drop (i64.wrap ((↑v0_4.length:Int)-y2.1.1)).toNat v0_4)).length)then(lget ([]++List.take (v0_4.length-(i64.wrap ((↑v0_4.length:Int)-y2.1.1)).toNat) (List.drop (i64.wrap ((↑v0_4.length:Int)-y2.1.1)).toNat v0_4)) (Int.toNat 2)).bind fun(y42:Int)=>bif decide (0≤0)&&decide (Int.toNat 0<([]++List.take (v0_4.length-(i64.wrap ((↑v0_4.length:Int)-y2.1.1)).toNat) (List.drop (i64.wrap ((↑v0_4.length:Int)-y2.1.1)).toNat v0_4)).length)then(lget ([]++List.take (v0_4.length-(i64.wrap ((↑v0_4.length:Int)-y2.1.1)).toNat) (List.drop (i64.wrap ((↑v0_4.length:Int)-y2.1.1)).toNat v0_4)) (Int.toNat 0)).bind fun(y43:Int)=>bif y43 !=0 then bif decide (0≤1)&&decide (Int.toNat 1<([]++List.take (v0_4.length-(i64.wrap ((↑v0_4.length:Int)-y2.1.1)).toNat) (List.drop (i64.wrap ((↑v0_4.length:Int)-y2.1.1)).toNat v0_4)).length)then(lget ([]++List.take (v0_4.length-(i64.wrap ((↑v0_4.length:Int)-y2.1.1)).toNat) (List.drop (i64.wrap ((↑v0_4.length:Int)-y2.1.1)).toNat v0_4)) (Int.toNat 1)).bind fun(y44:Int)=>bif v0_1==0 then bif decide ((i64.wrap ((↑v0_4.length:Int)-y2.1.1)).toNat-0≤v0_4.length)then bif decide (((List.take ((i64.wrap ((↑v0_4.length:Int)-y2.1.1)).toNat-0) v0_4).length+[y44].length)*ti2.bytes≤140737488355328)then r0 0 (i64.wrap (v0_3+1)) (List.take ((i64.wrap ((↑v0_4.length:Int)-y2.1.1)).toNat-0) v0_4++[y44])else none else none else bif decide ((i64.wrap ((↑v0_4.length:Int)-y2.1.1)).toNat-0≤v0_4.length)then bif decide (((List.take ((i64.wrap ((↑v0_4.length:Int)-y2.1.1)).toNat-0) v0_4).length+[y44].length)*ti2.bytes≤140737488355328)then r0 v0_1 (i64.wrap (v0_3+1)) (List.take ((i64.wrap ((↑v0_4.length:Int)-y2.1.1)).toNat-0) v0_4++[y44])else none else none else none else bif v0_1==0 then bif decide ((i64.wrap ((↑v0_4.length:Int)-y2.1.1)).toNat-0≤v0_4.length)then bif decide (((List.take ((i64.wrap ((↑v0_4.length:Int)-y2.1.1)).toNat-0) v0_4).length+[y42].length)*ti2.bytes≤140737488355328)then r0 0 (i64.wrap (v0_3+1)) (List.take ((i64.wrap ((↑v0_4.length:Int)-y2.1.1)).toNat-0) v0_4++[y42])else none else none else bif decide ((i64.wrap ((↑v0_4.length:Int)-y2.1.1)).toNat-0≤v0_4.length)then bif decide (((List.take ((i64.wrap ((↑v0_4.length:Int)-y2.1.1)).toNat-0) v0_4).length+[y42].length)*ti2.bytes≤140737488355328)then r0 v0_1 (i64.wrap (v0_3+1)) (List.take ((i64.wrap ((↑v0_4.length:Int)-y2.1.1)).toNat-0) v0_4++[y42])else none else none else none else none else bif decide (0≤1)&&decide (Int.toNat 1<([]++List.take (v0_4.length-(i64.wrap ((↑v0_4.length:Int)-y2.1.1)).toNat) (List.drop (i64.wrap ((↑v0_4.length:Int)-y2.1.1)).toNat v0_4)).length)then(lget ([]++List.take (v0_4.length-(i64.wrap ((↑v0_4.length:Int)-y2.1.1)).toNat) (List.drop (i64.wrap ((↑v0_4.length:Int)-y2.1.1)).toNat v0_4)) (Int.toNat 1)).bind fun(y45:Int)=>bif y45==0 then bif decide (0≤v0_3)then(lget a2 v0_3.toNat).bind fun(y46:Int×Int×Unit)=>bif y46.1==8 then bif decide (0≤v0_3)then(lget a2 v0_3.toNat).bind fun(y47:Int×Int×Unit)=>bif decide (0≤0)&&decide (Int.toNat 0<([]++List.take (v0_4.length-(i64.wrap ((↑v0_4.length:Int)-y2.1.1)).toNat) (List.drop (i64.wrap ((↑v0_4.length:Int)-y2.1.1)).toNat v0_4)).length)then(lget ([]++List.take (v0_4.length-(i64.wrap ((↑v0_4.length:Int)-y2.1.1)).toNat) (List.drop (i64.wrap ((↑v0_4.length:Int)-y2.1.1)).toNat v0_4)) (Int.toNat 0)).bind fun(y48:Int)=>bif decide (0≤1)&&decide (Int.toNat 1<([]++List.take (v0_4.length-(i64.wrap ((↑v0_4.length:Int)-y2.1.1)).toNat) (List.drop (i64.wrap ((↑v0_4.length:Int)-y2.1.1)).toNat v0_4)).length)then(lget ([]++List.take (v0_4.length-(i64.wrap ((↑v0_4.length:Int)-y2.1.1)).toNat) (List.drop (i64.wrap ((↑v0_4.length:Int)-y2.1.1)).toNat v0_4)) (Int.toNat 1)).bind fun(y49:Int)=>(call 234 s_spec_l5Op (y0.1.1,y47.1,y48,y49,())).bind fun(y50:Y5_5×Unit)=>bif v0_1==0 then bif decide ((i64.wrap ((↑v0_4.length:Int)-y2.1.1)).toNat-0≤v0_4.length)then bif decide (((List.take ((i64.wrap ((↑v0_4.length:Int)-y2.1.1)).toNat-0) v0_4).length+[y50.1.1].length)*ti2.bytes≤140737488355328)then r0 1 (i64.wrap (v0_3+1)) (List.take ((i64.wrap ((↑v0_4.length:Int)-y2.1.1)).toNat-0) v0_4++[y50.1.1])else none else none else bif decide ((i64.wrap ((↑v0_4.length:Int)-y2.1.1)).toNat-0≤v0_4.length)then bif decide (((List.take ((i64.wrap ((↑v0_4.length:Int)-y2.1.1)).toNat-0) v0_4).length+[y50.1.1].length)*ti2.bytes≤140737488355328)then r0 v0_1 (i64.wrap (v0_3+1)) (List.take ((i64.wrap ((↑v0_4.length:Int)-y2.1.1)).toNat-0) v0_4++[y50.1.1])else none else none else none else none else none else bif decide (0≤v0_3)then(lget a2 v0_3.toNat).bind fun(y51:Int×Int×Unit)=>bif y51.1==9 then bif decide (0≤v0_3)then(lget a2 v0_3.toNat).bind fun(y52:Int×Int×Unit)=>bif decide (0≤0)&&decide (Int.toNat 0<([]++List.take (v0_4.length-(i64.wrap ((↑v0_4.length:Int)-y2.1.1)).toNat) (List.drop (i64.wrap ((↑v0_4.length:Int)-y2.1.1)).toNat v0_4)).length)then(lget ([]++List.take (v0_4.length-(i64.wrap ((↑v0_4.length:Int)-y2.1.1)).toNat) (List.drop (i64.wrap ((↑v0_4.length:Int)-y2.1.1)).toNat v0_4)) (Int.toNat 0)).bind fun(y53:Int)=>bif decide (0≤1)&&decide (Int.toNat 1<([]++List.take (v0_4.length-(i64.wrap ((↑v0_4.length:Int)-y2.1.1)).toNat) (List.drop (i64.wrap ((↑v0_4.length:Int)-y2.1.1)).toNat v0_4)).length)then(lget ([]++List.take (v0_4.length-(i64.wrap ((↑v0_4.length:Int)-y2.1.1)).toNat) (List.drop (i64.wrap ((↑v0_4.length:Int)-y2.1.1)).toNat v0_4)) (Int.toNat 1)).bind fun(y54:Int)=>(call 234 s_spec_l5Op (y0.1.1,y52.1,y53,y54,())).bind fun(y55:Y5_5×Unit)=>bif v0_1==0 then bif decide ((i64.wrap ((↑v0_4.length:Int)-y2.1.1)).toNat-0≤v0_4.length)then bif decide (((List.take ((i64.wrap ((↑v0_4.length:Int)-y2.1.1)).toNat-0) v0_4).length+[y55.1.1].length)*ti2.bytes≤140737488355328)then r0 1 (i64.wrap (v0_3+1)) (List.take ((i64.wrap ((↑v0_4.length:Int)-y2.1.1)).toNat-0) v0_4++[y55.1.1])else none else none else bif decide ((i64.wrap ((↑v0_4.length:Int)-y2.1.1)).toNat-0≤v0_4.length)then bif decide (((List.take ((i64.wrap ((↑v0_4.length:Int)-y2.1.1)).toNat-0) v0_4).length+[y55.1.1].length)*ti2.bytes≤140737488355328)then r0 v0_1 (i64.wrap (v0_3+1)) (List.take ((i64.wrap ((↑v0_4.length:Int)-y2.1.1)).toNat-0) v0_4++[y55.1.1])else none else none else none else none else none else bif decide (0≤v0_3)then(lget a2 v0_3.toNat).bind fun(y56:Int×Int×Unit)=>bif decide (0≤0)&&decide (Int.toNat 0<([]++List.take (v0_4.length-(i64.wrap ((↑v0_4.length:Int)-y2.1.1)).toNat) (List.drop (i64.wrap ((↑v0_4.length:Int)-y2.1.1)).toNat v0_4)).length)then(lget ([]++List.take (v0_4.length-(i64.wrap ((↑v0_4.length:Int)-y2.1.1)).toNat) (List.drop (i64.wrap ((↑v0_4.length:Int)-y2.1.1)).toNat v0_4)) (Int.toNat 0)).bind fun(y57:Int)=>bif decide (0≤1)&&decide (Int.toNat 1<([]++List.take (v0_4.length-(i64.wrap ((↑v0_4.length:Int)-y2.1.1)).toNat) (List.drop (i64.wrap ((↑v0_4.length:Int)-y2.1.1)).toNat v0_4)).length)then(lget ([]++List.take (v0_4.length-(i64.wrap ((↑v0_4.length:Int)-y2.1.1)).toNat) (List.drop (i64.wrap ((↑v0_4.length:Int)-y2.1.1)).toNat v0_4)) (Int.toNat 1)).bind fun(y58:Int)=>(call 234 s_spec_l5Op (y0.1.1,y56.1,y57,y58,())).bind fun(y59:Y5_5×Unit)=>bif v0_1==0 then bif decide ((i64.wrap ((↑v0_4.length:Int)-y2.1.1)).toNat-0≤v0_4.length)then bif decide (((List.take ((i64.wrap ((↑v0_4.length:Int)-y2.1.1)).toNat-0) v0_4).length+[y59.1.1].length)*ti2.bytes≤140737488355328)then r0 0 (i64.wrap (v0_3+1)) (List.take ((i64.wrap ((↑v0_4.length:Int)-y2.1.1)).toNat-0) v0_4++[y59.1.1])else none else none else bif decide ((i64.wrap ((↑v0_4.length:Int)-y2.1.1)).toNat-0≤v0_4.length)then bif decide (((List.take ((i64.wrap ((↑v0_4.length:Int)-y2.1.1)).toNat-0) v0_4).length+[y59.1.1].length)*ti2.bytes≤140737488355328)then r0 v0_1 (i64.wrap (v0_3+1)) (List.take ((i64.wrap ((↑v0_4.length:Int)-y2.1.1)).toNat-0) v0_4++[y59.1.1])else none else none else none else none else none else none else none else bif decide (0≤v0_3)then(lget a2 v0_3.toNat).bind fun(y60:Int×Int×Unit)=>bif decide (0≤0)&&decide (Int.toNat 0<([]++List.take (v0_4.length-(i64.wrap ((↑v0_4.length:Int)-y2.1.1)).toNat) (List.drop (i64.wrap ((↑v0_4.length:Int)-y2.1.1)).toNat v0_4)).length)then(lget ([]++List.take (v0_4.length-(i64.wrap ((↑v0_4.length:Int)-y2.1.1)).toNat) (List.drop (i64.wrap ((↑v0_4.length:Int)-y2.1.1)).toNat v0_4)) (Int.toNat 0)).bind fun(y61:Int)=>bif decide (0≤1)&&decide (Int.toNat 1<([]++List.take (v0_4.length-(i64.wrap ((↑v0_4.length:Int)-y2.1.1)).toNat) (List.drop (i64.wrap ((↑v0_4.length:Int)-y2.1.1)).toNat v0_4)).length)then(lget ([]++List.take (v0_4.length-(i64.wrap ((↑v0_4.length:Int)-y2.1.1)).toNat) (List.drop (i64.wrap ((↑v0_4.length:Int)-y2.1.1)).toNat v0_4)) (Int.toNat 1)).bind fun(y62:Int)=>(call 234 s_spec_l5Op (y0.1.1,y60.1,y61,y62,())).bind fun(y63:Y5_5×Unit)=>bif v0_1==0 then bif decide ((i64.wrap ((↑v0_4.length:Int)-y2.1.1)).toNat-0≤v0_4.length)then bif decide (((List.take ((i64.wrap ((↑v0_4.length:Int)-y2.1.1)).toNat-0) v0_4).length+[y63.1.1].length)*ti2.bytes≤140737488355328)then r0 0 (i64.wrap (v0_3+1)) (List.take ((i64.wrap ((↑v0_4.length:Int)-y2.1.1)).toNat-0) v0_4++[y63.1.1])else none else none else bif decide ((i64.wrap ((↑v0_4.length:Int)-y2.1.1)).toNat-0≤v0_4.length)then bif decide (((List.take ((i64.wrap ((↑v0_4.length:Int)-y2.1.1)).toNat-0) v0_4).length+[y63.1.1].length)*ti2.bytes≤140737488355328)then r0 v0_1 (i64.wrap (v0_3+1)) (List.take ((i64.wrap ((↑v0_4.length:Int)-y2.1.1)).toNat-0) v0_4++[y63.1.1])else none else none else none else none else none else none else none else none else none else none else none else none else none else bif decide (0≤0)&&decide (Int.toNat 0<v0_4.length)then(lget v0_4 (Int.toNat 0)).bind fun(y64:Int)=>some ((y64,v0_1,()),())else none
def L0(call:Cl)(k:Nat)(a1:Y5_1)(a2:Y5_2)(y0:Y5_3):Nat→(Int)→(Int)→((List Int))→Option R|0,_,_,_=>none|n+1,v0_1,v0_3,v0_4=>step0 call k a1 a2 y0 (L0 call k a1 a2 y0 n) v0_1 v0_3 v0_4
def Fm(call:Cl)(k:Nat)(l0:(Y5_1)→(Y5_2)→(Y5_3)→(Int)→(Int)→((List Int))→Option R)(a0:Y5_0)(a1:Y5_1)(a2:Y5_2):Option R:=(call 219 s_spec_l3Size (a0,())).bind fun(y0:Y5_5×Unit)=>l0 a1 a2 y0 0 0 []
def F(call:Cl)(k:Nat)(a0:Y5_0)(a1:Y5_1)(a2:Y5_2):Option R:=Fm call k (fun a1_ a2_ y0_ v0_1_ v0_3_ v0_4_=>L0 call k a1_ a2_ y0_ k v0_1_ v0_3_ v0_4_) a0 a1 a2
theorem L0_eq(call:Cl)(k:Nat)(J:Nat→St→Option R)(a0:Y5_0)(a1:Y5_1)(a2:Y5_2)(y0:Y5_3):∀(n:Nat)(x:((Int)×(Int)×((List Int)))),siteI E call n_spec_l5Value k s_spec_l5Value (a0,a1,a2,()) J 0 n (S0 a1 a2 y0 x.1 x.2.1 x.2.2)=L0 call k a1 a2 y0 n x.1 x.2.1 x.2.2:=by
  refine loop_eq (s:=s_spec_l5Value) (fun x=>S0 a1 a2 y0 x.1 x.2.1 x.2.2) (fun n x=>L0 call k a1 a2 y0 n x.1 x.2.1 x.2.2) (fun r x=>step0 call k a1 a2 y0 (fun v0_1 v0_3 v0_4=>r (v0_1,v0_3,v0_4)) x.1 x.2.1 x.2.2) (fun _=>rfl) (fun _ _=>rfl) fun J0 x=>?_
  kernel_rfl
theorem F_eq(call:Cl)(k:Nat)(a0:Y5_0)(a1:Y5_1)(a2:Y5_2):bodyK E call n_spec_l5Value k s_spec_l5Value (a0,a1,a2,())=F call k a0 a1 a2:=by
  exact Eq.trans (b:=Fm call k (fun a1 a2 y0 v0_1_ v0_3_ v0_4_=>siteI E call n_spec_l5Value k s_spec_l5Value (a0,a1,a2,()) (fun _ _=>none) 0 k (S0 a1 a2 y0 v0_1_ v0_3_ v0_4_)) a0 a1 a2) (by kernel_rfl) (congrArg (fun l=>Fm call k l a0 a1 a2) (funext fun a1=>funext fun a2=>funext fun y0=>funext fun v0_1_=>funext fun v0_3_=>funext fun v0_4_=>L0_eq call k (fun _ _=>none) a0 a1 a2 y0 k (v0_1_,v0_3_,v0_4_)))
end spec_l5Value
namespace impl_truth
abbrev R:=((Int×Unit)×Unit)
def Fm(call:Cl)(k:Nat)(a0:Bool):Option R:=bif a0 then some ((1,()),())else some ((0,()),())
def F(call:Cl)(k:Nat)(a0:Bool):Option R:=Fm call k a0
theorem F_eq(call:Cl)(k:Nat)(a0:Bool):bodyK E call n_impl_truth k s_impl_truth (a0,())=F call k a0:=by kernel_rfl
end impl_truth
namespace impl_join
abbrev R:=((Int×Unit)×Unit)
def Fm(call:Cl)(k:Nat)(a0:Int)(a1:Int)(a2:Int)(a3:Int):Option R:=bif decide (a0<0)then none else bif a1==5 then some ((bitsI .and .i64 (i64.wrap (a2+a3)) (i64.wrap (shlI .i64 1 a0-1)),()),())else bif a1==6 then some ((bitsI .and .i64 (i64.wrap (a2-a3)) (i64.wrap (shlI .i64 1 a0-1)),()),())else bif a1==7 then some ((bitsI .and .i64 (i64.wrap (a2*a3)) (i64.wrap (shlI .i64 1 a0-1)),()),())else bif a1==8 then bif decide (a3=0)then none else some ((i64.wrap (a2.tdiv a3),()),())else bif a1==9 then bif decide (a3=0)then none else some ((a2.tmod a3,()),())else bif a1==10 then some ((bitsI .and .i64 a2 a3,()),())else bif a1==11 then some ((bitsI .or .i64 a2 a3,()),())else bif a1==12 then some ((bitsI .xor .i64 a2 a3,()),())else bif a1==13 then bif decide (a3≥a0)then some ((0,()),())else bif decide (a3<0)then none else some ((bitsI .and .i64 (shlI .i64 a2 a3) (i64.wrap (shlI .i64 1 a0-1)),()),())else bif a1==14 then bif decide (a3≥a0)then some ((0,()),())else bif decide (a3<0)then none else some ((shrI .i64 a2 a3,()),())else bif a1==15 then(call 104 s_impl_truth (a2==a3,())).bind fun(y0:Y5_5×Unit)=>some ((y0.1.1,()),())else(call 104 s_impl_truth (decide (a2<a3),())).bind fun(y1:Y5_5×Unit)=>some ((y1.1.1,()),())
def F(call:Cl)(k:Nat)(a0:Int)(a1:Int)(a2:Int)(a3:Int):Option R:=Fm call k a0 a1 a2 a3
theorem F_eq(call:Cl)(k:Nat)(a0:Int)(a1:Int)(a2:Int)(a3:Int):bodyK E call n_impl_join k s_impl_join (a0,a1,a2,a3,())=F call k a0 a1 a2 a3:=by kernel_rfl
end impl_join
namespace impl_turn
abbrev R:=((Int×Unit)×Unit)
def Fm(call:Cl)(k:Nat)(a0:Int)(a1:Int)(a2:Int):Option R:=bif decide (a0<0)then none else bif a1==3 then some ((bitsI .and .i64 (bitsI .xor .i64 (if i64.signed=true then(-1)else i64.max) a2) (i64.wrap (shlI .i64 1 a0-1)),()),())else some ((bitsI .and .i64 (i64.wrap (0-a2)) (i64.wrap (shlI .i64 1 a0-1)),()),())
def F(call:Cl)(k:Nat)(a0:Int)(a1:Int)(a2:Int):Option R:=Fm call k a0 a1 a2
theorem F_eq(call:Cl)(k:Nat)(a0:Int)(a1:Int)(a2:Int):bodyK E call n_impl_turn k s_impl_turn (a0,a1,a2,())=F call k a0 a1 a2:=by kernel_rfl
end impl_turn
namespace impl_reckon
abbrev R:=((Int×(Int×Unit))×Unit)
def S0(a0:Y5_0)(a1:Y5_1)(a2:Y5_2)(a3:Bool)(v0_5:Int)(v0_6:(List Int)):St:=⟨mkS 145 [(0,.v (.sptr tPg) (a0)),(1,.v (.sptr (.pair (.slc tI) (.pair (.slc (.slc tI)) .unit))) (a1)),(3,.v .bool (a3)),(10,.ref [500010]),(18,.v tTl (a2)),(19,.v tI ((↑a2.length:Int))),(20,.v tI v0_5)],[([500010],.list 2 tI v0_6)]⟩
def step0(call:Cl)(k:Nat)(a0:Y5_0)(a1:Y5_1)(a2:Y5_2)(a3:Bool)(r0:(Int)→((List Int))→Option R)(v0_5:Int)(v0_6:(List Int)):Option R:=bif decide (v0_5<(↑a2.length:Int))then bif decide (0≤v0_5)then(lget a2 v0_5.toNat).bind fun(y0:Int×Int×Unit)=>(call 258 s_impl_TakesOf (y0.1,())).bind fun(y1:Y5_5×Unit)=>bif decide (0≤i64.wrap ((↑v0_6.length:Int)-y1.1.1))then bif decide ((i64.wrap ((↑v0_6.length:Int)-y1.1.1)).toNat≤v0_6.length)&&decide (v0_6.length≤v0_6.length)then bif y0.1==0 then bif decide (0≤i64.wrap ((↑v0_6.length:Int)-y1.1.1))then bif decide (0≤(i64.wrap ((↑v0_6.length:Int)-y1.1.1)).toNat)&&decide ((i64.wrap ((↑v0_6.length:Int)-y1.1.1)).toNat≤v0_6.length)then bif decide ((i64.wrap ((↑v0_6.length:Int)-y1.1.1)).toNat-0≤v0_6.length)then bif decide (((List.take ((i64.wrap ((↑v0_6.length:Int)-y1.1.1)).toNat-0) v0_6).length+[y0.2.1].length)*ti2.bytes≤140737488355328)then r0 (i64.wrap (v0_5+1)) (List.take ((i64.wrap ((↑v0_6.length:Int)-y1.1.1)).toNat-0) v0_6++[y0.2.1])else none else none else none else none else bif y0.1==1 then bif decide (0≤y0.2.1)then(lget a1.1 (Int.toNat y0.2.1)).bind fun(y2:Int)=>bif decide (0≤i64.wrap ((↑v0_6.length:Int)-y1.1.1))then bif decide (0≤(i64.wrap ((↑v0_6.length:Int)-y1.1.1)).toNat)&&decide ((i64.wrap ((↑v0_6.length:Int)-y1.1.1)).toNat≤v0_6.length)then bif decide ((i64.wrap ((↑v0_6.length:Int)-y1.1.1)).toNat-0≤v0_6.length)then bif decide (((List.take ((i64.wrap ((↑v0_6.length:Int)-y1.1.1)).toNat-0) v0_6).length+[y2].length)*ti2.bytes≤140737488355328)then r0 (i64.wrap (v0_5+1)) (List.take ((i64.wrap ((↑v0_6.length:Int)-y1.1.1)).toNat-0) v0_6++[y2])else none else none else none else none else none else bif y0.1==2 then bif decide (0≤0)&&decide (Int.toNat 0<v0_6.length-(i64.wrap ((↑v0_6.length:Int)-y1.1.1)).toNat)&&decide ((i64.wrap ((↑v0_6.length:Int)-y1.1.1)).toNat+Int.toNat 0<v0_6.length)then(lget v0_6 ((i64.wrap ((↑v0_6.length:Int)-y1.1.1)).toNat+Int.toNat 0)).bind fun(y3:Int)=>bif decide (0≤y0.2.1)then(lget a0.2.2.2.2.1 (Int.toNat y0.2.1)).bind fun(y4:Int)=>bif decide (y3<y4)then bif decide (0≤y0.2.1)then(lget a1.2.1 (Int.toNat y0.2.1)).bind fun(y5:List Int)=>bif decide (0≤0)&&decide (Int.toNat 0<v0_6.length-(i64.wrap ((↑v0_6.length:Int)-y1.1.1)).toNat)&&decide ((i64.wrap ((↑v0_6.length:Int)-y1.1.1)).toNat+Int.toNat 0<v0_6.length)then(lget v0_6 ((i64.wrap ((↑v0_6.length:Int)-y1.1.1)).toNat+Int.toNat 0)).bind fun(y6:Int)=>bif decide (0≤y6)then(lget y5 y6.toNat).bind fun(y7:Int)=>bif decide (0≤i64.wrap ((↑v0_6.length:Int)-y1.1.1))then bif decide (0≤(i64.wrap ((↑v0_6.length:Int)-y1.1.1)).toNat)&&decide ((i64.wrap ((↑v0_6.length:Int)-y1.1.1)).toNat≤v0_6.length)then bif decide ((i64.wrap ((↑v0_6.length:Int)-y1.1.1)).toNat-0≤v0_6.length)then bif decide (((List.take ((i64.wrap ((↑v0_6.length:Int)-y1.1.1)).toNat-0) v0_6).length+[y7].length)*ti2.bytes≤140737488355328)then r0 (i64.wrap (v0_5+1)) (List.take ((i64.wrap ((↑v0_6.length:Int)-y1.1.1)).toNat-0) v0_6++[y7])else none else none else none else none else none else none else none else bif !a3 then some ((0,2,()),())else bif decide (0≤i64.wrap ((↑v0_6.length:Int)-y1.1.1))then bif decide (0≤(i64.wrap ((↑v0_6.length:Int)-y1.1.1)).toNat)&&decide ((i64.wrap ((↑v0_6.length:Int)-y1.1.1)).toNat≤v0_6.length)then bif decide ((i64.wrap ((↑v0_6.length:Int)-y1.1.1)).toNat-0≤v0_6.length)then bif decide (((List.take ((i64.wrap ((↑v0_6.length:Int)-y1.1.1)).toNat-0) v0_6).length+[(0:Int)].length)*ti2.bytes≤140737488355328)then r0 (i64.wrap (v0_5+1)) (List.take ((i64.wrap ((↑v0_6.length:Int)-y1.1.1)).toNat-0) v0_6++[(0:Int)])else none else none else none else none else none else none else bif y0.1==3 then bif y0.1==3 then bif decide (0≤0)&&decide (Int.toNat 0<v0_6.length-(i64.wrap ((↑v0_6.length:Int)-y1.1.1)).toNat)&&decide ((i64.wrap ((↑v0_6.length:Int)-y1.1.1)).toNat+Int.toNat 0<v0_6.length)then(lget v0_6 ((i64.wrap ((↑v0_6.length:Int)-y1.1.1)).toNat+Int.toNat 0)).bind fun(y8:Int)=>(call 259 s_impl_turn (a0.1,y0.1,y8,())).bind fun(y9:Y5_5×Unit)=>bif decide (0≤i64.wrap ((↑v0_6.length:Int)-y1.1.1))then bif decide (0≤(i64.wrap ((↑v0_6.length:Int)-y1.1.1)).toNat)&&decide ((i64.wrap ((↑v0_6.length:Int)-y1.1.1)).toNat≤v0_6.length)then bif decide ((i64.wrap ((↑v0_6.length:Int)-y1.1.1)).toNat-0≤v0_6.length)then bif decide (((List.take ((i64.wrap ((↑v0_6.length:Int)-y1.1.1)).toNat-0) v0_6).length+[y9.1.1].length)*ti2.bytes≤140737488355328)then r0 (i64.wrap (v0_5+1)) (List.take ((i64.wrap ((↑v0_6.length:Int)-y1.1.1)).toNat-0) v0_6++[y9.1.1])else none else none else none else none else none else bif y0.1==17 then bif decide (0≤2)&&decide (Int.toNat 2<v0_6.length-(i64.wrap ((↑v0_6.length:Int)-y1.1.1)).toNat)&&decide ((i64.wrap ((↑v0_6.length:Int)-y1.1.1)).toNat+Int.toNat 2<v0_6.length)then(lget v0_6 ((i64.wrap ((↑v0_6.length:Int)-y1.1.1)).toNat+Int.toNat 2)).bind fun(y10:Int)=>bif decide (0≤0)&&decide (Int.toNat 0<v0_6.length-(i64.wrap ((↑v0_6.length:Int)-y1.1.1)).toNat)&&decide ((i64.wrap ((↑v0_6.length:Int)-y1.1.1)).toNat+Int.toNat 0<v0_6.length)then(lget v0_6 ((i64.wrap ((↑v0_6.length:Int)-y1.1.1)).toNat+Int.toNat 0)).bind fun(y11:Int)=>bif y11 !=0 then bif decide (0≤1)&&decide (Int.toNat 1<v0_6.length-(i64.wrap ((↑v0_6.length:Int)-y1.1.1)).toNat)&&decide ((i64.wrap ((↑v0_6.length:Int)-y1.1.1)).toNat+Int.toNat 1<v0_6.length)then(lget v0_6 ((i64.wrap ((↑v0_6.length:Int)-y1.1.1)).toNat+Int.toNat 1)).bind fun(y12:Int)=>bif decide (0≤i64.wrap ((↑v0_6.length:Int)-y1.1.1))then bif decide (0≤(i64.wrap ((↑v0_6.length:Int)-y1.1.1)).toNat)&&decide ((i64.wrap ((↑v0_6.length:Int)-y1.1.1)).toNat≤v0_6.length)then bif decide ((i64.wrap ((↑v0_6.length:Int)-y1.1.1)).toNat-0≤v0_6.length)then bif decide (((List.take ((i64.wrap ((↑v0_6.length:Int)-y1.1.1)).toNat-0) v0_6).length+[y12].length)*ti2.bytes≤140737488355328)then r0 (i64.wrap (v0_5+1)) (List.take ((i64.wrap ((↑v0_6.length:Int)-y1.1.1)).toNat-0) v0_6++[y12])else none else none else none else none else none else bif decide (0≤i64.wrap ((↑v0_6.length:Int)-y1.1.1))then bif decide (0≤(i64.wrap ((↑v0_6.length:Int)-y1.1.1)).toNat)&&decide ((i64.wrap ((↑v0_6.length:Int)-y1.1.1)).toNat≤v0_6.length)then bif decide ((i64.wrap ((↑v0_6.length:Int)-y1.1.1)).toNat-0≤v0_6.length)then bif decide (((List.take ((i64.wrap ((↑v0_6.length:Int)-y1.1.1)).toNat-0) v0_6).length+[y10].length)*ti2.bytes≤140737488355328)then r0 (i64.wrap (v0_5+1)) (List.take ((i64.wrap ((↑v0_6.length:Int)-y1.1.1)).toNat-0) v0_6++[y10])else none else none else none else none else none else none else bif decide (0≤1)&&decide (Int.toNat 1<v0_6.length-(i64.wrap ((↑v0_6.length:Int)-y1.1.1)).toNat)&&decide ((i64.wrap ((↑v0_6.length:Int)-y1.1.1)).toNat+Int.toNat 1<v0_6.length)then(lget v0_6 ((i64.wrap ((↑v0_6.length:Int)-y1.1.1)).toNat+Int.toNat 1)).bind fun(y13:Int)=>bif y13==0 then bif y0.1==8 then bif !a3 then some ((0,1,()),())else bif decide (0≤i64.wrap ((↑v0_6.length:Int)-y1.1.1))then bif decide (0≤(i64.wrap ((↑v0_6.length:Int)-y1.1.1)).toNat)&&decide ((i64.wrap ((↑v0_6.length:Int)-y1.1.1)).toNat≤v0_6.length)then bif decide ((i64.wrap ((↑v0_6.length:Int)-y1.1.1)).toNat-0≤v0_6.length)then bif decide (((List.take ((i64.wrap ((↑v0_6.length:Int)-y1.1.1)).toNat-0) v0_6).length+[(0:Int)].length)*ti2.bytes≤140737488355328)then r0 (i64.wrap (v0_5+1)) (List.take ((i64.wrap ((↑v0_6.length:Int)-y1.1.1)).toNat-0) v0_6++[(0:Int)])else none else none else none else none else bif y0.1==9 then bif !a3 then some ((0,1,()),())else bif decide (0≤i64.wrap ((↑v0_6.length:Int)-y1.1.1))then bif decide (0≤(i64.wrap ((↑v0_6.length:Int)-y1.1.1)).toNat)&&decide ((i64.wrap ((↑v0_6.length:Int)-y1.1.1)).toNat≤v0_6.length)then bif decide ((i64.wrap ((↑v0_6.length:Int)-y1.1.1)).toNat-0≤v0_6.length)then bif decide (((List.take ((i64.wrap ((↑v0_6.length:Int)-y1.1.1)).toNat-0) v0_6).length+[(0:Int)].length)*ti2.bytes≤140737488355328)then r0 (i64.wrap (v0_5+1)) (List.take ((i64.wrap ((↑v0_6.length:Int)-y1.1.1)).toNat-0) v0_6++[(0:Int)])else none else none else none else none else bif decide (0≤0)&&decide (Int.toNat 0<v0_6.length-(i64.wrap ((↑v0_6.length:Int)-y1.1.1)).toNat)&&decide ((i64.wrap ((↑v0_6.length:Int)-y1.1.1)).toNat+Int.toNat 0<v0_6.length)then(lget v0_6 ((i64.wrap ((↑v0_6.length:Int)-y1.1.1)).toNat+Int.toNat 0)).bind fun(y14:Int)=>bif decide (0≤1)&&decide (Int.toNat 1<v0_6.length-(i64.wrap ((↑v0_6.length:Int)-y1.1.1)).toNat)&&decide ((i64.wrap ((↑v0_6.length:Int)-y1.1.1)).toNat+Int.toNat 1<v0_6.length)then(lget v0_6 ((i64.wrap ((↑v0_6.length:Int)-y1.1.1)).toNat+Int.toNat 1)).bind fun(y15:Int)=>(call 260 s_impl_join (a0.1,y0.1,y14,y15,())).bind fun(y16:Y5_5×Unit)=>bif decide (0≤i64.wrap ((↑v0_6.length:Int)-y1.1.1))then bif decide (0≤(i64.wrap ((↑v0_6.length:Int)-y1.1.1)).toNat)&&decide ((i64.wrap ((↑v0_6.length:Int)-y1.1.1)).toNat≤v0_6.length)then bif decide ((i64.wrap ((↑v0_6.length:Int)-y1.1.1)).toNat-0≤v0_6.length)then bif decide (((List.take ((i64.wrap ((↑v0_6.length:Int)-y1.1.1)).toNat-0) v0_6).length+[y16.1.1].length)*ti2.bytes≤140737488355328)then r0 (i64.wrap (v0_5+1)) (List.take ((i64.wrap ((↑v0_6.length:Int)-y1.1.1)).toNat-0) v0_6++[y16.1.1])else none else none else none else none else none else none else bif decide (0≤0)&&decide (Int.toNat 0<v0_6.length-(i64.wrap ((↑v0_6.length:Int)-y1.1.1)).toNat)&&decide ((i64.wrap ((↑v0_6.length:Int)-y1.1.1)).toNat+Int.toNat 0<v0_6.length)then(lget v0_6 ((i64.wrap ((↑v0_6.length:Int)-y1.1.1)).toNat+Int.toNat 0)).bind fun(y17:Int)=>bif decide (0≤1)&&decide (Int.toNat 1<v0_6.length-(i64.wrap ((↑v0_6.length:Int)-y1.1.1)).toNat)&&decide ((i64.wrap ((↑v0_6.length:Int)-y1.1.1)).toNat+Int.toNat 1<v0_6.length)then(lget v0_6 ((i64.wrap ((↑v0_6.length:Int)-y1.1.1)).toNat+Int.toNat 1)).bind fun(y18:Int)=>(call 260 s_impl_join (a0.1,y0.1,y17,y18,())).bind fun(y19:Y5_5×Unit)=>bif decide (0≤i64.wrap ((↑v0_6.length:Int)-y1.1.1))then bif decide (0≤(i64.wrap ((↑v0_6.length:Int)-y1.1.1)).toNat)&&decide ((i64.wrap ((↑v0_6.length:Int)-y1.1.1)).toNat≤v0_6.length)then bif decide ((i64.wrap ((↑v0_6.length:Int)-y1.1.1)).toNat-0≤v0_6.length)then bif decide (((List.take ((i64.wrap ((↑v0_6.length:Int)-y1.1.1)).toNat-0) v0_6).length+[y19.1.1].length)*ti2.bytes≤140737488355328)then r0 (i64.wrap (v0_5+1)) (List.take ((i64.wrap ((↑v0_6.length:Int)-y1.1.1)).toNat-0) v0_6++[y19.1.1])else none else none else none else none else none else none else none else bif y0.1==4 then bif decide (0≤0)&&decide (Int.toNat 0<v0_6.length-(i64.wrap ((↑v0_6.length:Int)-y1.1.1)).toNat)&&decide ((i64.wrap ((↑v0_6.length:Int)-y1.1.1)).toNat+Int.toNat 0<v0_6.length)then(lget v0_6 ((i64.wrap ((↑v0_6.length:Int)-y1.1.1)).toNat+Int.toNat 0)).bind fun(y20:Int)=>(call 259 s_impl_turn (a0.1,y0.1,y20,())).bind fun(y21:Y5_5×Unit)=>bif decide (0≤i64.wrap ((↑v0_6.length:Int)-y1.1.1))then bif decide (0≤(i64.wrap ((↑v0_6.length:Int)-y1.1.1)).toNat)&&decide ((i64.wrap ((↑v0_6.length:Int)-y1.1.1)).toNat≤v0_6.length)then bif decide ((i64.wrap ((↑v0_6.length:Int)-y1.1.1)).toNat-0≤v0_6.length)then bif decide (((List.take ((i64.wrap ((↑v0_6.length:Int)-y1.1.1)).toNat-0) v0_6).length+[y21.1.1].length)*ti2.bytes≤140737488355328)then r0 (i64.wrap (v0_5+1)) (List.take ((i64.wrap ((↑v0_6.length:Int)-y1.1.1)).toNat-0) v0_6++[y21.1.1])else none else none else none else none else none else bif y0.1==17 then bif decide (0≤2)&&decide (Int.toNat 2<v0_6.length-(i64.wrap ((↑v0_6.length:Int)-y1.1.1)).toNat)&&decide ((i64.wrap ((↑v0_6.length:Int)-y1.1.1)).toNat+Int.toNat 2<v0_6.length)then(lget v0_6 ((i64.wrap ((↑v0_6.length:Int)-y1.1.1)).toNat+Int.toNat 2)).bind fun(y22:Int)=>bif decide (0≤0)&&decide (Int.toNat 0<v0_6.length-(i64.wrap ((↑v0_6.length:Int)-y1.1.1)).toNat)&&decide ((i64.wrap ((↑v0_6.length:Int)-y1.1.1)).toNat+Int.toNat 0<v0_6.length)then(lget v0_6 ((i64.wrap ((↑v0_6.length:Int)-y1.1.1)).toNat+Int.toNat 0)).bind fun(y23:Int)=>bif y23 !=0 then bif decide (0≤1)&&decide (Int.toNat 1<v0_6.length-(i64.wrap ((↑v0_6.length:Int)-y1.1.1)).toNat)&&decide ((i64.wrap ((↑v0_6.length:Int)-y1.1.1)).toNat+Int.toNat 1<v0_6.length)then(lget v0_6 ((i64.wrap ((↑v0_6.length:Int)-y1.1.1)).toNat+Int.toNat 1)).bind fun(y24:Int)=>bif decide (0≤i64.wrap ((↑v0_6.length:Int)-y1.1.1))then bif decide (0≤(i64.wrap ((↑v0_6.length:Int)-y1.1.1)).toNat)&&decide ((i64.wrap ((↑v0_6.length:Int)-y1.1.1)).toNat≤v0_6.length)then bif decide ((i64.wrap ((↑v0_6.length:Int)-y1.1.1)).toNat-0≤v0_6.length)then bif decide (((List.take ((i64.wrap ((↑v0_6.length:Int)-y1.1.1)).toNat-0) v0_6).length+[y24].length)*ti2.bytes≤140737488355328)then r0 (i64.wrap (v0_5+1)) (List.take ((i64.wrap ((↑v0_6.length:Int)-y1.1.1)).toNat-0) v0_6++[y24])else none else none else none else none else none else bif decide (0≤i64.wrap ((↑v0_6.length:Int)-y1.1.1))then bif decide (0≤(i64.wrap ((↑v0_6.length:Int)-y1.1.1)).toNat)&&decide ((i64.wrap ((↑v0_6.length:Int)-y1.1.1)).toNat≤v0_6.length)then bif decide ((i64.wrap ((↑v0_6.length:Int)-y1.1.1)).toNat-0≤v0_6.length)then bif decide (((List.take ((i64.wrap ((↑v0_6.length:Int)-y1.1.1)).toNat-0) v0_6).length+[y22].length)*ti2.bytes≤140737488355328)then r0 (i64.wrap (v0_5+1)) (List.take ((i64.wrap ((↑v0_6.length:Int)-y1.1.1)).toNat-0) v0_6++[y22])else none else none else none else none else none else none else bif decide (0≤1)&&decide (Int.toNat 1<v0_6.length-(i64.wrap ((↑v0_6.length:Int)-y1.1.1)).toNat)&&decide ((i64.wrap ((↑v0_6.length:Int)-y1.1.1)).toNat+Int.toNat 1<v0_6.length)then(lget v0_6 ((i64.wrap ((↑v0_6.length:Int)-y1.1.1)).toNat+Int.toNat 1)).bind fun(y25:Int)=>bif y25==0 then bif y0.1==8 then bif !a3 then some ((0,1,()),())else bif decide (0≤i64.wrap ((↑v0_6.length:Int)-y1.1.1))then bif decide (0≤(i64.wrap ((↑v0_6.length:Int)-y1.1.1)).toNat)&&decide ((i64.wrap ((↑v0_6.length:Int)-y1.1.1)).toNat≤v0_6.length)then bif decide ((i64.wrap ((↑v0_6.length:Int)-y1.1.1)).toNat-0≤v0_6.length)then bif decide (((List.take ((i64.wrap ((↑v0_6.length:Int)-y1.1.1)).toNat-0) v0_6).length+[(0:Int)].length)*ti2.bytes≤140737488355328)then r0 (i64.wrap (v0_5+1)) (List.take ((i64.wrap ((↑v0_6.length:Int)-y1.1.1)).toNat-0) v0_6++[(0:Int)])else none else none else none else none else bif y0.1==9 then bif !a3 then some ((0,1,()),())else bif decide (0≤i64.wrap ((↑v0_6.length:Int)-y1.1.1))then bif decide (0≤(i64.wrap ((↑v0_6.length:Int)-y1.1.1)).toNat)&&decide ((i64.wrap ((↑v0_6.length:Int)-y1.1.1)).toNat≤v0_6.length)then bif decide ((i64.wrap ((↑v0_6.length:Int)-y1.1.1)).toNat-0≤v0_6.length)then bif decide (((List.take ((i64.wrap ((↑v0_6.length:Int)-y1.1.1)).toNat-0) v0_6).length+[(0:Int)].length)*ti2.bytes≤140737488355328)then r0 (i64.wrap (v0_5+1)) (List.take ((i64.wrap ((↑v0_6.length:Int)-y1.1.1)).toNat-0) v0_6++[(0:Int)])else none else none else none else none else bif decide (0≤0)&&decide (Int.toNat 0<v0_6.length-(i64.wrap ((↑v0_6.length:Int)-y1.1.1)).toNat)&&decide ((i64.wrap ((↑v0_6.length:Int)-y1.1.1)).toNat+Int.toNat 0<v0_6.length)then(lget v0_6 ((i64.wrap ((↑v0_6.length:Int)-y1.1.1)).toNat+Int.toNat 0)).bind fun(y26:Int)=>bif decide (0≤1)&&decide (Int.toNat 1<v0_6.length-(i64.wrap ((↑v0_6.length:Int)-y1.1.1)).toNat)&&decide ((i64.wrap ((↑v0_6.length:Int)-y1.1.1)).toNat+Int.toNat 1<v0_6.length)then(lget v0_6 ((i64.wrap ((↑v0_6.length:Int)-y1.1.1)).toNat+Int.toNat 1)).bind fun(y27:Int)=>(call 260 s_impl_join (a0.1,y0.1,y26,y27,())).bind fun(y28:Y5_5×Unit)=>bif decide (0≤i64.wrap ((↑v0_6.length:Int)-y1.1.1))then bif decide (0≤(i64.wrap ((↑v0_6.length:Int)-y1.1.1)).toNat)&&decide ((i64.wrap ((↑v0_6.length:Int)-y1.1.1)).toNat≤v0_6.length)then bif decide ((i64.wrap ((↑v0_6.length:Int)-y1.1.1)).toNat-0≤v0_6.length)then bif decide (((List.take ((i64.wrap ((↑v0_6.length:Int)-y1.1.1)).toNat-0) v0_6).length+[y28.1.1].length)*ti2.bytes≤140737488355328)then r0 (i64.wrap (v0_5+1)) (List.take ((i64.wrap ((↑v0_6.length:Int)-y1.1.1)).toNat-0) v0_6++[y28.1.1])else none else none else none else none else none else none else bif decide (0≤0)&&decide (Int.toNat 0<v0_6.length-(i64.wrap ((↑v0_6.length:Int)-y1.1.1)).toNat)&&decide ((i64.wrap ((↑v0_6.length:Int)-y1.1.1)).toNat+Int.toNat 0<v0_6.length)then(lget v0_6 ((i64.wrap ((↑v0_6.length:Int)-y1.1.1)).toNat+Int.toNat 0)).bind fun(y29:Int)=>bif decide (0≤1)&&decide (Int.toNat 1<v0_6.length-(i64.wrap ((↑v0_6.length:Int)-y1.1.1)).toNat)&&decide ((i64.wrap ((↑v0_6.length:Int)-y1.1.1)).toNat+Int.toNat 1<v0_6.length)then(lget v0_6 ((i64.wrap ((↑v0_6.length:Int)-y1.1.1)).toNat+Int.toNat 1)).bind fun(y30:Int)=>(call 260 s_impl_join (a0.1,y0.1,y29,y30,())).bind fun(y31:Y5_5×Unit)=>bif decide (0≤i64.wrap ((↑v0_6.length:Int)-y1.1.1))then bif decide (0≤(i64.wrap ((↑v0_6.length:Int)-y1.1.1)).toNat)&&decide ((i64.wrap ((↑v0_6.length:Int)-y1.1.1)).toNat≤v0_6.length)then bif decide ((i64.wrap ((↑v0_6.length:Int)-y1.1.1)).toNat-0≤v0_6.length)then bif decide (((List.take ((i64.wrap ((↑v0_6.length:Int)-y1.1.1)).toNat-0) v0_6).length+[y31.1.1].length)*ti2.bytes≤140737488355328)then r0 (i64.wrap (v0_5+1)) (List.take ((i64.wrap ((↑v0_6.length:Int)-y1.1.1)).toNat-0) v0_6++[y31.1.1])else none else none else none else none else none else none else none else none else none else none else bif decide (0≤0)&&decide (Int.toNat 0<v0_6.length)then(lget v0_6 (Int.toNat 0)).bind fun(y32:Int)=>some ((y32,0,()),())else none
def L0(call:Cl)(k:Nat)(a0:Y5_0)(a1:Y5_1)(a2:Y5_2)(a3:Bool):Nat→(Int)→((List Int))→Option R|0,_,_=>none|n+1,v0_5,v0_6=>step0 call k a0 a1 a2 a3 (L0 call k a0 a1 a2 a3 n) v0_5 v0_6
def Fm(call:Cl)(k:Nat)(l0:(Y5_0)→(Y5_1)→(Y5_2)→(Bool)→(Int)→((List Int))→Option R)(a0:Y5_0)(a1:Y5_1)(a2:Y5_2)(a3:Bool):Option R:=l0 a0 a1 a2 a3 0 []
def F(call:Cl)(k:Nat)(a0:Y5_0)(a1:Y5_1)(a2:Y5_2)(a3:Bool):Option R:=Fm call k (fun a0_ a1_ a2_ a3_ v0_5_ v0_6_=>L0 call k a0_ a1_ a2_ a3_ k v0_5_ v0_6_) a0 a1 a2 a3
theorem L0_eq(call:Cl)(k:Nat)(J:Nat→St→Option R)(a0:Y5_0)(a1:Y5_1)(a2:Y5_2)(a3:Bool):∀(n:Nat)(x:((Int)×((List Int)))),siteI E call n_impl_reckon k s_impl_reckon (a0,a1,a2,a3,()) J 0 n (S0 a0 a1 a2 a3 x.1 x.2)=L0 call k a0 a1 a2 a3 n x.1 x.2:=by
  refine loop_eq (s:=s_impl_reckon) (fun x=>S0 a0 a1 a2 a3 x.1 x.2) (fun n x=>L0 call k a0 a1 a2 a3 n x.1 x.2) (fun r x=>step0 call k a0 a1 a2 a3 (fun v0_5 v0_6=>r (v0_5,v0_6)) x.1 x.2) (fun _=>rfl) (fun _ _=>rfl) fun J0 x=>?_
  kernel_rfl
theorem F_eq(call:Cl)(k:Nat)(a0:Y5_0)(a1:Y5_1)(a2:Y5_2)(a3:Bool):bodyK E call n_impl_reckon k s_impl_reckon (a0,a1,a2,a3,())=F call k a0 a1 a2 a3:=by
  exact Eq.trans (b:=Fm call k (fun a0 a1 a2 a3 v0_5_ v0_6_=>siteI E call n_impl_reckon k s_impl_reckon (a0,a1,a2,a3,()) (fun _ _=>none) 0 k (S0 a0 a1 a2 a3 v0_5_ v0_6_)) a0 a1 a2 a3) (by kernel_rfl) (congrArg (fun l=>Fm call k l a0 a1 a2 a3) (funext fun a0=>funext fun a1=>funext fun a2=>funext fun a3=>funext fun v0_5_=>funext fun v0_6_=>L0_eq call k (fun _ _=>none) a0 a1 a2 a3 k (v0_5_,v0_6_)))
end impl_reckon
end Go.Proofs.YtjgfofcgmcnblaaGreat.Pf
namespace Go.Proofs.YtjgfofcgmcnblaaGreat.Pf
open Go Go.Pv
theorem sz_nat(w:Int):sz w=((2^w.toNat:Nat):Int):=by unfold sz;rw[Int.natCast_pow];rfl
theorem bitsI_and {a b:Nat}(ha:a<2^32)(hb:b<2^32):bitsI .and .i64 (a:Int) (b:Int)=((a&&&b:Nat):Int):=by
  have h1:a&&&b<2^32:=Nat.and_lt_two_pow a hb;show IntKind.i64.wrap (((BitVec.ofInt 64 (a:Int))&&&(BitVec.ofInt 64 (b:Int))).toNat:Int)=_
  rw[BitVec.ofInt_natCast,BitVec.ofInt_natCast,BitVec.toNat_and,BitVec.toNat_ofNat,BitVec.toNat_ofNat,Nat.mod_eq_of_lt (by omega),Nat.mod_eq_of_lt (by omega)];exact w64 (by omega) (by omega)
theorem bitsI_orN {a b:Nat}(ha:a<2^32)(hb:b<2^32):bitsI .or .i64 (a:Int) (b:Int)=((a|||b:Nat):Int):=by
  have h1:a|||b<2^32:=Nat.or_lt_two_pow ha hb;show IntKind.i64.wrap (((BitVec.ofInt 64 (a:Int))|||(BitVec.ofInt 64 (b:Int))).toNat:Int)=_
  rw[BitVec.ofInt_natCast,BitVec.ofInt_natCast,BitVec.toNat_or,BitVec.toNat_ofNat,BitVec.toNat_ofNat,Nat.mod_eq_of_lt (by omega),Nat.mod_eq_of_lt (by omega)];exact w64 (by omega) (by omega)
theorem bitsI_xor {a b:Nat}(ha:a<2^32)(hb:b<2^32):bitsI .xor .i64 (a:Int) (b:Int)=((a^^^b:Nat):Int):=by
  have h1:a^^^b<2^32:=Nat.xor_lt_two_pow ha hb;show IntKind.i64.wrap (((BitVec.ofInt 64 (a:Int))^^^(BitVec.ofInt 64 (b:Int))).toNat:Int)=_
  rw[BitVec.ofInt_natCast,BitVec.ofInt_natCast,BitVec.toNat_xor,BitVec.toNat_ofNat,BitVec.toNat_ofNat,Nat.mod_eq_of_lt (by omega),Nat.mod_eq_of_lt (by omega)];exact w64 (by omega) (by omega)
theorem emod_64(x:Int)(w:Nat)(hw:w≤64):(x % 18446744073709551616)% (2^w:Nat)=x % (2^w:Nat):=by
  refine Int.emod_emod_of_dvd x ⟨((2^(64-w):Nat):Int),?_⟩;rw[←Int.natCast_mul,←Nat.pow_add,show w+(64-w)=64 by omega];rfl
theorem bitsI_mask(x:Int){w:Nat}(hw:w≤8):bitsI .and .i64 x ((2^w-1:Nat):Int)=x % (2^w:Nat):=by
  have h0:2^w≤2^8:=Nat.pow_le_pow_right (by omega) hw;have h1:0<2^w:=Nat.pow_pos (by omega);have h2:(x % 18446744073709551616).toNat % 2^w<2^w:=Nat.mod_lt _ h1;show IntKind.i64.wrap (((BitVec.ofInt 64 x)&&&(BitVec.ofInt 64 ((2^w-1:Nat):Int))).toNat:Int)=_
  rw[BitVec.ofInt_natCast,BitVec.toNat_and,BitVec.toNat_ofNat,BitVec.toNat_ofInt,Nat.mod_eq_of_lt (a:=2^w-1) (by omega),Nat.and_two_pow_sub_one_eq_mod];rw[show(x % ((2^64:Nat):Int))=x % 18446744073709551616 from rfl,w64 (by omega) (by omega),Int.natCast_emod,Int.toNat_of_nonneg (Int.emod_nonneg _ (by omega)),emod_64 x w (by omega)]
theorem mask_eq {w:Int}(h:1≤w∧w≤8):IntKind.i64.wrap (shlI IntKind.i64 1 w-1)=((2^w.toNat-1:Nat):Int):=by
  rcases w_cases h with rfl|rfl|rfl|rfl|rfl|rfl|rfl|rfl<;>decide
theorem mask_mod {w:Int}(h:1≤w∧w≤8)(x:Int):bitsI .and .i64 x (IntKind.i64.wrap (shlI IntKind.i64 1 w-1))=x % sz w:=by
  rw[mask_eq h,bitsI_mask x (by omega),sz_nat]
def opV(w o a b:Int):Int:=
  if o=3 then sz w-1-a else if o=4 then(sz w-a)% sz w else if o=5 then(a+b)% sz w else if o=6 then(a-b+sz w)% sz w else if o=7 then a*b % sz w
  else if o=8 then a/b else if o=9 then a % b else if o=10 then((a.toNat&&&b.toNat:Nat):Int)else if o=11 then((a.toNat|||b.toNat:Nat):Int)else if o=12 then((a.toNat^^^b.toNat:Nat):Int)
  else if o=13 then a*2^b.toNat % sz w else if o=14 then a/2^b.toNat else if o=15 then(if a=b then 1 else 0)else(if a<b then 1 else 0)
def Vl(w a:Int):Prop:=0≤a∧a<sz w
theorem Vl.nat {w a:Int}(h:Vl w a):∃n:Nat,a=n∧n<2^w.toNat:=by
  obtain⟨h1,h2⟩:=h;rw[sz_nat]at h2;exact⟨a.toNat,by omega,by omega⟩
theorem Vl.mod {w:Int}(h:1≤w∧w≤8)(x:Int):Vl w (x % sz w):=by
  have:=sz_bd h;exact⟨Int.emod_nonneg _ (by omega),Int.emod_lt_of_pos _ (by omega)⟩
theorem shift_zero {w a b:Int}(ha:Vl w a)(hb:w≤b):a*2^b.toNat % sz w=0∧a/2^b.toNat=0:=by
  have e:(2:Int)^b.toNat=sz w*2^(b.toNat-w.toNat):=by
    unfold sz;rw[←Int.pow_add,show w.toNat+(b.toNat-w.toNat)=b.toNat by omega]
  have h1:=pow_one_le (b.toNat-w.toNat);have h2:sz w≤(2:Int)^b.toNat:=by
    rw[e];have:=Int.mul_le_mul_of_nonneg_left h1 (show 0≤sz w by have:=ha.1;have:=ha.2;omega);omega
  refine⟨?_,Int.ediv_eq_zero_of_lt ha.1 (by have:=ha.2;omega)⟩;rw[e,←Int.mul_assoc,Int.mul_comm a,Int.mul_assoc];exact Int.mul_emod_right _ _
theorem opV_vl {w o a b:Int}(h:1≤w∧w≤8)(ha:Vl w a)(hb:Vl w b):Vl w (opV w o a b):=by
  have hs:=sz_bd h;obtain⟨n,rfl,hn⟩:=ha.nat;obtain⟨m,rfl,hm⟩:=hb.nat;have h1:=ha.2;have h2:=hb.2;have V:∀x:Nat,x<2^w.toNat→Vl w (x:Int):=fun x hx=>⟨by omega,by rw[sz_nat];omega⟩
  unfold opV;by_cases c:o=3
  . rw[if_pos c];exact⟨by omega,by omega⟩
  rw[if_neg c];by_cases c:o=4
  . rw[if_pos c];exact .mod h _
  rw[if_neg c];by_cases c:o=5
  . rw[if_pos c];exact .mod h _
  rw[if_neg c];by_cases c:o=6
  . rw[if_pos c];exact .mod h _
  rw[if_neg c];by_cases c:o=7
  . rw[if_pos c];exact .mod h _
  rw[if_neg c];by_cases c:o=8
  . rw[if_pos c];exact⟨Int.ediv_nonneg (by omega) (by omega),Int.lt_of_le_of_lt (Int.ediv_le_self _ (by omega)) h1⟩
  rw[if_neg c];by_cases c:o=9
  . rw[if_pos c];rcases Nat.eq_zero_or_pos m with rfl|hm0
    . rw[show((0:Nat):Int)=0 from rfl,Int.emod_zero];exact ha
    . have:=Int.emod_lt_of_pos (n:Int) (show(0:Int)<m by omega);exact⟨Int.emod_nonneg _ (by omega),by omega⟩
  rw[if_neg c];by_cases c:o=10
  . rw[if_pos c,zt,zt];exact V _ (Nat.and_lt_two_pow n hm)
  rw[if_neg c];by_cases c:o=11
  . rw[if_pos c,zt,zt];exact V _ (Nat.or_lt_two_pow hn hm)
  rw[if_neg c];by_cases c:o=12
  . rw[if_pos c,zt,zt];exact V _ (Nat.xor_lt_two_pow hn hm)
  rw[if_neg c];by_cases c:o=13
  . rw[if_pos c];exact .mod h _
  rw[if_neg c];by_cases c:o=14
  . rw[if_pos c];have:=pow_one_le (m:Int).toNat;exact⟨Int.ediv_nonneg (by omega) (by omega),Int.lt_of_le_of_lt (Int.ediv_le_self _ (by omega)) h1⟩
  rw[if_neg c];by_cases c:o=15
  . rw[if_pos c];by_cases e:(n:Int)=m
    . rw[if_pos e];exact⟨by omega,by omega⟩
    . rw[if_neg e];exact⟨by omega,by omega⟩
  rw[if_neg c];by_cases e:(n:Int)<m
  . rw[if_pos e];exact⟨by omega,by omega⟩
  . rw[if_neg e];exact⟨by omega,by omega⟩
theorem truth_ans(x:Bool):Ans n_impl_truth s_impl_truth (x,()) ((bif x then 1 else 0,()),()):=by
  refine Gv.ans (Gv.of (fun k=>impl_truth.F_eq (cl k) k x) ?_);unfold impl_truth.F impl_truth.Fm;cases x<;>exact Tq.ret rfl
theorem bit_ans(x:Bool):Ans n_spec_l5Bit s_spec_l5Bit (x,()) ((bif x then 1 else 0,()),()):=by
  refine Gv.ans (Gv.of (fun k=>spec_l5Bit.F_eq (cl k) k x) ?_);unfold spec_l5Bit.F spec_l5Bit.Fm;cases x<;>exact Tq.ret rfl
theorem bif_eq(a b:Int):(bif a==b then(1:Int)else 0)=if a=b then 1 else 0:=by
  by_cases h:a=b
  . rw[if_pos h,beq_iff_eq.2 h];rfl
  . rw[if_neg h,beq_eq_false_iff_ne.2 h];rfl
theorem bif_lt(a b:Int):(bif decide (a<b)then(1:Int)else 0)=if a<b then 1 else 0:=by
  by_cases h:a<b
  . rw[if_pos h,decide_eq_true h];rfl
  . rw[if_neg h,decide_eq_false h];rfl
theorem join_ans {w o a b:Int}(h:1≤w∧w≤8)(ha:Vl w a)(hb:Vl w b)(ho:5≤o∧o≤16)(hd:o=8∨o=9→b≠0):Ans n_impl_join s_impl_join (w,o,a,b,()) ((opV w o a b,()),()):=by
  have hs:=sz_bd h;have h32:2^w.toNat≤2^8:=Nat.pow_le_pow_right (by omega) (by omega);have n1:=ha.nat;have n2:=hb.nat;obtain⟨a1,a2⟩:=ha;obtain⟨b1,b2⟩:=hb;have hm:0≤a*b∧a*b≤65536:=by
    have x1:=Int.mul_nonneg a1 b1;have x2:=Int.mul_le_mul (show a≤256 by omega) (show b≤256 by omega) b1 (by omega);omega
  refine Gv.ans (Gv.of (fun k=>impl_join.F_eq (cl k) k w o a b) ?_);unfold impl_join.F impl_join.Fm;simp only[mask_mod h];rcases(by omega:o=5∨o=6∨o=7∨o=8∨o=9∨o=10∨o=11∨o=12∨o=13∨o=14∨o=15∨o=16)with rfl|rfl|rfl|rfl|rfl|rfl|rfl|rfl|rfl|rfl|rfl|rfl
  . repeat'((first|refine .t ?_|refine .u ?_|refine .some lg0 ?_|refine .some lg ?_|refine .some lgI ?_|(refine .bif (fun zz=>?_) (fun zz=>?_)<;>try simp(disch:=omega)only[zs,w64,zt]at zz))<;>try dsimp only)
    refine Tq.ret (ret1 ?_);show _=(a+b)% sz w
    simp(disch:=omega)only[w64]
  . repeat'((first|refine .t ?_|refine .u ?_|refine .some lg0 ?_|refine .some lg ?_|refine .some lgI ?_|(refine .bif (fun zz=>?_) (fun zz=>?_)<;>try simp(disch:=omega)only[zs,w64,zt]at zz))<;>try dsimp only)
    refine Tq.ret (ret1 ?_);show _=(a-b+sz w)% sz w
    rw[w64 (by omega) (by omega)];exact(Int.add_emod_right _ _).symm
  . repeat'((first|refine .t ?_|refine .u ?_|refine .some lg0 ?_|refine .some lg ?_|refine .some lgI ?_|(refine .bif (fun zz=>?_) (fun zz=>?_)<;>try simp(disch:=omega)only[zs,w64,zt]at zz))<;>try dsimp only)
    refine Tq.ret (ret1 ?_);show _=a*b % sz w
    rw[w64 (by omega) (by omega)]
  . repeat'((first|refine .t ?_|refine .u ?_|refine .some lg0 ?_|refine .some lg ?_|refine .some lgI ?_|(refine .bif (fun zz=>?_) (fun zz=>?_)<;>try simp(disch:=omega)only[zs,w64,zt]at zz))<;>try dsimp only)
    refine Tq.ret (ret1 ?_);have:=Int.ediv_nonneg a1 b1;have:=Int.ediv_le_self b a1;rw[Int.tdiv_eq_ediv_of_nonneg a1,w64 (by omega) (by omega)];rfl
  . repeat'((first|refine .t ?_|refine .u ?_|refine .some lg0 ?_|refine .some lg ?_|refine .some lgI ?_|(refine .bif (fun zz=>?_) (fun zz=>?_)<;>try simp(disch:=omega)only[zs,w64,zt]at zz))<;>try dsimp only)
    refine Tq.ret (ret1 ?_);rw[Int.tmod_eq_emod_of_nonneg a1];rfl
  . repeat'((first|refine .t ?_|refine .u ?_|refine .some lg0 ?_|refine .some lg ?_|refine .some lgI ?_|(refine .bif (fun zz=>?_) (fun zz=>?_)<;>try simp(disch:=omega)only[zs,w64,zt]at zz))<;>try dsimp only)
    refine Tq.ret (ret1 ?_);obtain⟨n,rfl,hn⟩:=n1;obtain⟨m,rfl,hm⟩:=n2;rw[bitsI_and (by omega) (by omega)];rfl
  . repeat'((first|refine .t ?_|refine .u ?_|refine .some lg0 ?_|refine .some lg ?_|refine .some lgI ?_|(refine .bif (fun zz=>?_) (fun zz=>?_)<;>try simp(disch:=omega)only[zs,w64,zt]at zz))<;>try dsimp only)
    refine Tq.ret (ret1 ?_);obtain⟨n,rfl,hn⟩:=n1;obtain⟨m,rfl,hm⟩:=n2;rw[bitsI_orN (by omega) (by omega)];rfl
  . repeat'((first|refine .t ?_|refine .u ?_|refine .some lg0 ?_|refine .some lg ?_|refine .some lgI ?_|(refine .bif (fun zz=>?_) (fun zz=>?_)<;>try simp(disch:=omega)only[zs,w64,zt]at zz))<;>try dsimp only)
    refine Tq.ret (ret1 ?_);obtain⟨n,rfl,hn⟩:=n1;obtain⟨m,rfl,hm⟩:=n2;rw[bitsI_xor (by omega) (by omega)];rfl
  . repeat'((first|refine .t ?_|refine .u ?_|refine .some lg0 ?_|refine .some lg ?_|refine .some lgI ?_|(refine .bif (fun zz=>?_) (fun zz=>?_)<;>try simp(disch:=omega)only[zs,w64,zt]at zz))<;>try dsimp only)
    . refine Tq.ret (ret1 ?_);exact(shift_zero ⟨a1,a2⟩ (by omega)).1.symm
    . refine Tq.ret (ret1 ?_);have hp:(2:Int)^b.toNat≤256:=by
        rcases(by omega:b.toNat=0∨b.toNat=1∨b.toNat=2∨b.toNat=3∨b.toNat=4∨b.toNat=5∨b.toNat=6∨b.toNat=7)with e|e|e|e|e|e|e|e<;>rw[e]<;>decide
      have hq:=pow_one_le b.toNat;have x1:=Int.mul_nonneg a1 (show 0≤(2:Int)^b.toNat by omega);have x2:=Int.mul_le_mul (show a≤256 by omega) hp (by omega) (by omega);unfold shlI;rw[show min b.toNat IntKind.i64.bits=b.toNat from Nat.min_eq_left (by show b.toNat≤64;omega),w64 (by omega) (by omega)];rfl
  . repeat'((first|refine .t ?_|refine .u ?_|refine .some lg0 ?_|refine .some lg ?_|refine .some lgI ?_|(refine .bif (fun zz=>?_) (fun zz=>?_)<;>try simp(disch:=omega)only[zs,w64,zt]at zz))<;>try dsimp only)
    . refine Tq.ret (ret1 ?_);exact(shift_zero ⟨a1,a2⟩ (by omega)).2.symm
    . refine Tq.ret (ret1 ?_);have hq:=pow_one_le b.toNat;unfold shrI;rw[show min b.toNat IntKind.i64.bits=b.toNat from Nat.min_eq_left (by show b.toNat≤64;omega),Int.fdiv_eq_ediv_of_nonneg _ (by omega)];rfl
  . repeat'((first|refine .ba (truth_ans _) ?_|refine .t ?_|refine .u ?_|refine .some lg0 ?_|refine .some lg ?_|refine .some lgI ?_|(refine .bif (fun zz=>?_) (fun zz=>?_)<;>try simp(disch:=omega)only[zs,w64,zt]at zz))<;>try dsimp only)
    exact Tq.ret (ret1 (bif_eq a b))
  . repeat'((first|refine .ba (truth_ans _) ?_|refine .t ?_|refine .u ?_|refine .some lg0 ?_|refine .some lg ?_|refine .some lgI ?_|(refine .bif (fun zz=>?_) (fun zz=>?_)<;>try simp(disch:=omega)only[zs,w64,zt]at zz))<;>try dsimp only)
    exact Tq.ret (ret1 (bif_lt a b))
theorem turn_ans {w o a:Int}(h:1≤w∧w≤8)(ha:Vl w a)(ho:o=3∨o=4):Ans n_impl_turn s_impl_turn (w,o,a,()) ((opV w o a 0,()),()):=by
  have hs:=sz_bd h;obtain⟨a1,a2⟩:=ha;refine Gv.ans (Gv.of (fun k=>impl_turn.F_eq (cl k) k w o a) ?_);unfold impl_turn.F impl_turn.Fm;simp only[mask_mod h];rcases ho with rfl|rfl
  . repeat'((first|refine .t ?_|refine .u ?_|refine .some lg0 ?_|refine .some lg ?_|refine .some lgI ?_|(refine .bif (fun zz=>?_) (fun zz=>?_)<;>try simp(disch:=omega)only[zs,w64,zt]at zz))<;>try dsimp only)
    refine Tq.ret (ret1 ?_);have e:bitsI BinOp.xor IntKind.i64 (if IntKind.i64.signed=true then -1 else IntKind.i64.max) a= -1-a:=by
      obtain⟨n,rfl⟩:∃n:Nat,a=n:=⟨a.toNat,by omega⟩
      show IntKind.i64.wrap (((BitVec.ofInt 64 (-1))^^^(BitVec.ofInt 64 (n:Int))).toNat:Int)=_
      rw[show BitVec.ofInt 64 (-1)=BitVec.allOnes 64 from rfl,BitVec.allOnes_xor,BitVec.ofInt_natCast,BitVec.toNat_not,BitVec.toNat_ofNat,Nat.mod_eq_of_lt (by omega)];rw[show((2^64-1-n:Nat):Int)= -1-n+18446744073709551616 by omega];simp only[IntKind.wrap,IntKind.bits,IntKind.signed,Bool.true_and];split
      . omega
      . rename_i h;have h:¬((-1-(n:Int)+18446744073709551616)% 2^64≥2^(64-1)):=fun e=>h (decide_eq_true e)
        omega
    rw[e];show(-1-a)% sz w=sz w-1-a
    rw[←Int.add_emod_right,Int.emod_eq_of_lt (by omega) (by omega)];omega
  . repeat'((first|refine .t ?_|refine .u ?_|refine .some lg0 ?_|refine .some lg ?_|refine .some lgI ?_|(refine .bif (fun zz=>?_) (fun zz=>?_)<;>try simp(disch:=omega)only[zs,w64,zt]at zz))<;>try dsimp only)
    refine Tq.ret (ret1 ?_);rw[w64 (by omega) (by omega)];show(0-a)% sz w=(sz w-a)% sz w
    rw[←Int.add_emod_right,show 0-a+sz w=sz w-a by omega]
def bz(f:Nat→Nat→Nat):Nat→Nat→Nat→Nat
  |0,_,_=>0
  |n+1,a,b=>f (a % 2) (b % 2)+2*bz f n (a/2) (b/2)
theorem bz_and:∀(n a b:Nat),a<2^n→b<2^n→bz (· * ·) n a b=a&&&b
  | 0,a,b,ha,hb=>by
    obtain rfl:a=0:=by omega
    exact(Nat.zero_and b).symm
  | n +1,a,b,ha,hb=>by
    rw[Nat.pow_succ]at ha hb;rw[bz,bz_and n _ _ (by omega) (by omega),←Nat.and_div_two];have:a % 2*(b % 2)=(a&&&b)% 2:=by
      have e:=Nat.and_mod_two_pow (a:=a) (b:=b) (n:=1);rw[Nat.pow_one]at e;rw[e];rcases Nat.mod_two_eq_zero_or_one a with h1|h1<;>rcases Nat.mod_two_eq_zero_or_one b with h2|h2<;>rw[h1,h2]<;>rfl
    omega
theorem bz_or:∀(n a b:Nat),a<2^n→b<2^n→bz max n a b=a|||b
  | 0,a,b,ha,hb=>by
    obtain rfl:a=0:=by omega
    obtain rfl:b=0:=by omega
    rfl
  | n +1,a,b,ha,hb=>by
    rw[Nat.pow_succ]at ha hb;rw[bz,bz_or n _ _ (by omega) (by omega),←Nat.or_div_two];have:max (a % 2) (b % 2)=(a|||b)% 2:=by
      have e:=Nat.or_mod_two_pow (a:=a) (b:=b) (n:=1);rw[Nat.pow_one]at e;rw[e];rcases Nat.mod_two_eq_zero_or_one a with h1|h1<;>rcases Nat.mod_two_eq_zero_or_one b with h2|h2<;>rw[h1,h2]<;>rfl
    omega
theorem bz_xor:∀(n a b:Nat),a<2^n→b<2^n→bz (fun x y=>(x+y)% 2) n a b=a^^^b
  | 0,a,b,ha,hb=>by
    obtain rfl:a=0:=by omega
    obtain rfl:b=0:=by omega
    rfl
  | n +1,a,b,ha,hb=>by
    rw[Nat.pow_succ]at ha hb;rw[bz,bz_xor n _ _ (by omega) (by omega),←Nat.xor_div_two];have:(a % 2+b % 2)% 2=(a^^^b)% 2:=by
      have e:=Nat.xor_mod_two_pow (a:=a) (b:=b) (n:=1);rw[Nat.pow_one]at e;rw[e];rcases Nat.mod_two_eq_zero_or_one a with h1|h1<;>rcases Nat.mod_two_eq_zero_or_one b with h2|h2<;>rw[h1,h2]<;>rfl
    omega
def zf(h:Int)(x y:Nat):Nat:=if h=1 then max x y else if h=2 then(x+y)% 2 else x*y
theorem tdm(a i:Nat)(ha:a<2^8):(IntKind.i64.wrap (Int.tdiv (a:Int) ((2:Int)^i))).tmod 2=((a/2^i % 2:Nat):Int):=by
  have l1:=Nat.div_le_self a (2^i);have pc:(2:Int)^i=((2^i:Nat):Int):=by rw[Int.natCast_pow];rfl
  rw[Int.tdiv_eq_ediv_of_nonneg (by omega),pc,←Int.natCast_ediv];generalize a/2^i=x at*;rw[w64 (by omega) (by omega),Int.tmod_eq_emod_of_nonneg (by omega)];omega
theorem bits_loop {w:Int}(hw:1≤w∧w≤8){a b:Nat}(ha:a<2^w.toNat)(hb:b<2^w.toNat){how:Int}(hh:how=0∨how=1∨how=2):∀(d i:Nat)(n:Nat),w.toNat-i=d→i≤w.toNat→n<2^i→
    Tq (d+1) (fun k q=>spec_l5Bits.L0 (cl k) k (sz w) a b how q (n:Int) ((2:Int)^i)) (· =((((n+2^i*bz (zf how) d (a/2^i) (b/2^i):Nat):Int),()),())):=by
  have h8:2^w.toNat≤2^8:=Nat.pow_le_pow_right (by omega) (by omega);have hc:=sz_nat w;intro d
  induction d with
  | zero=>
    intro i n hd hi hn;obtain rfl:i=w.toNat:=by omega
    refine Tq.succ ?_;show Tq _ (fun k q=>spec_l5Bits.step0 (cl k) k ..) _
    unfold spec_l5Bits.step0;refine Tq.bf (decide_eq_false (by unfold sz;omega)) (Tq.ret ?_);rw[show bz (zf how) 0 (a/2^w.toNat) (b/2^w.toNat)=0 from rfl,Nat.mul_zero,Nat.add_zero]
  | succ d ih=>
    intro i n hd hi hn;have hi:i<w.toNat:=by omega
    have p1:2^(i+1)≤2^w.toNat:=Nat.pow_le_pow_right (by omega) hi;have p0:0<2^i:=Nat.pow_pos (by omega);have p2:=Nat.pow_succ (n:=2) (m:=i);have pc:(2:Int)^i=((2^i:Nat):Int):=by rw[Int.natCast_pow];rfl
    have e1:=tdm a i (by omega);have e2:=tdm b i (by omega);refine Tq.succ ?_;show Tq _ (fun k q=>spec_l5Bits.step0 (cl k) k ..) _
    unfold spec_l5Bits.step0;rw[e1,e2];have z1:=Nat.mod_lt (a/2^i) (show 0<2 by omega);have z2:=Nat.mod_lt (b/2^i) (show 0<2 by omega);have key:∀z:Nat,z=zf how (a/2^i % 2) (b/2^i % 2)→z<2→
        Tq (d+1) (fun k q=>spec_l5Bits.L0 (cl k) k (sz w) a b how q (IntKind.i64.wrap ((n:Int)+IntKind.i64.wrap ((z:Int)*(2:Int)^i))) (IntKind.i64.wrap ((2:Int)^i*2))) (· =((((n+2^i*bz (zf how) (d+1) (a/2^i) (b/2^i):Nat):Int),()),())):=by
      intro z hz hz2;have zz:z*2^i≤2^i:=by
        rcases(by omega:z=0∨z=1)with rfl|rfl<;>omega
      rw[pc,←Int.natCast_mul,w64 (x:=((z*2^i:Nat):Int)) (by omega) (by omega),w64 (by omega) (by omega),w64 (by omega) (by omega)];rw[show((n:Int)+((z*2^i:Nat):Int))=((n+z*2^i:Nat):Int) by omega,show((2^i:Nat):Int)*2=(2:Int)^(i+1) by rw[Int.pow_succ,pc]];have:=ih (i+1) (n+z*2^i) (by omega) (by omega) (by omega);rw[Nat.pow_succ,←Nat.div_div_eq_div_mul,←Nat.div_div_eq_div_mul]at this;rw[show bz (zf how) (d+1) (a/2^i) (b/2^i)=zf how (a/2^i % 2) (b/2^i % 2)+2*bz (zf how) d (a/2^i/2) (b/2^i/2)from rfl,←hz,Nat.mul_add,←Nat.add_assoc,Nat.mul_comm (2^i) z,←Nat.mul_assoc];exact this
    rcases hh with rfl|rfl|rfl
    . repeat'((first|refine .t ?_|refine .u ?_|refine .some lg0 ?_|refine .some lg ?_|refine .some lgI ?_|(refine .bif (fun zz=>?_) (fun zz=>?_)<;>try simp(disch:=omega)only[zs,w64,zt]at zz))<;>try dsimp only)
      have m1:0≤((a/2^i % 2*(b/2^i % 2):Nat):Int):=by omega
      have m2:a/2^i % 2*(b/2^i % 2)<2:=by
        rcases Nat.mod_two_eq_zero_or_one (a/2^i)with h1|h1<;>rcases Nat.mod_two_eq_zero_or_one (b/2^i)with h2|h2<;>rw[h1,h2]<;>decide
      rw[←Int.natCast_mul,w64 (x:=((a/2^i % 2*(b/2^i % 2):Nat):Int)) (by omega) (by omega)];exact key _ rfl m2
    . repeat'((first|refine .ba (l1Max_ans _ _) ?_|refine .t ?_|refine .u ?_|refine .some lg0 ?_|refine .some lg ?_|refine .some lgI ?_|(refine .bif (fun zz=>?_) (fun zz=>?_)<;>try simp(disch:=omega)only[zs,w64,zt]at zz))<;>try dsimp only)
      rw[show max ((a/2^i % 2:Nat):Int) ((b/2^i % 2:Nat):Int)=((max (a/2^i % 2) (b/2^i % 2):Nat):Int) by omega];exact key _ rfl (by omega)
    . repeat'((first|refine .t ?_|refine .u ?_|refine .some lg0 ?_|refine .some lg ?_|refine .some lgI ?_|(refine .bif (fun zz=>?_) (fun zz=>?_)<;>try simp(disch:=omega)only[zs,w64,zt]at zz))<;>try dsimp only)
      rw[w64 (x:=((a/2^i % 2:Nat):Int)+((b/2^i % 2:Nat):Int)) (by omega) (by omega),Int.tmod_eq_emod_of_nonneg (by omega),show(((a/2^i % 2:Nat):Int)+((b/2^i % 2:Nat):Int))% 2=(((a/2^i % 2+b/2^i % 2)% 2:Nat):Int) by omega];exact key _ rfl (by omega)
theorem bits_ans {w:Int}(hw:1≤w∧w≤8){a b:Int}(ha:Vl w a)(hb:Vl w b){how:Int}(hh:how=0∨how=1∨how=2):
    Ans n_spec_l5Bits s_spec_l5Bits (sz w,a,b,how,()) ((((bz (zf how) w.toNat a.toNat b.toNat:Nat):Int),()),()):=by
  obtain⟨n,rfl,hn⟩:=ha.nat;obtain⟨m,rfl,hm⟩:=hb.nat;refine Gv.ans (Gv.of (fun k=>spec_l5Bits.F_eq (cl k) k (sz w) n m how) ?_);unfold spec_l5Bits.F spec_l5Bits.Fm;have:=bits_loop hw hn hm hh w.toNat 0 0 rfl (by omega) (by omega);rw[Nat.pow_zero,Nat.div_one,Nat.div_one,Nat.one_mul,Nat.zero_add]at this;exact Tq.diag this
theorem up_loop {w:Int}(hw:1≤w∧w≤8):∀(j:Nat)(a:Int),j≤1000→Vl w a→Tq (j+1) (fun k q=>spec_l5Shift.L0 (cl k) k (sz w) true q a (j:Int)) (· =((a*2^j % sz w,()),())):=by
  have hs:=sz_bd hw;intro j
  induction j with
  | zero=>
    intro a hj ha;refine Tq.succ ?_;show Tq _ (fun k q=>spec_l5Shift.step0 (cl k) k ..) _
    unfold spec_l5Shift.step0
    repeat'((first|refine .t ?_|refine .u ?_|refine .some lg0 ?_|refine .some lg ?_|refine .some lgI ?_|(refine .bif (fun zz=>?_) (fun zz=>?_)<;>try simp(disch:=omega)only[zs,w64,zt]at zz))<;>try dsimp only)
    refine Tq.ret (ret1 ?_);rw[Int.pow_zero,Int.mul_one,Int.emod_eq_of_lt ha.1 ha.2]
  | succ j ih=>
    intro a hj ha;have h1:=ha.1;have h2:=ha.2;refine Tq.succ ?_;show Tq _ (fun k q=>spec_l5Shift.step0 (cl k) k ..) _
    unfold spec_l5Shift.step0
    repeat'((first|refine .t ?_|refine .u ?_|refine .some lg0 ?_|refine .some lg ?_|refine .some lgI ?_|(refine .bif (fun zz=>?_) (fun zz=>?_)<;>try simp(disch:=omega)only[zs,w64,zt]at zz))<;>try dsimp only)
    . rw[w64 (x:=a*2) (by omega) (by omega),Int.tmod_eq_emod_of_nonneg (by omega),w64 (by omega) (by omega),show((j+1:Nat):Int)-1=(j:Int) by omega];have:=ih (a*2 % sz w) (by omega) (.mod hw _);rw[show a*2^(j+1)% sz w=a*2 % sz w*2^j % sz w by rw[Int.pow_succ,Int.mul_comm (2^j) 2,←Int.mul_assoc,Int.mul_emod (a*2 % sz w),Int.emod_emod,←Int.mul_emod]];exact this
    . refine Tq.ret (ret1 ?_);obtain rfl:a=0:=by omega
      rw[Int.zero_mul,Int.zero_emod]
theorem down_loop {w:Int}:∀(j:Nat)(a:Int),j≤1000→0≤a∧a≤256→Tq (j+1) (fun k q=>spec_l5Shift.L0 (cl k) k (sz w) false q a (j:Int)) (· =((a/2^j,()),())):=by
  intro j
  induction j with
  | zero=>
    intro a hj ha;refine Tq.succ ?_;show Tq _ (fun k q=>spec_l5Shift.step0 (cl k) k ..) _
    unfold spec_l5Shift.step0
    repeat'((first|refine .t ?_|refine .u ?_|refine .some lg0 ?_|refine .some lg ?_|refine .some lgI ?_|(refine .bif (fun zz=>?_) (fun zz=>?_)<;>try simp(disch:=omega)only[zs,w64,zt]at zz))<;>try dsimp only)
    exact Tq.ret (ret1 (by rw[Int.pow_zero,Int.ediv_one]))
  | succ j ih=>
    intro a hj ha;refine Tq.succ ?_;show Tq _ (fun k q=>spec_l5Shift.step0 (cl k) k ..) _
    unfold spec_l5Shift.step0
    repeat'((first|refine .t ?_|refine .u ?_|refine .some lg0 ?_|refine .some lg ?_|refine .some lgI ?_|(refine .bif (fun zz=>?_) (fun zz=>?_)<;>try simp(disch:=omega)only[zs,w64,zt]at zz))<;>try dsimp only)
    . rw[Int.tdiv_eq_ediv_of_nonneg ha.1,w64 (x:=a/2) (by omega) (by omega),w64 (by omega) (by omega),show((j+1:Nat):Int)-1=(j:Int) by omega];have:=ih (a/2) (by omega) (by omega);rw[show a/2^(j+1)=a/2/2^j by rw[Int.pow_succ,Int.mul_comm (2^j) 2,Int.ediv_ediv,if_neg (by omega),Int.sub_zero]];exact this
    . refine Tq.ret (ret1 ?_);obtain rfl:a=0:=by omega
      rw[Int.zero_ediv]
theorem up_ans {w:Int}(hw:1≤w∧w≤8){a b:Int}(ha:Vl w a)(hb:Vl w b):Ans n_spec_l5Shift s_spec_l5Shift (sz w,a,b,true,()) ((a*2^b.toNat % sz w,()),()):=by
  have hs:=sz_bd hw;obtain⟨m,rfl,hm⟩:=hb.nat;have:=hb.2;refine Gv.ans (Gv.of (fun k=>spec_l5Shift.F_eq (cl k) k (sz w) a m true) ?_);unfold spec_l5Shift.F spec_l5Shift.Fm;exact Tq.diag (up_loop hw m a (by omega) ha)
theorem down_ans {w:Int}(hw:1≤w∧w≤8){a b:Int}(ha:Vl w a)(hb:Vl w b):Ans n_spec_l5Shift s_spec_l5Shift (sz w,a,b,false,()) ((a/2^b.toNat,()),()):=by
  have hs:=sz_bd hw;have h1:=ha.1;have h2:=ha.2;obtain⟨m,rfl,hm⟩:=hb.nat;have:=hb.2;refine Gv.ans (Gv.of (fun k=>spec_l5Shift.F_eq (cl k) k (sz w) a m false) ?_);unfold spec_l5Shift.F spec_l5Shift.Fm;exact Tq.diag (down_loop m a (by omega) (by omega))
theorem opS_ans {w o a b:Int}(h:1≤w∧w≤8)(ha:Vl w a)(hb:Vl w b)(ho:3≤o∧o≤16):Ans n_spec_l5Op s_spec_l5Op (sz w,o,a,b,()) ((if(o=8∨o=9)∧b=0 then 0 else opV w o a b,()),()):=by
  have hs:=sz_bd h;have n1:=ha.nat;have n2:=hb.nat;have c10:=bits_ans h ha hb (how:=0) (by omega);have c11:=bits_ans h ha hb (how:=1) (by omega);have c12:=bits_ans h ha hb (how:=2) (by omega);have c13:=up_ans h ha hb;have c14:=down_ans h ha hb;obtain⟨a1,a2⟩:=ha;obtain⟨b1,b2⟩:=hb;have hm:0≤a*b∧a*b≤65536:=by
    have x1:=Int.mul_nonneg a1 b1;have x2:=Int.mul_le_mul (show a≤256 by omega) (show b≤256 by omega) b1 (by omega);omega
  refine Gv.ans (Gv.of (fun k=>spec_l5Op.F_eq (cl k) k (sz w) o a b) ?_);unfold spec_l5Op.F spec_l5Op.Fm;rcases(by omega:o=3∨o=4∨o=5∨o=6∨o=7∨o=8∨o=9∨o=10∨o=11∨o=12∨o=13∨o=14∨o=15∨o=16)with rfl|rfl|rfl|rfl|rfl|rfl|rfl|rfl|rfl|rfl|rfl|rfl|rfl|rfl
  . repeat'((first|refine .t ?_|refine .u ?_|refine .some lg0 ?_|refine .some lg ?_|refine .some lgI ?_|(refine .bif (fun zz=>?_) (fun zz=>?_)<;>try simp(disch:=omega)only[zs,w64,zt]at zz))<;>try dsimp only)
    refine Tq.ret (ret1 ?_);rw[if_neg (by omega)];show _=sz w-1-a
    rw[w64 (x:=sz w-1) (by omega) (by omega),w64 (by omega) (by omega)]
  . repeat'((first|refine .t ?_|refine .u ?_|refine .some lg0 ?_|refine .some lg ?_|refine .some lgI ?_|(refine .bif (fun zz=>?_) (fun zz=>?_)<;>try simp(disch:=omega)only[zs,w64,zt]at zz))<;>try dsimp only)
    refine Tq.ret (ret1 ?_);rw[if_neg (by omega)];show _=(sz w-a)% sz w
    rw[w64 (by omega) (by omega),Int.tmod_eq_emod_of_nonneg (by omega)]
  . repeat'((first|refine .t ?_|refine .u ?_|refine .some lg0 ?_|refine .some lg ?_|refine .some lgI ?_|(refine .bif (fun zz=>?_) (fun zz=>?_)<;>try simp(disch:=omega)only[zs,w64,zt]at zz))<;>try dsimp only)
    refine Tq.ret (ret1 ?_);rw[if_neg (by omega)];show _=(a+b)% sz w
    rw[w64 (by omega) (by omega),Int.tmod_eq_emod_of_nonneg (by omega)]
  . repeat'((first|refine .t ?_|refine .u ?_|refine .some lg0 ?_|refine .some lg ?_|refine .some lgI ?_|(refine .bif (fun zz=>?_) (fun zz=>?_)<;>try simp(disch:=omega)only[zs,w64,zt]at zz))<;>try dsimp only)
    refine Tq.ret (ret1 ?_);rw[if_neg (by omega)];show _=(a-b+sz w)% sz w
    rw[w64 (x:=a-b) (by omega) (by omega),w64 (by omega) (by omega),Int.tmod_eq_emod_of_nonneg (by omega)]
  . repeat'((first|refine .t ?_|refine .u ?_|refine .some lg0 ?_|refine .some lg ?_|refine .some lgI ?_|(refine .bif (fun zz=>?_) (fun zz=>?_)<;>try simp(disch:=omega)only[zs,w64,zt]at zz))<;>try dsimp only)
    refine Tq.ret (ret1 ?_);rw[if_neg (by omega)];show _=a*b % sz w
    rw[w64 (by omega) (by omega),Int.tmod_eq_emod_of_nonneg (by omega)]
  . repeat'((first|refine .t ?_|refine .u ?_|refine .some lg0 ?_|refine .some lg ?_|refine .some lgI ?_|(refine .bif (fun zz=>?_) (fun zz=>?_)<;>try simp(disch:=omega)only[zs,w64,zt]at zz))<;>try dsimp only)
    . refine Tq.ret (ret1 ?_);rw[if_pos ⟨.inl rfl,by assumption⟩]
    . refine Tq.ret (ret1 ?_);have:=Int.ediv_nonneg a1 b1;have:=Int.ediv_le_self b a1;rw[if_neg (fun e=>absurd e.2 (by assumption)),Int.tdiv_eq_ediv_of_nonneg a1,w64 (by omega) (by omega)];rfl
  . repeat'((first|refine .t ?_|refine .u ?_|refine .some lg0 ?_|refine .some lg ?_|refine .some lgI ?_|(refine .bif (fun zz=>?_) (fun zz=>?_)<;>try simp(disch:=omega)only[zs,w64,zt]at zz))<;>try dsimp only)
    . refine Tq.ret (ret1 ?_);rw[if_pos ⟨.inr rfl,by assumption⟩]
    . refine Tq.ret (ret1 ?_);rw[if_neg (fun e=>absurd e.2 (by assumption)),Int.tmod_eq_emod_of_nonneg a1];rfl
  . repeat'((first|refine .ba c10 ?_|refine .t ?_|refine .u ?_|refine .some lg0 ?_|refine .some lg ?_|refine .some lgI ?_|(refine .bif (fun zz=>?_) (fun zz=>?_)<;>try simp(disch:=omega)only[zs,w64,zt]at zz))<;>try dsimp only)
    refine Tq.ret (ret1 ?_);obtain⟨n,rfl,hn⟩:=n1;obtain⟨m,rfl,hm2⟩:=n2;rw[if_neg (by omega),zt,zt,show zf 0=(· * ·)from rfl,bz_and _ _ _ hn hm2];rfl
  . repeat'((first|refine .ba c11 ?_|refine .t ?_|refine .u ?_|refine .some lg0 ?_|refine .some lg ?_|refine .some lgI ?_|(refine .bif (fun zz=>?_) (fun zz=>?_)<;>try simp(disch:=omega)only[zs,w64,zt]at zz))<;>try dsimp only)
    refine Tq.ret (ret1 ?_);obtain⟨n,rfl,hn⟩:=n1;obtain⟨m,rfl,hm2⟩:=n2;rw[if_neg (by omega),zt,zt,show zf 1=max from rfl,bz_or _ _ _ hn hm2];rfl
  . repeat'((first|refine .ba c12 ?_|refine .t ?_|refine .u ?_|refine .some lg0 ?_|refine .some lg ?_|refine .some lgI ?_|(refine .bif (fun zz=>?_) (fun zz=>?_)<;>try simp(disch:=omega)only[zs,w64,zt]at zz))<;>try dsimp only)
    refine Tq.ret (ret1 ?_);obtain⟨n,rfl,hn⟩:=n1;obtain⟨m,rfl,hm2⟩:=n2;rw[if_neg (by omega),zt,zt,show zf 2=(fun x y=>(x+y)% 2)from rfl,bz_xor _ _ _ hn hm2];rfl
  . repeat'((first|refine .ba c13 ?_|refine .t ?_|refine .u ?_|refine .some lg0 ?_|refine .some lg ?_|refine .some lgI ?_|(refine .bif (fun zz=>?_) (fun zz=>?_)<;>try simp(disch:=omega)only[zs,w64,zt]at zz))<;>try dsimp only)
    refine Tq.ret (ret1 ?_);rw[if_neg (by omega)];rfl
  . repeat'((first|refine .ba c14 ?_|refine .t ?_|refine .u ?_|refine .some lg0 ?_|refine .some lg ?_|refine .some lgI ?_|(refine .bif (fun zz=>?_) (fun zz=>?_)<;>try simp(disch:=omega)only[zs,w64,zt]at zz))<;>try dsimp only)
    refine Tq.ret (ret1 ?_);rw[if_neg (by omega)];rfl
  . repeat'((first|refine .ba (bit_ans _) ?_|refine .t ?_|refine .u ?_|refine .some lg0 ?_|refine .some lg ?_|refine .some lgI ?_|(refine .bif (fun zz=>?_) (fun zz=>?_)<;>try simp(disch:=omega)only[zs,w64,zt]at zz))<;>try dsimp only)
    refine Tq.ret (ret1 ?_);rw[if_neg (by omega)];exact bif_eq a b
  . repeat'((first|refine .ba (bit_ans _) ?_|refine .t ?_|refine .u ?_|refine .some lg0 ?_|refine .some lg ?_|refine .some lgI ?_|(refine .bif (fun zz=>?_) (fun zz=>?_)<;>try simp(disch:=omega)only[zs,w64,zt]at zz))<;>try dsimp only)
    refine Tq.ret (ret1 ?_);rw[if_neg (by omega)];exact bif_lt a b
end Go.Proofs.YtjgfofcgmcnblaaGreat.Pf
namespace Go.Proofs.YtjgfofcgmcnblaaGreat.Pf
open Go Go.Pv IntKind
abbrev YK_0:Type:=((List (Int×(Int×(Int×Unit))))×((Option (List ((Int×(Int×(Int×Unit)))×Int)))×Unit))
abbrev YK_1:Type:=(List (Int×Int×Int×Unit)×Option (List ((Int×Int×Int×Unit)×Int))×Unit)
abbrev YK_2:Type:=((((List (Int×(Int×(Int×Unit))))×(Int×Unit))×Unit))
abbrev YK_3:Type:=(((List (Int×(Int×(Int×Unit))))×(Int×Unit))×Unit)
abbrev YK_4:Type:=((List (Int×Int×Int×Unit)×Int×Unit)×Unit)
abbrev YK_5:Type:=(List (Int×(Int×(Int×Unit))))
abbrev YK_6:Type:=((Int)×(Int))
abbrev YK_7:Type:=(Int×Unit)
namespace spec_l13Size
abbrev R:=((Int×Unit)×Unit)
def S0(v0_0:Int)(v0_1:Int):St:=⟨mkS 11 [(0,.v tI v0_0),(3,.v tI v0_1)],[]⟩
def step0(call:Cl)(k:Nat)(r0:(Int)→(Int)→Option R)(v0_0:Int)(v0_1:Int):Option R:=bif decide (v0_0>0)then r0 (i64.wrap (v0_0-1)) (i64.wrap (v0_1*2))else some ((v0_1,()),())
def L0(call:Cl)(k:Nat):Nat→(Int)→(Int)→Option R|0,_,_=>none|n+1,v0_0,v0_1=>step0 call k (L0 call k n) v0_0 v0_1
def Fm(call:Cl)(k:Nat)(l0:(Int)→(Int)→Option R)(a0:Int):Option R:=l0 a0 1
def F(call:Cl)(k:Nat)(a0:Int):Option R:=Fm call k (fun v0_0_ v0_1_=>L0 call k k v0_0_ v0_1_) a0
theorem L0_eq(call:Cl)(k:Nat)(J:Nat→St→Option R)(a0:Int):∀(n:Nat)(x:YK_6),siteI E call n_spec_l13Size k s_spec_l13Size (a0,()) J 0 n (S0 x.1 x.2)=L0 call k n x.1 x.2:=by
  refine loop_eq (s:=s_spec_l13Size) (fun x=>S0 x.1 x.2) (fun n x=>L0 call k n x.1 x.2) (fun r x=>step0 call k (fun v0_0 v0_1=>r (v0_0,v0_1)) x.1 x.2) (fun _=>rfl) (fun _ _=>rfl) fun J0 x=>?_
  kernel_rfl
theorem F_eq(call:Cl)(k:Nat)(a0:Int):bodyK E call n_spec_l13Size k s_spec_l13Size (a0,())=F call k a0:=by
  exact Eq.trans (b:=Fm call k (fun v0_0_ v0_1_=>siteI E call n_spec_l13Size k s_spec_l13Size (a0,()) (fun _ _=>none) 0 k (S0 v0_0_ v0_1_)) a0) (by kernel_rfl) (congrArg (fun l=>Fm call k l a0) (funext fun v0_0_=>funext fun v0_1_=>L0_eq call k (fun _ _=>none) a0 k (v0_0_,v0_1_)))
end spec_l13Size
namespace spec_l13Bits
abbrev R:=(((List Bool)×Unit)×Unit)
def S0(v0_0:Int)(v0_1:Int)(v0_2:(List Bool)):St:=⟨mkS 24 [(1,.v tI v0_0),(5,.ref [500005]),(6,.v tI v0_1)],[([500005],.list 4 .bool v0_2)]⟩
def step0(call:Cl)(k:Nat)(r0:(Int)→(Int)→((List Bool))→Option R)(v0_0:Int)(v0_1:Int)(v0_2:(List Bool)):Option R:=bif decide (v0_1≥0)then bif decide (0≤v0_1)&&decide (v0_1.toNat<v0_2.length)then(lget v0_2 v0_1.toNat).bind fun(y0:Bool)=>r0 (i64.wrap (v0_0.tdiv 2)) (i64.wrap (v0_1-1)) (v0_2.set v0_1.toNat (v0_0.tmod 2==1))else none else some ((v0_2,()),())
def L0(call:Cl)(k:Nat):Nat→(Int)→(Int)→((List Bool))→Option R|0,_,_,_=>none|n+1,v0_0,v0_1,v0_2=>step0 call k (L0 call k n) v0_0 v0_1 v0_2
def Fm(call:Cl)(k:Nat)(l0:(Int)→(Int)→((List Bool))→Option R)(a0:Int)(a1:Int):Option R:=bif decide (a0=a0)&&decide (0≤a0)&&decide (a0*(↑ti4.bytes:Int)≤281474976710656)then l0 a1 (i64.wrap (a0-1)) (List.replicate a0.toNat false)else none
def F(call:Cl)(k:Nat)(a0:Int)(a1:Int):Option R:=Fm call k (fun v0_0_ v0_1_ v0_2_=>L0 call k k v0_0_ v0_1_ v0_2_) a0 a1
theorem L0_eq(call:Cl)(k:Nat)(J:Nat→St→Option R)(a0:Int)(a1:Int):∀(n:Nat)(x:((Int)×(Int)×((List Bool)))),siteI E call n_spec_l13Bits k s_spec_l13Bits (a0,a1,()) J 0 n (S0 x.1 x.2.1 x.2.2)=L0 call k n x.1 x.2.1 x.2.2:=by
  refine loop_eq (s:=s_spec_l13Bits) (fun x=>S0 x.1 x.2.1 x.2.2) (fun n x=>L0 call k n x.1 x.2.1 x.2.2) (fun r x=>step0 call k (fun v0_0 v0_1 v0_2=>r (v0_0,v0_1,v0_2)) x.1 x.2.1 x.2.2) (fun _=>rfl) (fun _ _=>rfl) fun J0 x=>?_
  kernel_rfl
theorem F_eq(call:Cl)(k:Nat)(a0:Int)(a1:Int):bodyK E call n_spec_l13Bits k s_spec_l13Bits (a0,a1,())=F call k a0 a1:=by
  exact Eq.trans (b:=Fm call k (fun v0_0_ v0_1_ v0_2_=>siteI E call n_spec_l13Bits k s_spec_l13Bits (a0,a1,()) (fun _ _=>none) 0 k (S0 v0_0_ v0_1_ v0_2_)) a0 a1) (by kernel_rfl) (congrArg (fun l=>Fm call k l a0 a1) (funext fun v0_0_=>funext fun v0_1_=>funext fun v0_2_=>L0_eq call k (fun _ _=>none) a0 a1 k (v0_0_,v0_1_,v0_2_)))
end spec_l13Bits
namespace spec_l13Put
abbrev R:=(((List (Int×(Int×(Int×Unit))))×(Int×Unit))×Unit)
def S0(a1:Int)(y2:YK_2)(y3:YK_2)(v0_0:Int):St:=⟨mkS 75 [(0,.ref [500000]),(11,.p [500011] [] 0),(12,.v tI v0_0)],[([500011],.box (.v (.pair tI tTm) ((a1),((y2.1.2.1),((y3.1.2.1),()))))),([500000],.list 168 (.pair tI tTm) (y3.1.1))]⟩
def step0(call:Cl)(k:Nat)(a1:Int)(y2:YK_2)(y3:YK_3)(r0:(Int)→Option R)(v0_0:Int):Option R:=bif decide (v0_0<(↑(List.length y3.1.1):Int))then bif decide (0≤v0_0)&&decide (v0_0.toNat<List.length y3.1.1)then(lget y3.1.1 v0_0.toNat).bind fun(y4:Int×Int×Int×Unit)=>bif eqV (tI.pair tTm) y4 (a1,y2.1.2.1,y3.1.2.1,())then some ((y3.1.1,i64.wrap (v0_0+2),()),())else r0 (i64.wrap (v0_0+1))else none else bif decide ((List.length y3.1.1+[(a1,y2.1.2.1,y3.1.2.1,())].length)*ti168.bytes≤140737488355328)then some ((y3.1.1++[(a1,y2.1.2.1,y3.1.2.1,())],i64.wrap ((↑(List.length y3.1.1):Int)+2),()),())else none
def L0(call:Cl)(k:Nat)(a1:Int)(y2:YK_2)(y3:YK_3):Nat→(Int)→Option R|0,_=>none|n+1,v0_0=>step0 call k a1 y2 y3 (L0 call k a1 y2 y3 n) v0_0
def Fm(call:Cl)(k:Nat)(l0:(Int)→YK_2→YK_2→(Int)→Option R)(a0:YK_5)(a1:Int)(a2:(List Bool)):Option R:=bif(↑a2.length:Int)==1 then(lget a2 (Int.toNat 0)).bind fun(y0:Bool)=>(call 217 s_spec_l5Bit (y0,())).bind fun(y1:YK_7×Unit)=>some ((a0,y1.1.1,()),())else bif decide (0≤i64.wrap ((↑a2.length:Int).tdiv 2))then bif decide (0≤(i64.wrap ((↑a2.length:Int).tdiv 2)).toNat)&&decide ((i64.wrap ((↑a2.length:Int).tdiv 2)).toNat≤a2.length)then(call 218 s_spec_l13Put (a0,i64.wrap (a1+1),List.take ((i64.wrap ((↑a2.length:Int).tdiv 2)).toNat-0) (List.drop 0 a2),())).bind fun(y2:YK_4)=>bif decide (0≤i64.wrap ((↑a2.length:Int).tdiv 2))then bif decide ((i64.wrap ((↑a2.length:Int).tdiv 2)).toNat≤a2.length)&&decide (a2.length≤a2.length)then(call 218 s_spec_l13Put (y2.1.1,i64.wrap (a1+1),List.take (a2.length-(i64.wrap ((↑a2.length:Int).tdiv 2)).toNat) (List.drop (i64.wrap ((↑a2.length:Int).tdiv 2)).toNat a2),())).bind fun(y3:YK_4)=>bif y2.1.2.1==y3.1.2.1 then some ((y3.1.1,y2.1.2.1,()),())else l0 a1 y2 y3 0 else none else none else none else none
def F(call:Cl)(k:Nat)(a0:YK_5)(a1:Int)(a2:(List Bool)):Option R:=Fm call k (fun a1_ y2_ y3_ v0_0_=>L0 call k a1_ y2_ y3_ k v0_0_) a0 a1 a2
theorem L0_eq(call:Cl)(k:Nat)(J:Nat→St→Option R)(a0:YK_5)(a1:Int)(a2:(List Bool))(y2:YK_3)(y3:YK_3):∀(n:Nat)(x:(Int)),siteI E call n_spec_l13Put k s_spec_l13Put (a0,a1,a2,()) J 0 n (S0 a1 y2 y3 x)=L0 call k a1 y2 y3 n x:=by
  refine loop_eq (s:=s_spec_l13Put) (fun x=>S0 a1 y2 y3 x) (fun n x=>L0 call k a1 y2 y3 n x) (fun r x=>step0 call k a1 y2 y3 (fun v0_0=>r v0_0) x) (fun _=>rfl) (fun _ _=>rfl) fun J0 x=>?_
  kernel_rfl
theorem F_eq(call:Cl)(k:Nat)(a0:YK_5)(a1:Int)(a2:(List Bool)):bodyK E call n_spec_l13Put k s_spec_l13Put (a0,a1,a2,())=F call k a0 a1 a2:=by
  exact Eq.trans (b:=Fm call k (fun a1 y2 y3 v0_0_=>siteI E call n_spec_l13Put k s_spec_l13Put (a0,a1,a2,()) (fun _ _=>none) 0 k (S0 a1 y2 y3 v0_0_)) a0 a1 a2) (by kernel_rfl) (congrArg (fun l=>Fm call k l a0 a1 a2) (funext fun a1=>funext fun y2=>funext fun y3=>funext fun v0_0_=>L0_eq call k (fun _ _=>none) a0 a1 a2 y2 y3 k v0_0_))
end spec_l13Put
namespace spec_l13Make
abbrev R:=(((Int×(Int×((List (Int×(Int×(Int×Unit))))×Unit)))×Unit)×Unit)
def Fm(call:Cl)(k:Nat)(a0:Int)(a1:(List Bool)):Option R:=(call 218 s_spec_l13Put ([],0,a1,())).bind fun(y0:YK_4)=>some (((a0,y0.1.2.1,y0.1.1,()),()),())
def F(call:Cl)(k:Nat)(a0:Int)(a1:(List Bool)):Option R:=Fm call k a0 a1
theorem F_eq(call:Cl)(k:Nat)(a0:Int)(a1:(List Bool)):bodyK E call n_spec_l13Make k s_spec_l13Make (a0,a1,())=F call k a0 a1:=by kernel_rfl
end spec_l13Make
namespace impl_smith_forge
abbrev R:=((Int×Unit)×(((List (Int×(Int×(Int×Unit))))×((Option (List ((Int×(Int×(Int×Unit)))×Int)))×Unit))×Unit))
def Fm(call:Cl)(k:Nat)(a0:YK_0)(a1:Int)(a2:(List Bool)):Option R:=bif(↑a2.length:Int)==1 then(lget a2 (Int.toNat 0)).bind fun(y0:Bool)=>(call 104 s_impl_truth (y0,())).bind fun(y1:YK_7×Unit)=>some ((y1.1.1,()),a0,())else bif decide (0≤i64.wrap ((↑a2.length:Int).tdiv 2))then bif decide (0≤(i64.wrap ((↑a2.length:Int).tdiv 2)).toNat)&&decide ((i64.wrap ((↑a2.length:Int).tdiv 2)).toNat≤a2.length)then(call 208 s_impl_smith_forge (a0,i64.wrap (a1+1),List.take ((i64.wrap ((↑a2.length:Int).tdiv 2)).toNat-0) (List.drop 0 a2),())).bind fun(y2:YK_7×YK_1×Unit)=>bif decide (0≤i64.wrap ((↑a2.length:Int).tdiv 2))then bif decide ((i64.wrap ((↑a2.length:Int).tdiv 2)).toNat≤a2.length)&&decide (a2.length≤a2.length)then(call 208 s_impl_smith_forge (y2.2.1,i64.wrap (a1+1),List.take (a2.length-(i64.wrap ((↑a2.length:Int).tdiv 2)).toNat) (List.drop (i64.wrap ((↑a2.length:Int).tdiv 2)).toNat a2),())).bind fun(y3:YK_7×YK_1×Unit)=>bif y2.1.1==y3.1.1 then some ((y2.1.1,()),y3.2.1,())else bif !(mfind ((Ty.int .i64).pair ((Ty.int .i64).pair ((Ty.int .i64).pair Ty.unit))) (Option.getD y3.2.1.2.1 []) (a1,y2.1.1,y3.1.1,())).isSome then bif decide ((List.length y3.2.1.1+[(a1,y2.1.1,y3.1.1,())].length)*ti168.bytes≤140737488355328)then Option.bind y3.2.1.2.1 fun(y4:(List ((Int×Int×Int×Unit)×Int)))=>some ((i64.wrap ((↑(y3.2.1.1++[(a1,y2.1.1,y3.1.1,())]).length:Int)+1),()),(y3.2.1.1++[(a1,y2.1.1,y3.1.1,())],some (mput ((Ty.int .i64).pair ((Ty.int .i64).pair ((Ty.int .i64).pair Ty.unit))) y4 (a1,y2.1.1,y3.1.1,()) (i64.wrap ((↑(y3.2.1.1++[(a1,y2.1.1,y3.1.1,())]).length:Int)+1))),y3.2.1.2.2),())else none else some (((mfind ((Ty.int .i64).pair ((Ty.int .i64).pair ((Ty.int .i64).pair Ty.unit))) (Option.getD y3.2.1.2.1 []) (a1,y2.1.1,y3.1.1,())).getD (Int.ofNat (nat_lit 0)),()),y3.2.1,())else none else none else none else none
def F(call:Cl)(k:Nat)(a0:YK_0)(a1:Int)(a2:(List Bool)):Option R:=Fm call k a0 a1 a2
theorem F_eq(call:Cl)(k:Nat)(a0:YK_0)(a1:Int)(a2:(List Bool)):bodyK E call n_impl_smith_forge k s_impl_smith_forge (a0,a1,a2,())=F call k a0 a1 a2:=by kernel_rfl
end impl_smith_forge
namespace impl_diaOf
abbrev R:=(((Int×(Int×((List (Int×(Int×(Int×Unit))))×Unit)))×Unit)×Unit)
def Fm(call:Cl)(k:Nat)(a0:Int)(a1:(List Bool)):Option R:=(call 208 s_impl_smith_forge (([],some [],()),0,a1,())).bind fun(y0:YK_7×YK_1×Unit)=>some (((a0,y0.1.1,y0.2.1.1,()),()),())
def F(call:Cl)(k:Nat)(a0:Int)(a1:(List Bool)):Option R:=Fm call k a0 a1
theorem F_eq(call:Cl)(k:Nat)(a0:Int)(a1:(List Bool)):bodyK E call n_impl_diaOf k s_impl_diaOf (a0,a1,())=F call k a0 a1:=by kernel_rfl
end impl_diaOf
namespace impl_placeOf
abbrev R:=((Int×Unit)×Unit)
def S0(a0:(List Bool))(v0_0:Int)(v0_3:Int):St:=⟨mkS 19 [(3,.v tI v0_0),(6,.v (.slc .bool) (a0)),(7,.v tI ((↑a0.length:Int))),(8,.v tI v0_3)],[]⟩
def step0(call:Cl)(k:Nat)(a0:(List Bool))(r0:(Int)→(Int)→Option R)(v0_0:Int)(v0_3:Int):Option R:=bif decide (v0_3<(↑a0.length:Int))then bif decide (0≤v0_3)then(lget a0 v0_3.toNat).bind fun(y0:Bool)=>(call 104 s_impl_truth (y0,())).bind fun(y1:YK_7×Unit)=>r0 (i64.wrap (i64.wrap (2*v0_0)+y1.1.1)) (i64.wrap (v0_3+1))else none else some ((v0_0,()),())
def L0(call:Cl)(k:Nat)(a0:(List Bool)):Nat→(Int)→(Int)→Option R|0,_,_=>none|n+1,v0_0,v0_3=>step0 call k a0 (L0 call k a0 n) v0_0 v0_3
def Fm(call:Cl)(k:Nat)(l0:((List Bool))→(Int)→(Int)→Option R)(a0:(List Bool)):Option R:=l0 a0 0 0
def F(call:Cl)(k:Nat)(a0:(List Bool)):Option R:=Fm call k (fun a0_ v0_0_ v0_3_=>L0 call k a0_ k v0_0_ v0_3_) a0
theorem L0_eq(call:Cl)(k:Nat)(J:Nat→St→Option R)(a0:(List Bool)):∀(n:Nat)(x:YK_6),siteI E call n_impl_placeOf k s_impl_placeOf (a0,()) J 0 n (S0 a0 x.1 x.2)=L0 call k a0 n x.1 x.2:=by
  refine loop_eq (s:=s_impl_placeOf) (fun x=>S0 a0 x.1 x.2) (fun n x=>L0 call k a0 n x.1 x.2) (fun r x=>step0 call k a0 (fun v0_0 v0_3=>r (v0_0,v0_3)) x.1 x.2) (fun _=>rfl) (fun _ _=>rfl) fun J0 x=>?_
  kernel_rfl
theorem F_eq(call:Cl)(k:Nat)(a0:(List Bool)):bodyK E call n_impl_placeOf k s_impl_placeOf (a0,())=F call k a0:=by
  exact Eq.trans (b:=Fm call k (fun a0 v0_0_ v0_3_=>siteI E call n_impl_placeOf k s_impl_placeOf (a0,()) (fun _ _=>none) 0 k (S0 a0 v0_0_ v0_3_)) a0) (by kernel_rfl) (congrArg (fun l=>Fm call k l a0) (funext fun a0=>funext fun v0_0_=>funext fun v0_3_=>L0_eq call k (fun _ _=>none) a0 k (v0_0_,v0_3_)))
end impl_placeOf
end Go.Proofs.YtjgfofcgmcnblaaGreat.Pf
namespace Go.Proofs.YtjgfofcgmcnblaaGreat.Pf
open Go Go.Pv
theorem dcl_succ(k g:Nat)(s:Sg)(l:s.A.den):cl (k+1) g s l=bodyK E (cl k) g k s l:=rfl
theorem Ev.succ {p:Nat→Prop}(h:∀k,p (k+1)):Ev p:=(Ev.all fun _=>trivial).step fun k _=>h k
def dbit(b:Bool):Int:=if b then 1 else 0
def BitK(k:Nat):Prop:=∀b:Bool,cl k n_spec_l5Bit s_spec_l5Bit (b,())=some ((dbit b,()),())
theorem l5Bit_ev:Ev BitK:=Ev.succ fun k b=>by
  rw[dcl_succ,spec_l5Bit.F_eq (cl k) k b];cases b<;>rfl
def TruthK(k:Nat):Prop:=∀b:Bool,cl k n_impl_truth s_impl_truth (b,())=some ((dbit b,()),())
theorem truth_ev:Ev TruthK:=Ev.succ fun k b=>by
  rw[dcl_succ,impl_truth.F_eq (cl k) k b];cases b<;>rfl
def bitN(m n v:Nat):Bool:=n.testBit (m-1-v)
def bitsN(m n:Nat):List Bool:=(List.range m).map (bitN m n)
theorem dlist_of {α:Type}{f:Nat→α}{acc:List α}(h:∀i,i<acc.length→acc[i]?=some (f i)):acc=(List.range acc.length).map f:=by
  apply List.ext_getElem?;intro i;rcases Nat.lt_or_ge i acc.length with hi|hi
  . rw[h i hi];simp[hi]
  . rw[List.getElem?_eq_none hi];simp[hi]
theorem dw64n {z:Nat}(h:z≤9223372036854775807):IntKind.i64.wrap (z:Int)=(z:Int):=w64 (by omega) (by omega)
theorem dpow12 {m:Nat}(h:m≤12):2^m≤4096:=Nat.pow_le_pow_right (by omega) h
theorem dpow10 {m:Nat}(h:m≤10):2^m≤1024:=Nat.pow_le_pow_right (by omega) h
theorem dshl1 {m:Nat}(h:m≤10):shlI .i64 1 (m:Int)=((2^m:Nat):Int):=by
  unfold shlI;rw[Int.toNat_natCast,show min m IntKind.i64.bits=m from Nat.min_eq_left (Nat.le_trans h (by decide))];have h1:=dpow10 h;have h2:((2:Int)^m)=((2^m:Nat):Int):=by simp
  rw[h2,Int.one_mul,dw64n (Nat.le_trans h1 (by decide))]
theorem l13Bits12_ans(m n:Nat)(hm:m≤12)(hn:n≤1048576):Ans n_spec_l13Bits s_spec_l13Bits ((m:Int),(n:Int),()) ((bitsN m n,()),()):=by
  refine Ans.of (fun k=>spec_l13Bits.F_eq (cl k) k (m:Int) (n:Int)) ?_;have key:∀(d k q:Nat)(acc:List Bool),d≤m→acc.length=m→(∀i,d≤i→i<m→acc[i]?=some (bitN m n i))→d<q→spec_l13Bits.L0 (cl k) k q ((n/2^(m-d):Nat):Int) ((d:Int)-1) acc=some ((bitsN m n,()),()):=by
    intro d
    induction d with
    | zero=>
      intro k q acc hd hl h hq;obtain⟨q,rfl⟩:∃p,q=p+1:=⟨q-1,by omega⟩
      simp only[spec_l13Bits.L0,spec_l13Bits.step0];rw[decide_eq_false (by omega),cond_false];have e:=dlist_of (f:=bitN m n) (acc:=acc) fun i hi=>h i (Nat.zero_le _) (by omega)
      rw[e,hl];rfl
    | succ d ih=>
      intro k q acc hd hl h hq;obtain⟨q,rfl⟩:∃p,q=p+1:=⟨q-1,by omega⟩
      have hj:d<acc.length:=by omega
      have e1:(((d+1:Nat):Int)-1)=(d:Int):=by omega
      have e2:n/2^(m-(d+1))/2=n/2^(m-d):=by
        rw[Nat.div_div_eq_div_mul,←Nat.pow_succ,show(m-(d+1)).succ=m-d by omega]
      have e3:((n/2^(m-(d+1)):Nat):Int).tdiv 2=((n/2^(m-(d+1))/2:Nat):Int):=rfl;have e4:((n/2^(m-(d+1)):Nat):Int).tmod 2=((n/2^(m-(d+1))% 2:Nat):Int):=rfl;have e5:n/2^(m-d)≤n:=Nat.div_le_self _ _;have e6:(((n/2^(m-(d+1))% 2:Nat):Int)==1)=bitN m n d:=by
        unfold bitN;rw[Nat.testBit_eq_decide_div_mod_eq,show m-1-d=m-(d+1) by omega];by_cases hb:n/2^(m-(d+1))% 2=1
        . rw[hb];rfl
        . rw[decide_eq_false hb,beq_false_of_ne (by omega)]
      have hs:=ih k q (acc.set d (bitN m n d)) (by omega) (by simp[hl]) (fun i h1 h2=>by
        rw[List.getElem?_set];by_cases e:d=i
        . subst e;rw[if_pos rfl,if_pos hj]
        . rw[if_neg e];exact h i (by omega) h2) (by omega)
      simp only[spec_l13Bits.L0,spec_l13Bits.step0,e1,ge_iff_le,dle0,cond_true,Int.toNat_natCast,decide_eq_true hj,Bool.and_self,lgn hj,Option.bind_some,e3,e4,e2,e6];rw[dw64n (Nat.le_trans e5 (Nat.le_trans hn (by decide))),w64 (x:=(d:Int)-1) (by omega) (by omega)];exact hs
  refine(Ev.ge (m+1)).mono fun k hk=>?_
  unfold spec_l13Bits.F spec_l13Bits.Fm;rw[mk_ok (n:=m) (b:=ti4.bytes) (by show m*1≤_;omega),cond_true,w64 (by omega) (by omega)];have:=key m k k (List.replicate (Int.toNat (m:Int)) false) (Nat.le_refl _) (by simp) (fun i h1 h2=>by omega) (by omega);rw[Nat.sub_self,Nat.pow_zero,Nat.div_one]at this;exact this
theorem l13Bits_ans(m n:Nat)(hm:m≤10)(hn:n≤1048576):Ans n_spec_l13Bits s_spec_l13Bits ((m:Int),(n:Int),()) ((bitsN m n,()),()):=l13Bits12_ans m n (by omega) hn
theorem l13Size12_ans(m:Nat)(hm:m≤12):Ans n_spec_l13Size s_spec_l13Size ((m:Int),()) ((((2^m:Nat):Int),()),()):=by
  refine Ans.of (fun k=>spec_l13Size.F_eq (cl k) k (m:Int)) ?_;have key:∀(d k q:Nat),d≤m→d<q→spec_l13Size.L0 (cl k) k q (d:Int) ((2^(m-d):Nat):Int)=some ((((2^m:Nat):Int),()),()):=by
    intro d
    induction d with
    | zero=>
      intro k q hd hq;obtain⟨q,rfl⟩:∃p,q=p+1:=⟨q-1,by omega⟩
      simp only[spec_l13Size.L0,spec_l13Size.step0];rw[decide_eq_false (by omega),cond_false];rfl
    | succ d ih=>
      intro k q hd hq;obtain⟨q,rfl⟩:∃p,q=p+1:=⟨q-1,by omega⟩
      have h1:=dpow12 (show m-(d+1)≤12 by omega);have h2:2^(m-d)=2^(m-(d+1))*2:=by
        rw[←Nat.pow_succ,show(m-(d+1)).succ=m-d by omega]
      have hs:=ih k q (by omega) (by omega);simp only[spec_l13Size.L0,spec_l13Size.step0];rw[decide_eq_true (by omega),cond_true,w64 (by omega) (by omega),w64 (by omega) (by omega)];rw[show((d+1:Nat):Int)-1=(d:Int) by omega,show((2^(m-(d+1)):Nat):Int)*2=((2^(m-d):Nat):Int) by omega];exact hs
  refine(Ev.ge (m+1)).mono fun k hk=>?_
  have:=key m k k (Nat.le_refl _) (by omega);rw[Nat.sub_self]at this;exact this
theorem l13Size_ans(m:Nat)(hm:m≤10):Ans n_spec_l13Size s_spec_l13Size ((m:Int),()) ((((2^m:Nat):Int),()),()):=l13Size12_ans m (by omega)
abbrev Kn:=Int×(Int×(Int×Unit))
abbrev Dia:=Int×(Int×(List Kn×Unit))
abbrev KnT:Ty:=(Ty.int IntKind.i64).pair ((Ty.int IntKind.i64).pair ((Ty.int IntKind.i64).pair Ty.unit))
theorem deqKn(x y:Kn):eqV KnT x y=decide (x=y):=by
  obtain⟨a,b,c,⟨⟩⟩:=x;obtain⟨a',b',c',⟨⟩⟩:=y;have h:eqV KnT (a,b,c,()) (a',b',c',())=(a==a'&&(b==b'&&c==c')):=rfl;rw[h];by_cases h1:a=a'
  . by_cases h2:b=b'
    . by_cases h3:c=c'
      . subst h1 h2 h3;simp
      . simp[h3]
    . simp[h2]
  . simp[h1]
def dseek(k:Kn):List Kn→Nat→Option Nat
  |[],_=>none
  |a::r,i=>if a=k then some i else dseek k r (i+1)
theorem dseek_put(x k:Kn):∀(l:List Kn)(i:Nat),dseek k l i=none→dseek x (l++[k]) i=if x=k then some (i+l.length)else dseek x l i
  | [],i,_=>by
    show(if k=x then some i else none)=_
    by_cases e:x=k
    . rw[if_pos e,if_pos e.symm];rfl
    . rw[if_neg e,if_neg fun h=>e h.symm];rfl
  | a ::r,i,h=>by
    unfold dseek at h;by_cases ha:a=k
    . rw[if_pos ha]at h;cases h
    . rw[if_neg ha]at h;show(if a=x then some i else dseek x (r++[k]) (i+1))=_
      rw[dseek_put x k r (i+1) h];by_cases e:x=k
      . rw[if_pos e,if_pos e,if_neg fun h=>ha (h.trans e),List.length_cons]
        congr 1;omega
      . rw[if_neg e,if_neg e];rfl
def dPl(ks:List Kn)(ps:List (Kn×Int)):Prop:=∀x:Kn,mfind KnT ps x=(dseek x ks 0).map fun i:Nat=>(i:Int)+2
theorem dmfind_put(x k:Kn)(v:Int):∀ps:List (Kn×Int),mfind KnT (mput KnT ps k v) x=if x=k then some v else mfind KnT ps x
  | []=>by
    show(bif eqV KnT x k then some v else none)=_
    rw[deqKn];by_cases e:x=k
    . rw[if_pos e,decide_eq_true e];rfl
    . rw[if_neg e,decide_eq_false e];rfl
  | (a,b)::ps=>by
    show mfind KnT (bif eqV KnT k a then(k,v)::ps else(a,b)::mput KnT ps k v) x=(if x=k then some v else bif eqV KnT x a then some b else mfind KnT ps x)
    rw[deqKn,deqKn];by_cases e:k=a
    . rw[decide_eq_true e,cond_true];show(bif eqV KnT x k then some v else mfind KnT ps x)=_
      rw[deqKn];subst e;by_cases e2:x=k
      . rw[if_pos e2,decide_eq_true e2];rfl
      . rw[if_neg e2,decide_eq_false e2];rfl
    . rw[decide_eq_false e,cond_false];show(bif eqV KnT x a then some b else mfind KnT (mput KnT ps k v) x)=_
      rw[deqKn,dmfind_put x k v ps];by_cases e2:x=a
      . rw[decide_eq_true e2,cond_true,if_neg fun h=>e (h.symm.trans e2)];rfl
      . rw[decide_eq_false e2,cond_false];rfl
theorem dPl.put {ks:List Kn}{ps:List (Kn×Int)}(h:dPl ks ps){k:Kn}(hk:dseek k ks 0=none):dPl (ks++[k]) (mput KnT ps k ((ks.length:Int)+2)):=fun x=>by
  rw[dmfind_put,dseek_put x k ks 0 hk,h x];by_cases e:x=k
  . rw[if_pos e,if_pos e,Nat.zero_add];rfl
  . rw[if_neg e,if_neg e]
def putEnd(ks:List Kn)(k:Kn):List Kn×Int:=match dseek k ks 0 with
  |some i=>(ks,(i:Int)+2)
  |none=>(ks++[k],(ks.length:Int)+2)
def putP:Nat→List Kn→Int→List Bool→List Kn×Int
  |0,ks,_,t=>(ks,dbit (t.headD false))
  | m +1,ks,v,t=>
    if(putP m ks (v+1) (t.take (2^m))).2=(putP m (putP m ks (v+1) (t.take (2^m))).1 (v+1) (t.drop (2^m))).2 then
      ((putP m (putP m ks (v+1) (t.take (2^m))).1 (v+1) (t.drop (2^m))).1,(putP m ks (v+1) (t.take (2^m))).2)
    else putEnd (putP m (putP m ks (v+1) (t.take (2^m))).1 (v+1) (t.drop (2^m))).1 (v,(putP m ks (v+1) (t.take (2^m))).2,(putP m (putP m ks (v+1) (t.take (2^m))).1 (v+1) (t.drop (2^m))).2,())
theorem putEnd_len(ks:List Kn)(k:Kn):(putEnd ks k).1.length≤ks.length+1:=by
  unfold putEnd;cases dseek k ks 0 with
  |none=>simp
  |some i=>exact Nat.le_succ _
theorem putP_len:∀(m:Nat)(ks:List Kn)(v:Int)(t:List Bool),(putP m ks v t).1.length+1≤ks.length+2^m
  |0,ks,v,t=>by simp[putP]
  | m+1,ks,v,t=>by
    have h1:=putP_len m ks (v+1) (t.take (2^m));have h2:=putP_len m (putP m ks (v+1) (t.take (2^m))).1 (v+1) (t.drop (2^m));have e:2^(m+1)=2^m+2^m:=by rw[Nat.pow_succ];omega
    unfold putP;rw[e];split
    . dsimp only;omega
    . have h3:=putEnd_len (putP m (putP m ks (v+1) (t.take (2^m))).1 (v+1) (t.drop (2^m))).1 (v,(putP m ks (v+1) (t.take (2^m))).2,(putP m (putP m ks (v+1) (t.take (2^m))).1 (v+1) (t.drop (2^m))).2,());omega
theorem putLoop(k:Nat)(v low high:Int)(ks:List Kn)(hl:ks.length≤4096):∀(d q j:Nat),ks.length-j=d→d<q→∀y2:((List Kn×(Int×Unit))×Unit),y2.1.2.1=low→
    spec_l13Put.L0 (cl k) k v y2 ((ks,high,()),()) q (j:Int)=match dseek (v,low,high,()) (ks.drop j) j with
      |some i=>some ((ks,(i:Int)+2,()),())
      |none=>some ((ks++[(v,low,high,())],(ks.length:Int)+2,()),()):=by
  intro d
  induction d with
  | zero=>
    intro q j hd hq y2 hy;obtain⟨q,rfl⟩:∃p,q=p+1:=⟨q-1,by omega⟩
    simp only[spec_l13Put.L0,spec_l13Put.step0,dnlt (show ks.length≤j by omega),cond_false,hy,List.drop_of_length_le (show ks.length≤j by omega),dseek,List.length_cons,List.length_nil];rw[decide_eq_true (by show(ks.length+(0+1))*24≤_;omega),cond_true,w64 (by omega) (by omega)]
  | succ d ih=>
    intro q j hd hq y2 hy;obtain⟨q,rfl⟩:∃p,q=p+1:=⟨q-1,by omega⟩
    have hj:j<ks.length:=by omega
    simp only[spec_l13Put.L0,spec_l13Put.step0,dlt hj,cond_true,dle0,Int.toNat_natCast,decide_eq_true hj,Bool.and_self,lgn hj,Option.bind_some,hy,ws hj (show ks.length≤9223372036854775807 by omega)];have e:=deqKn ks[j] (v,low,high,());rw[show eqV ((Ty.int IntKind.i64).pair ((Ty.int IntKind.i64).pair ((Ty.int IntKind.i64).pair Ty.unit))) ks[j] (v,low,high,())=decide (ks[j]=(v,low,high,()))from e];rw[List.drop_eq_getElem_cons hj];unfold dseek;by_cases h:ks[j]=(v,low,high,())
    . rw[decide_eq_true h,cond_true,if_pos h,w64 (by omega) (by omega)]
    . rw[decide_eq_false h,cond_false,if_neg h];exact ih q (j+1) (by omega) (by omega) y2 hy
theorem dhalf_eq {m:Nat}{t:List Bool}(hm:m<10)(ht:t.length=2^(m+1)):IntKind.i64.wrap ((t.length:Int).tdiv 2)=((2^m:Nat):Int)∧t.length=2^m+2^m∧0<2^m∧2^m≤512:=by
  have e:2^(m+1)=2^m+2^m:=by rw[Nat.pow_succ];omega
  have h0:0<2^m:=Nat.pow_pos (by omega);have h1:2^m≤512:=Nat.pow_le_pow_right (n:=2) (by omega) (show m≤9 by omega);refine⟨?_,by omega,h0,h1⟩;have e2:(t.length:Int).tdiv 2=((t.length/2:Nat):Int):=rfl;have e3:t.length/2=2^m:=by omega
  rw[e2,e3];exact dw64n (Nat.le_trans h1 (by decide))
theorem l13Put_ans:∀(m:Nat)(ks:List Kn)(v:Int)(t:List Bool),m≤10→t.length=2^m→0≤v→v+m≤100→ks.length+2^m≤2048→Ans n_spec_l13Put s_spec_l13Put (ks,v,t,()) (((putP m ks v t).1,(putP m ks v t).2,()),())
  | 0,ks,v,t,hm,ht,hv,hv2,hl=>by
    refine Ans.of (fun k=>spec_l13Put.F_eq (cl k) k ks v t) (l5Bit_ev.mono fun k hb=>?_);obtain⟨b,rfl⟩:∃b,t=[b]:=by
      match t,ht with
      |[b],_=>exact⟨b,rfl⟩
    simp only[spec_l13Put.F,spec_l13Put.Fm];rw[show(((List.length [b]:Nat):Int)==1)=true from rfl,cond_true,show lget [b] (Int.toNat (0:Int))=some b from rfl,Option.bind_some,hb b,Option.bind_some];rfl
  | m+1,ks,v,t,hm,ht,hv,hv2,hl=>by
    obtain⟨e1,e2,e3,e4⟩:=dhalf_eq (show m<10 by omega) ht;have e5:2^(m+1)=2^m+2^m:=by omega
    have hlen1:=putP_len m ks (v+1) (t.take (2^m));have hlen2:=putP_len m (putP m ks (v+1) (t.take (2^m))).1 (v+1) (t.drop (2^m));have h1:=l13Put_ans m ks (v+1) (t.take (2^m)) (by omega) (by rw[List.length_take];omega) (by omega) (by omega) (by omega);have h2:=l13Put_ans m (putP m ks (v+1) (t.take (2^m))).1 (v+1) (t.drop (2^m)) (by omega) (by rw[List.length_drop];omega) (by omega) (by omega) (by omega);refine Ans.of (fun k=>spec_l13Put.F_eq (cl k) k ks v t) ((h1.and (h2.and (Ev.ge 4097))).mono fun k⟨h1,h2,hk⟩=>?_);unfold putP;generalize ha:putP m ks (v+1) (t.take (2^m))=a at*;generalize hb:putP m a.1 (v+1) (t.drop (2^m))=b at*;have ew:IntKind.i64.wrap (v+1)=v+1:=w64 (by omega) (by omega);have et:List.take (t.length-2^m) (List.drop (2^m) t)=List.drop (2^m) t:=List.take_of_length_le (by rw[List.length_drop];omega);simp only[spec_l13Put.F,spec_l13Put.Fm];rw[beq_false_of_ne (by omega),cond_false];simp only[e1,ew,dle0,cond_true,Int.toNat_natCast,Nat.sub_zero,List.drop_zero,decide_eq_true (Nat.zero_le (2^m)),decide_eq_true (show 2^m≤t.length by omega),decide_eq_true (Nat.le_refl t.length),Bool.and_self,h1,Option.bind_some,et,h2];by_cases e:a.2=b.2
    . rw[if_pos e,e,beq_self_eq_true,cond_true]
    . rw[if_neg e,beq_false_of_ne e,cond_false];have:=putLoop k v a.2 b.2 b.1 (by omega) b.1.length k 0 rfl (by omega) ((a.1,a.2,()),()) rfl;refine this.trans ?_;rw[List.drop_zero];unfold putEnd;cases dseek (v,a.2,b.2,()) b.1 0<;>rfl
theorem forge_ans:∀(m:Nat)(ks:List Kn)(ps:List (Kn×Int))(v:Int)(t:List Bool),m≤10→t.length=2^m→0≤v→v+m≤100→ks.length+2^m≤2048→dPl ks ps→
    ∃ps',dPl (putP m ks v t).1 ps'∧Ans n_impl_smith_forge s_impl_smith_forge ((ks,some ps,()),v,t,()) (((putP m ks v t).2,()),((putP m ks v t).1,some ps',()),())
  | 0,ks,ps,v,t,hm,ht,hv,hv2,hl,hp=>by
    refine⟨ps,hp,Ans.of (fun k=>impl_smith_forge.F_eq (cl k) k (ks,some ps,()) v t) (truth_ev.mono fun k hb=>?_)⟩;obtain⟨b,rfl⟩:∃b,t=[b]:=by
      match t,ht with
      |[b],_=>exact⟨b,rfl⟩
    simp only[impl_smith_forge.F,impl_smith_forge.Fm];rw[show(((List.length [b]:Nat):Int)==1)=true from rfl,cond_true,show lget [b] (Int.toNat (0:Int))=some b from rfl,Option.bind_some,hb b,Option.bind_some];rfl
  | m + 1, ks,ps,v,t,hm,ht,hv,hv2,hl,hp=>by
    obtain⟨e1,e2,e3,e4⟩:=dhalf_eq (show m<10 by omega) ht;have e5:2^(m+1)=2^m+2^m:=by omega
    have hlen1:=putP_len m ks (v+1) (t.take (2^m));have hlen2:=putP_len m (putP m ks (v+1) (t.take (2^m))).1 (v+1) (t.drop (2^m));obtain⟨ps1,hp1,h1⟩:=forge_ans m ks ps (v+1) (t.take (2^m)) (by omega) (by rw[List.length_take];omega) (by omega) (by omega) (by omega) hp;obtain⟨ps2,hp2,h2⟩:=forge_ans m (putP m ks (v+1) (t.take (2^m))).1 ps1 (v+1) (t.drop (2^m)) (by omega) (by rw[List.length_drop];omega) (by omega) (by omega) (by omega) hp1;unfold putP;generalize ha:putP m ks (v+1) (t.take (2^m))=a at*;generalize hb:putP m a.1 (v+1) (t.drop (2^m))=b at*;have ew:IntKind.i64.wrap (v+1)=v+1:=w64 (by omega) (by omega);have et:List.take (t.length-2^m) (List.drop (2^m) t)=List.drop (2^m) t:=List.take_of_length_le (by rw[List.length_drop];omega);have pre:∀k,cl k n_impl_smith_forge s_impl_smith_forge ((ks,some ps,()),v+1,t.take (2^m),())=some ((a.2,()),(a.1,some ps1,()),())→cl k n_impl_smith_forge s_impl_smith_forge ((a.1,some ps1,()),v+1,t.drop (2^m),())=some ((b.2,()),(b.1,some ps2,()),())→
        impl_smith_forge.F (cl k) k (ks,some ps,()) v t=(bif a.2==b.2 then some ((a.2,()),(b.1,some ps2,()),())
          else bif !(mfind KnT ps2 (v,a.2,b.2,())).isSome then
              bif decide ((b.1.length+[(v,a.2,b.2,())].length)*ti168.bytes≤(140737488355328:Nat))then
                some ((IntKind.i64.wrap ((↑(b.1++[(v,a.2,b.2,())]).length:Int)+(1:Int)),()),(b.1++[(v,a.2,b.2,())],mput KnT ps2 (v,a.2,b.2,()) (IntKind.i64.wrap ((↑(b.1++[(v,a.2,b.2,())]).length:Int)+(1:Int))),()),())
              else none
            else some (((mfind KnT ps2 (v,a.2,b.2,())).getD 0,()),(b.1,some ps2,()),())):=by
      intro k h1 h2;simp only[impl_smith_forge.F,impl_smith_forge.Fm];rw[beq_false_of_ne (by omega),cond_false];simp only[e1,ew,dle0,cond_true,Int.toNat_natCast,Nat.sub_zero,List.drop_zero,decide_eq_true (Nat.zero_le (2^m)),decide_eq_true (show 2^m≤t.length by omega),decide_eq_true (Nat.le_refl t.length),Bool.and_self,h1,Option.bind_some,et,h2];rfl
    have hF:=fun k=>impl_smith_forge.F_eq (cl k) k (ks,some ps,()) v t
    by_cases e:a.2=b.2
    . rw[if_pos e];refine⟨ps2,hp2,Ans.of hF ((h1.and h2).mono fun k⟨h1,h2⟩=>?_)⟩;rw[pre k h1 h2,e,beq_self_eq_true,cond_true]
    . rw [if_neg e];have hf:=hp2 (v,a.2,b.2,());unfold putEnd;cases hs:dseek (v,a.2,b.2,()) b.1 0 with
      | some i=>
        rw[hs]at hf;refine⟨ps2,hp2,Ans.of hF ((h1.and h2).mono fun k⟨h1,h2⟩=>?_)⟩;rw[pre k h1 h2,beq_false_of_ne e,cond_false,hf];rfl
      | none=>
        rw[hs]at hf;refine⟨_,hp2.put hs,Ans.of hF ((h1.and h2).mono fun k⟨h1,h2⟩=>?_)⟩;rw[pre k h1 h2,beq_false_of_ne e,cond_false,hf];have ew2:IntKind.i64.wrap ((↑(b.1++[(v,a.2,b.2,())]).length:Int)+(1:Int))=(b.1.length:Int)+2:=by
          rw[List.length_append,List.length_singleton,w64 (by omega) (by omega)];omega
        rw[ew2];simp only[Option.map_none,Option.isSome_none,Bool.not_false,cond_true];rw[decide_eq_true (by show(b.1.length+1)*24≤_;omega),cond_true]
def mkDia(m:Nat)(t:List Bool):Dia:=((m:Int),(putP m [] 0 t).2,(putP m [] 0 t).1,())
theorem l13Make_ans(m:Nat)(t:List Bool)(hm:m≤10)(ht:t.length=2^m):Ans n_spec_l13Make s_spec_l13Make ((m:Int),t,()) ((mkDia m t,()),()):=by
  have hp:=dpow10 hm;refine Ans.of (fun k=>spec_l13Make.F_eq (cl k) k (m:Int) t) ((l13Put_ans m [] 0 t hm ht (Int.le_refl _) (by omega) (by simp only[List.length_nil];omega)).mono fun k h=>?_);simp only[spec_l13Make.F,spec_l13Make.Fm,h,Option.bind_some];rfl
theorem diaOf_ans(m:Nat)(t:List Bool)(hm:m≤10)(ht:t.length=2^m):Ans n_impl_diaOf s_impl_diaOf ((m:Int),t,()) ((mkDia m t,()),()):=by
  have hp:=dpow10 hm;obtain⟨ps,_,h⟩:=forge_ans m [] [] 0 t hm ht (Int.le_refl _) (by omega) (by simp only[List.length_nil];omega) (fun x=>rfl);refine Ans.of (fun k=>impl_diaOf.F_eq (cl k) k (m:Int) t) (h.mono fun k h=>?_);simp only[impl_diaOf.F,impl_diaOf.Fm,h,Option.bind_some];rfl
end Go.Proofs.YtjgfofcgmcnblaaGreat.Pf
namespace Go.Proofs.YtjgfofcgmcnblaaGreat.Pf
open Go Go.Pv
def tk(e:List Tm)(i:Nat):Int:=if h:i<e.length then takes e[i].1 else 0
theorem tk_lt {e:List Tm}{i:Nat}(h:i<e.length):tk e i=takes e[i].1:=dif_pos h
def dep(e:List Tm):Nat→Int
  |0=>0
  |i+1=>dep e i+(1-tk e i)
theorem dep_succ {e:List Tm}{i:Nat}(h:i<e.length):dep e (i+1)=dep e i+(1-takes e[i].1):=by rw[dep,tk_lt h]
theorem okGo_dep {e:List Tm}:∀(d j:Nat),e.length-j=d→j≤e.length→okGo (dep e j) (e.drop j)→(∀(i:Nat)(h:i<e.length),j≤i→TmOk (dep e i) e[i])∧dep e e.length=1:=by
  intro d
  induction d with
  | zero=>
    intro j hd hj h;obtain rfl:j=e.length:=by omega
    rw[okGo_end (Nat.le_refl _)]at h;exact⟨fun i hi hji=>by omega,h⟩
  | succ d ih=>
    intro j hd hj h;have hj:j<e.length:=by omega
    rw[okGo_drop hj]at h;obtain⟨h1,h2⟩:=ih (j+1) (by omega) (by omega) (by unfold dep;rw[tk_lt hj];exact h.2);refine⟨fun i hi hji=>?_,h2⟩;rcases Nat.lt_or_ge j i with h3|h3
    . exact h1 i hi h3
    . obtain rfl:i=j:=by omega
      exact h.1
theorem ExpOk.at {e:List Tm}(h:ExpOk e){i:Nat}(hi:i<e.length):TmOk (dep e i) e[i]:=(okGo_dep e.length 0 rfl (Nat.zero_le _) h.2).1 i hi (Nat.zero_le _)
theorem ExpOk.last {e:List Tm}(h:ExpOk e):dep e e.length=1:=(okGo_dep e.length 0 rfl (Nat.zero_le _) h.2).2
theorem ExpOk.pos {e:List Tm}(h:ExpOk e):0<e.length:=by
  have:=h.last;rcases Nat.eq_zero_or_pos e.length with h1|h1
  . rw[h1]at this;exact absurd (show(0:Int)=1 from this) (by omega)
  . exact h1
theorem dep_le {e:List Tm}(he:ExpOk e):∀y,y≤e.length→0≤dep e y∧dep e y≤y:=by
  intro y
  induction y with
  |zero=>intro _;exact⟨Int.le_refl _,Int.le_refl _⟩
  | succ y ih=>
    intro h;have h1:=ih (by omega);have h2:=he.at (i:=y) (by omega);unfold TmOk at h2;rw[dep_succ (by omega)];omega
def geti(l:List Int)(n:Int):Int:=if h:n.toNat<l.length then l[n.toNat]else 0
theorem geti_lt {l:List Int}{n:Int}(h:n.toNat<l.length):geti l n=l[n.toNat]:=dif_pos h
end Go.Proofs.YtjgfofcgmcnblaaGreat.Pf
set_option maxHeartbeats 4000000
namespace Go.Proofs.YtjgfofcgmcnblaaGreat.Pf
open Go Go.Pv
abbrev ET:=List Int×(List (List Int)×Unit)
structure EnvR (p:Pg) (v:ET):Prop where
  lv:(v.1.length:Int)=Vrs p
  lc:v.2.1.length=p.2.2.2.2.1.length
  vs:∀x∈v.1,Vl p.1 x
  cs:∀(i:Nat)(h:i<v.2.1.length)(h':i<p.2.2.2.2.1.length),((v.2.1[i].length:Nat):Int)=p.2.2.2.2.1[i]∧∀x∈v.2.1[i],Vl p.1 x
def getl(l:List (List Int))(n:Int):List Int:=if h:n.toNat<l.length then l[n.toNat]else[]
theorem getl_lt {l:List (List Int)}{n:Int}(h:n.toNat<l.length):getl l n=l[n.toNat]:=dif_pos h
def tm0(v:ET)(t:Tm):Int:=if t.1=0 then t.2.1 else geti v.1 t.2.1
def tm1(p:Pg)(v:ET)(t:Tm)(a:Int):Int×Int:=if t.1=2 then(if a<((getl v.2.1 t.2.1).length:Int)then(geti (getl v.2.1 t.2.1) a,0)else(0,2))else(opV p.1 t.1 a 0,0)
def tm2(p:Pg)(t:Tm)(a b:Int):Int×Int:=if b=0∧(t.1=8∨t.1=9)then(0,1)else(opV p.1 t.1 a b,0)
def one(tr bad:Int):Int:=if tr=0 then bad else tr
theorem one_neg {tr b:Int}(h:¬tr=0):one tr b=tr:=if_neg h
theorem by2:ti2.bytes=8:=rfl
theorem lget0 {α:Type}(a:α)(l:List α):lget (a::l) (Int.toNat 0)=some a:=rfl
theorem lget1 {α:Type}(a b:α)(l:List α):lget (a::b::l) (Int.toNat 1)=some b:=rfl
theorem lgeta {α:Type}(pre:List α)(a:α)(l:List α):lget (pre++a::l) pre.length=some a:=by
  unfold lget;rw[List.getElem?_append_right (Nat.le_refl _),Nat.sub_self];rfl
theorem lgetb {α:Type}(pre:List α)(a b:α)(l:List α):lget (pre++a::b::l) (pre.length+1)=some b:=by
  unfold lget;rw[List.getElem?_append_right (by omega),show pre.length+1-pre.length=1 by omega];rfl
theorem wr0 {n:Nat}(h:n≤1000):IntKind.i64.wrap ((n:Int)-0)=(n:Int):=by rw[w64 (by omega) (by omega)];omega
theorem wr1 {n:Nat}(h:n≤1000):IntKind.i64.wrap (((n+1:Nat):Int)-1)=(n:Int):=by rw[w64 (by omega) (by omega)];omega
theorem wr2 {n:Nat}(h:n≤1000):IntKind.i64.wrap (((n+2:Nat):Int)-2)=(n:Int):=by rw[w64 (by omega) (by omega)];omega
theorem len1 {α:Type}(pre:List α)(a:α):(pre++[a]).length=pre.length+1:=by simp
theorem len2 {α:Type}(pre:List α)(a b:α):(pre++[a,b]).length=pre.length+2:=by simp
theorem tkA {α:Type}(pre:List α)(a:α):List.take (pre.length+1-pre.length) (List.drop pre.length (pre++[a]))=[a]:=by
  rw[List.drop_left,show pre.length+1-pre.length=1 by omega];rfl
theorem tkB {α:Type}(pre:List α)(a b:α):List.take (pre.length+2-pre.length) (List.drop pre.length (pre++[a,b]))=[a,b]:=by
  rw[List.drop_left,show pre.length+2-pre.length=2 by omega];rfl
theorem takes_op {o:Int}:(o=0∨o=1→takes o=0)∧(2≤o∧o≤4→takes o=1)∧(5≤o∧o≤16→takes o=2):=by
  refine⟨fun h=>?_,fun h=>?_,fun h=>?_⟩<;>unfold takes
  . rw[if_pos h]
  . rw[if_neg (by omega),if_pos (by omega)]
  . rw[if_neg (by omega),if_neg (by omega),if_pos (by omega)]
section
variable {p:Pg}(hp:Hd p){v:ET}(hv:EnvR p v){e:List Tm}(he:Stand p e)
include hp hv he
theorem tm1_vl {j:Nat}(hj:j<e.length){a:Int}(h:2≤e[j].1∧e[j].1≤4)(ha:Vl p.1 a):Vl p.1 (tm1 p v e[j] a).1:=by
  have h1:=he.2.1.1.at hj;have h3:=he.2.1.2 _ (List.getElem_mem hj);have hs:=sz_bd hp.w;have hl:=hv.lc;unfold TmOk at h1;unfold NmOk at h3;unfold tm1;split
  . rename_i h2;split
    . rename_i h4;have h5:e[j].2.1.toNat<v.2.1.length:=by have:=h3.2.2 h2;omega
      rw[getl_lt h5]at h4⊢;rw[geti_lt (by have:=ha.1;omega)];exact(hv.cs _ h5 (by omega)).2 _ (List.getElem_mem _)
    . exact⟨Int.le_refl _,by show(0:Int)<sz p.1;omega⟩
  . exact opV_vl hp.w ha ⟨by omega,by omega⟩
omit hv he in
theorem tm2_vl {t:Tm}{a b:Int}(ha:Vl p.1 a)(hb:Vl p.1 b):Vl p.1 (tm2 p t a b).1:=by
  have hs:=sz_bd hp.w;unfold tm2;split
  . exact⟨Int.le_refl _,by show(0:Int)<sz p.1;omega⟩
  . exact opV_vl hp.w ha hb
theorem tm0_vl {j:Nat}(hj:j<e.length)(h:e[j].1=0∨e[j].1=1):Vl p.1 (tm0 v e[j]):=by
  have h1:=he.2.1.1.at hj;have h3:=he.2.1.2 _ (List.getElem_mem hj);have hl:=hv.lv;unfold TmOk at h1;unfold NmOk at h3;unfold tm0;split
  . rename_i h2;exact⟨by omega,h3.1 h2⟩
  . have:=h3.2.1 (by omega);rw[geti_lt (by omega)];exact hv.vs _ (List.getElem_mem _)
theorem s0 {j:Nat}(hj:j<e.length)(h:e[j].1=0∨e[j].1=1){st:List Int}(hst:st.length≤100){tr:Int}{P:(Int×(Int×Unit))×Unit→Prop}{d:Nat}
    (H:Tq d (fun k q=>spec_l5Value.L0 (cl k) k v e ((sz p.1,()),()) q tr ((j+1:Nat):Int) (st++[tm0 v e[j]])) P):Tq (d+1) (fun k q=>spec_l5Value.L0 (cl k) k v e ((sz p.1,()),()) q tr (j:Int) st) P:=by
  have h1:=he.2.1.1.at hj;have h3:=he.2.1.2 _ (List.getElem_mem hj);have hl:=hv.lv;have h40:=he.1;unfold TmOk at h1;unfold NmOk at h3;refine Tq.succ ?_;show Tq _ (fun k q=>spec_l5Value.step0 (cl k) k ..) _
  unfold spec_l5Value.step0;refine Tq.bt (dlt hj) (Tq.bt (dle0 _) (Tq.some (lg hj) (Tq.ba (sTakes_ans _) ?_)));dsimp only;rw[takes_op.1 h];unfold tm0 at H;rcases h with c|c
  . rw[if_pos c]at H;simp only[c,Int.reduceBEq,cond_true,cond_false,wr0 (show st.length≤1000 by omega),zt,by2,Nat.sub_self,Nat.sub_zero,List.take_length,List.drop_length,List.take_zero,List.length_nil]
    repeat'((first|(refine Tq.bt (apb (by simp only[List.length_cons,List.length_nil];omega)) ?_)|refine .t ?_|refine .u ?_|refine .some lg0 ?_|refine .some lg ?_|refine .some lgI ?_|(refine .bif (fun zz=>?_) (fun zz=>?_)<;>try simp(disch:=omega)only[zs,w64,zt]at zz))<;>try dsimp only)
    . obtain rfl:tr=0:=by assumption
      rw[ws hj (by omega)];exact H
    . rw[ws hj (by omega)];exact H
  . rw[if_neg (by omega)]at H;have:=h3.2.1 c;simp only[c,Int.reduceBEq,cond_true,cond_false,wr0 (show st.length≤1000 by omega),zt,by2,Nat.sub_self,Nat.sub_zero,List.take_length,List.drop_length,List.take_zero,List.length_nil]
    repeat'((first|(refine Tq.bt (apb (by simp only[List.length_cons,List.length_nil];omega)) ?_)|refine .t ?_|refine .u ?_|refine .some lg0 ?_|refine .some lg ?_|refine .some lgI ?_|(refine .bif (fun zz=>?_) (fun zz=>?_)<;>try simp(disch:=omega)only[zs,w64,zt]at zz))<;>try dsimp only)
    . obtain rfl:tr=0:=by assumption
      rw[geti_lt (by omega)]at H;rw[ws hj (by omega)];exact H
    . rw[geti_lt (by omega)]at H;rw[ws hj (by omega)];exact H
theorem s1 {j:Nat}(hj:j<e.length)(h:2≤e[j].1∧e[j].1≤4){st:List Int}(hst:st.length≤100){a:Int}(ha:Vl p.1 a){tr:Int}{P:(Int×(Int×Unit))×Unit→Prop}{d:Nat}
    (H:Tq d (fun k q=>spec_l5Value.L0 (cl k) k v e ((sz p.1,()),()) q (one tr (tm1 p v e[j] a).2) ((j+1:Nat):Int) (st++[(tm1 p v e[j] a).1])) P):Tq (d+1) (fun k q=>spec_l5Value.L0 (cl k) k v e ((sz p.1,()),()) q tr (j:Int) (st++[a])) P:=by
  have h1:=he.2.1.1.at hj;have h3:=he.2.1.2 _ (List.getElem_mem hj);have hl:=hv.lc;have hs:=sz_bd hp.w;have h40:=he.1;unfold TmOk at h1;unfold NmOk at h3;have ha1:=ha.1;refine Tq.succ ?_;show Tq _ (fun k q=>spec_l5Value.step0 (cl k) k ..) _
  unfold spec_l5Value.step0;refine Tq.bt (dlt hj) (Tq.bt (dle0 _) (Tq.some (lg hj) (Tq.ba (sTakes_ans _) ?_)));dsimp only;rw[takes_op.2.1 h];have n1:=@wr1 st.length (by omega);unfold tm1 at H;rcases(by omega:e[j].1=2∨e[j].1=3∨e[j].1=4)with c|c|c
  . rw[if_pos c]at H;have h5:e[j].2.1.toNat<v.2.1.length:=by have:=h3.2.2 c;omega
    rw[getl_lt h5]at H;simp only[c,Int.reduceBEq,cond_true,cond_false,len1,n1,zt,by2,tkA,List.nil_append,lget0,Option.bind_some,Nat.sub_zero,List.take_left]
    repeat'((first|(refine Tq.bt (apb (by simp only[List.length_cons,List.length_nil];omega)) ?_)|(refine Tq.bt (show(decide (0≤0)&&decide (Int.toNat 0<[a].length))=true from rfl) ?_)|refine .t ?_|refine .u ?_|refine .some lg0 ?_|refine .some lg ?_|refine .some lgI ?_|(refine .bif (fun zz=>?_) (fun zz=>?_)<;>try simp(disch:=omega)only[zs,w64,zt]at zz))<;>try dsimp only)
    all_goals(rw[ws hj (by omega)])
    all_goals first
      |(rw[if_pos (by assumption),geti_lt (by omega)]at H)
      |(rw[if_neg (by omega)]at H)
    all_goals first
      |(subst zz;exact H)
      |(rw[one_neg zz]at H;exact H)
  all_goals
    rw[if_neg (by omega)]at H;have ho:=opS_ans hp.w ha ⟨Int.le_refl 0,by omega⟩ (o:=e[j].1) (by omega);rw[if_neg (by omega)]at ho;simp only[c,Int.reduceBEq,cond_true,cond_false,len1,n1,zt,by2,tkA,List.nil_append,lget0,Option.bind_some,Nat.sub_zero,List.take_left]
    repeat'((first|(refine Tq.bt (apb (by simp only[List.length_cons,List.length_nil];omega)) ?_)|(refine Tq.bt (show(decide (0≤0)&&decide (Int.toNat 0<[a].length))=true from rfl) ?_)|refine .ba ho ?_|refine .t ?_|refine .u ?_|refine .some lg0 ?_|refine .some lg ?_|refine .some lgI ?_|(refine .bif (fun zz=>?_) (fun zz=>?_)<;>try simp(disch:=omega)only[zs,w64,zt]at zz))<;>try dsimp only)
    all_goals(rw[ws hj (by omega)])
    all_goals first
      |(subst zz;exact H)
      |(rw[one_neg zz]at H;exact H)
theorem s2 {j:Nat}(hj:j<e.length)(h:5≤e[j].1∧e[j].1≤16){st:List Int}(hst:st.length≤100){a b:Int}(ha:Vl p.1 a)(hb:Vl p.1 b){tr:Int}{P:(Int×(Int×Unit))×Unit→Prop}{d:Nat}
    (H:Tq d (fun k q=>spec_l5Value.L0 (cl k) k v e ((sz p.1,()),()) q (one tr (tm2 p e[j] a b).2) ((j+1:Nat):Int) (st++[(tm2 p e[j] a b).1])) P):Tq (d+1) (fun k q=>spec_l5Value.L0 (cl k) k v e ((sz p.1,()),()) q tr (j:Int) (st++[a,b])) P:=by
  have h1:=he.2.1.1.at hj;have h40:=he.1;unfold TmOk at h1;refine Tq.succ ?_;show Tq _ (fun k q=>spec_l5Value.step0 (cl k) k ..) _
  unfold spec_l5Value.step0;refine Tq.bt (dlt hj) (Tq.bt (dle0 _) (Tq.some (lg hj) (Tq.ba (sTakes_ans _) ?_)));dsimp only;rw[takes_op.2.2 h];have n1:=@wr2 st.length (by omega);unfold tm2 at H;have ho:=opS_ans hp.w ha hb (o:=e[j].1) (by omega);simp only[len2,n1,zt,by2,tkB,List.nil_append,lget0,lget1,Option.bind_some,Nat.sub_zero,List.take_left];by_cases c8:e[j].1=8∨e[j].1=9
  . rcases c8 with c|c
    all_goals
      by_cases c0:b=0
      . rw[if_pos ⟨by omega,c0⟩]at ho;rw[if_pos ⟨c0,by omega⟩]at H
        repeat'((first|(refine Tq.bt (apb (by simp only[List.length_cons,List.length_nil];omega)) ?_)|(refine Tq.bt (show(decide (0≤0)&&decide (Int.toNat 0<[a,b].length))=true from rfl) ?_)|(refine Tq.bt (show(decide (0≤1)&&decide (Int.toNat 1<[a,b].length))=true from rfl) ?_)|refine .ba ho ?_|refine .t ?_|refine .u ?_|refine .some lg0 ?_|refine .some lg ?_|refine .some lgI ?_|(refine .bif (fun zz=>?_) (fun zz=>?_)<;>try simp(disch:=omega)only[zs,w64,zt]at zz))<;>try dsimp only)
        all_goals(rw[ws hj (by omega)])
        all_goals first
          |(subst zz;exact H)
          |(rw[one_neg zz]at H;exact H)
      . rw[if_neg (fun e=>c0 e.2)]at ho;rw[if_neg (fun e=>c0 e.1)]at H
        repeat'((first|(refine Tq.bt (apb (by simp only[List.length_cons,List.length_nil];omega)) ?_)|(refine Tq.bt (show(decide (0≤0)&&decide (Int.toNat 0<[a,b].length))=true from rfl) ?_)|(refine Tq.bt (show(decide (0≤1)&&decide (Int.toNat 1<[a,b].length))=true from rfl) ?_)|refine .ba ho ?_|refine .t ?_|refine .u ?_|refine .some lg0 ?_|refine .some lg ?_|refine .some lgI ?_|(refine .bif (fun zz=>?_) (fun zz=>?_)<;>try simp(disch:=omega)only[zs,w64,zt]at zz))<;>try dsimp only)
        all_goals(rw[ws hj (by omega)])
        all_goals first
          |(subst zz;exact H)
          |(rw[one_neg zz]at H;exact H)
  . rw[if_neg (fun e=>c8 e.1)]at ho;rw[if_neg (fun e=>c8 e.2)]at H
    repeat'((first|(refine Tq.bt (apb (by simp only[List.length_cons,List.length_nil];omega)) ?_)|(refine Tq.bt (show(decide (0≤0)&&decide (Int.toNat 0<[a,b].length))=true from rfl) ?_)|(refine Tq.bt (show(decide (0≤1)&&decide (Int.toNat 1<[a,b].length))=true from rfl) ?_)|refine .ba ho ?_|refine .t ?_|refine .u ?_|refine .some lg0 ?_|refine .some lg ?_|refine .some lgI ?_|(refine .bif (fun zz=>?_) (fun zz=>?_)<;>try simp(disch:=omega)only[zs,w64,zt]at zz))<;>try dsimp only)
    all_goals(rw[ws hj (by omega)])
    all_goals first
      |(subst zz;exact H)
      |(rw[one_neg zz]at H;exact H)
theorem i0 {j:Nat}(hj:j<e.length)(h:e[j].1=0∨e[j].1=1){st:List Int}(hst:st.length≤100){P:(Int×(Int×Unit))×Unit→Prop}{d:Nat}
    (H:Tq d (fun k q=>impl_reckon.L0 (cl k) k p v e false q ((j+1:Nat):Int) (st++[tm0 v e[j]])) P):Tq (d+1) (fun k q=>impl_reckon.L0 (cl k) k p v e false q (j:Int) st) P:=by
  have h1:=he.2.1.1.at hj;have h3:=he.2.1.2 _ (List.getElem_mem hj);have hl:=hv.lv;have h40:=he.1;unfold TmOk at h1;unfold NmOk at h3;refine Tq.succ ?_;show Tq _ (fun k q=>impl_reckon.step0 (cl k) k ..) _
  unfold impl_reckon.step0;refine Tq.bt (dlt hj) (Tq.bt (dle0 _) (Tq.some (lg hj) (Tq.ba (iTakes_ans _) ?_)));dsimp only;rw[takes_op.1 h];unfold tm0 at H;rcases h with c|c
  . rw[if_pos c]at H;simp only[c,Int.reduceBEq,cond_true,cond_false,wr0 (show st.length≤1000 by omega),zt,by2,Nat.sub_zero,List.take_length]
    repeat'((first|(refine Tq.bt (apb (by simp only[List.length_cons,List.length_nil];omega)) ?_)|refine .t ?_|refine .u ?_|refine .some lg0 ?_|refine .some lg ?_|refine .some lgI ?_|(refine .bif (fun zz=>?_) (fun zz=>?_)<;>try simp(disch:=omega)only[zs,w64,zt]at zz))<;>try dsimp only)
    rw[ws hj (by omega)];exact H
  . rw[if_neg (by omega)]at H;have:=h3.2.1 c;simp only[c,Int.reduceBEq,cond_true,cond_false,wr0 (show st.length≤1000 by omega),zt,by2,Nat.sub_zero,List.take_length]
    repeat'((first|(refine Tq.bt (apb (by simp only[List.length_cons,List.length_nil];omega)) ?_)|refine .t ?_|refine .u ?_|refine .some lg0 ?_|refine .some lg ?_|refine .some lgI ?_|(refine .bif (fun zz=>?_) (fun zz=>?_)<;>try simp(disch:=omega)only[zs,w64,zt]at zz))<;>try dsimp only)
    rw[geti_lt (by omega)]at H;rw[ws hj (by omega)];exact H
theorem i1 {j:Nat}(hj:j<e.length)(h:2≤e[j].1∧e[j].1≤4){st:List Int}(hst:st.length≤100){a:Int}(ha:Vl p.1 a){P:(Int×(Int×Unit))×Unit→Prop}{d:Nat}
    (H0:(tm1 p v e[j] a).2=0→Tq d (fun k q=>impl_reckon.L0 (cl k) k p v e false q ((j+1:Nat):Int) (st++[(tm1 p v e[j] a).1])) P) (H1:(tm1 p v e[j] a).2≠0→P ((0,(tm1 p v e[j] a).2,()),())):
    Tq (d+1) (fun k q=>impl_reckon.L0 (cl k) k p v e false q (j:Int) (st++[a])) P:=by
  have h1:=he.2.1.1.at hj;have h3:=he.2.1.2 _ (List.getElem_mem hj);have hl:=hv.lc;have hs:=sz_bd hp.w;have h40:=he.1;unfold TmOk at h1;unfold NmOk at h3;have ha1:=ha.1;refine Tq.succ ?_;show Tq _ (fun k q=>impl_reckon.step0 (cl k) k ..) _
  unfold impl_reckon.step0;refine Tq.bt (dlt hj) (Tq.bt (dle0 _) (Tq.some (lg hj) (Tq.ba (iTakes_ans _) ?_)));dsimp only;rw[takes_op.2.1 h];have n1:=@wr1 st.length (by omega);unfold tm1 at H0 H1;rcases(by omega:e[j].1=2∨e[j].1=3∨e[j].1=4)with c|c|c
  . rw[if_pos c]at H0 H1;have h5:e[j].2.1.toNat<v.2.1.length:=by have:=h3.2.2 c;omega
    have h6:=(hv.cs _ h5 (by omega)).1;rw[getl_lt h5]at H0 H1;simp only[c,Int.reduceBEq,cond_true,cond_false,len1,n1,zt,by2,Int.toNat_zero,Nat.add_zero,lgeta,Option.bind_some,Nat.sub_zero,List.take_left]
    repeat'((first|(refine Tq.bt (apb (by simp only[List.length_cons,List.length_nil];omega)) ?_)|refine .t ?_|refine .u ?_|refine .some lg0 ?_|refine .some lg ?_|refine .some lgI ?_|(refine .bif (fun zz=>?_) (fun zz=>?_)<;>try simp(disch:=omega)only[zs,w64,zt]at zz))<;>try dsimp only)
    . rw[if_pos (by omega),geti_lt (by omega)]at H0;rw[ws hj (by omega)];exact H0 rfl
    . rw[if_neg (by omega)]at H1;exact Tq.ret (H1 (by decide))
  all_goals
    rw[if_neg (by omega)]at H0;have ho:=turn_ans hp.w ha (o:=e[j].1) (by omega);rw[c]at ho H0;simp only[c,Int.reduceBEq,cond_true,cond_false,len1,n1,zt,by2,Int.toNat_zero,Nat.add_zero,lgeta,Option.bind_some,Nat.sub_zero,List.take_left]
    repeat'((first|(refine Tq.bt (apb (by simp only[List.length_cons,List.length_nil];omega)) ?_)|refine .ba ho ?_|refine .t ?_|refine .u ?_|refine .some lg0 ?_|refine .some lg ?_|refine .some lgI ?_|(refine .bif (fun zz=>?_) (fun zz=>?_)<;>try simp(disch:=omega)only[zs,w64,zt]at zz))<;>try dsimp only)
    rw[ws hj (by omega)];exact H0 rfl
theorem i2 {j:Nat}(hj:j<e.length)(h:5≤e[j].1∧e[j].1≤16){st:List Int}(hst:st.length≤100){a b:Int}(ha:Vl p.1 a)(hb:Vl p.1 b){P:(Int×(Int×Unit))×Unit→Prop}{d:Nat}
    (H0:(tm2 p e[j] a b).2=0→Tq d (fun k q=>impl_reckon.L0 (cl k) k p v e false q ((j+1:Nat):Int) (st++[(tm2 p e[j] a b).1])) P) (H1:(tm2 p e[j] a b).2≠0→P ((0,(tm2 p e[j] a b).2,()),())):
    Tq (d+1) (fun k q=>impl_reckon.L0 (cl k) k p v e false q (j:Int) (st++[a,b])) P:=by
  have h1:=he.2.1.1.at hj;have h40:=he.1;unfold TmOk at h1;refine Tq.succ ?_;show Tq _ (fun k q=>impl_reckon.step0 (cl k) k ..) _
  unfold impl_reckon.step0;refine Tq.bt (dlt hj) (Tq.bt (dle0 _) (Tq.some (lg hj) (Tq.ba (iTakes_ans _) ?_)));dsimp only;rw[takes_op.2.2 h];have n1:=@wr2 st.length (by omega);unfold tm2 at H0 H1;simp only[len2,n1,zt,by2,Int.toNat_zero,Int.toNat_one,Nat.add_zero,lgeta,lgetb,Option.bind_some,Nat.sub_zero,List.take_left];by_cases c8:b=0∧(e[j].1=8∨e[j].1=9)
  . rw[if_pos c8]at H1;obtain⟨c0,c8⟩:=c8;rcases c8 with c|c
    all_goals
      repeat'((first|(refine Tq.bt (apb (by simp only[List.length_cons,List.length_nil];omega)) ?_)|refine .t ?_|refine .u ?_|refine .some lg0 ?_|refine .some lg ?_|refine .some lgI ?_|(refine .bif (fun zz=>?_) (fun zz=>?_)<;>try simp(disch:=omega)only[zs,w64,zt]at zz))<;>try dsimp only)
      exact Tq.ret (H1 (by decide))
  . rw[if_neg c8]at H0;have ho:=join_ans hp.w ha hb h (fun e h0=>c8 ⟨h0,e⟩)
    repeat'((first|(refine Tq.bt (apb (by simp only[List.length_cons,List.length_nil];omega)) ?_)|refine .ba ho ?_|refine .t ?_|refine .u ?_|refine .some lg0 ?_|refine .some lg ?_|refine .some lgI ?_|(refine .bif (fun zz=>?_) (fun zz=>?_)<;>try simp(disch:=omega)only[zs,w64,zt]at zz))<;>try dsimp only)
    all_goals(rw[ws hj (by omega)];exact H0 rfl)
end
end Go.Proofs.YtjgfofcgmcnblaaGreat.Pf
namespace Go.Proofs.YtjgfofcgmcnblaaGreat.Pf
open Go Go.Pv
def evGo(p:Pg)(v:ET):List Int→Int→List Tm→List Int×Int
  |rs,tr,[]=>(rs,tr)
  | rs,tr,t::e=>
    if t.1=0∨t.1=1 then evGo p v (tm0 v t::rs) tr e
    else if t.1≤4 then(match rs with|a::r=>evGo p v ((tm1 p v t a).1::r) (one tr (tm1 p v t a).2) e|[]=>([],tr))
    else(match rs with|b::a::r=>evGo p v ((tm2 p t a b).1::r) (one tr (tm2 p t a b).2) e| _=>([],tr))
def evV(p:Pg)(v:ET)(e:List Tm):Int:=(evGo p v [] 0 e).1.headD 0
def evT(p:Pg)(v:ET)(e:List Tm):Int:=(evGo p v [] 0 e).2
theorem ev_keep(p:Pg)(v:ET):∀(e:List Tm)(rs:List Int)(tr:Int),tr≠0→(evGo p v rs tr e).2=tr
  |[],rs,tr,h=>rfl
  | t ::e,rs,tr,h=>by
    unfold evGo;by_cases c:t.1=0∨t.1=1
    . rw[if_pos c];exact ev_keep p v e _ tr h
    rw[if_neg c];by_cases c:t.1≤4
    . rw[if_pos c];rcases rs with _|⟨a,r⟩
      . rfl
      . dsimp only;rw[one_neg h];exact ev_keep p v e _ tr h
    rw[if_neg c];rcases rs with _|⟨b,_|⟨a,r⟩⟩
    . rfl
    . rfl
    . dsimp only;rw[one_neg h];exact ev_keep p v e _ tr h
theorem tm1_bad(p:Pg)(v:ET)(t:Tm)(a:Int):(tm1 p v t a).2=0∨(tm1 p v t a).2=2:=by
  unfold tm1;by_cases c:t.1=2
  . rw[if_pos c];by_cases c:a<((getl v.2.1 t.2.1).length:Int)
    . rw[if_pos c];exact .inl rfl
    . rw[if_neg c];exact .inr rfl
  . rw[if_neg c];exact .inl rfl
theorem tm2_bad(p:Pg)(t:Tm)(a b:Int):(tm2 p t a b).2=0∨(tm2 p t a b).2=1:=by
  unfold tm2;by_cases c:b=0∧(t.1=8∨t.1=9)
  . rw[if_pos c];exact .inr rfl
  . rw[if_neg c];exact .inl rfl
section
variable {p:Pg}(hp:Hd p){v:ET}(hv:EnvR p v){e:List Tm}(he:Stand p e)
include hp hv he
theorem op_le {j:Nat}(hj:j<e.length):0≤e[j].1∧e[j].1≤16:=by
  have h1:=(he.2.1.1.at hj).1;have h2:=he.2.2 _ (List.getElem_mem hj);unfold takes at h1;by_cases c:e[j].1=0∨e[j].1=1
  . omega
  rw[if_neg c]at h1;by_cases c:2≤e[j].1∧e[j].1≤4
  . omega
  rw[if_neg c]at h1;by_cases c:5≤e[j].1∧e[j].1≤16
  . omega
  rw[if_neg c,if_neg h2]at h1;omega
theorem ev_end:∀(d j:Nat)(rs:List Int)(tr:Int),e.length-j=d→j≤e.length→(rs.length:Int)=dep e j→(∀x∈rs,Vl p.1 x)→(0≤tr∧tr≤2)→
    ∃ x t',evGo p v rs tr (e.drop j)=([x],t')∧Vl p.1 x∧0≤t'∧t'≤2∧
      Tq (d+1) (fun k q=>spec_l5Value.L0 (cl k) k v e ((sz p.1,()),()) q tr (j:Int) rs.reverse) (· =((x,t',()),()))∧
      (tr=0→Tq (d+1) (fun k q=>impl_reckon.L0 (cl k) k p v e false q (j:Int) rs.reverse) (· =((if t'=0 then x else 0,t',()),()))):=by
  have h40:=he.1;intro d
  induction d with
  | zero=>
    intro j rs tr hd hj hl hr ht;obtain rfl:j=e.length:=by omega
    rw[he.2.1.1.last]at hl;obtain⟨x,rfl⟩:∃x,rs=[x]:=List.length_eq_one_iff.1 (by omega)
    rw[List.drop_of_length_le (Nat.le_refl _)];refine⟨x,tr,rfl,hr x List.mem_cons_self,ht.1,ht.2,?_,fun h0=>?_⟩
    . refine Tq.succ ?_;show Tq _ (fun k q=>spec_l5Value.step0 (cl k) k ..) _
      unfold spec_l5Value.step0;refine Tq.bf (dnlt (Nat.le_refl _)) (Tq.bt rfl (Tq.some (lget0 x []) (Tq.ret rfl)))
    . refine Tq.succ ?_;show Tq _ (fun k q=>impl_reckon.step0 (cl k) k ..) _
      unfold impl_reckon.step0;subst h0;refine Tq.bf (dnlt (Nat.le_refl _)) (Tq.bt rfl (Tq.some (lget0 x []) (Tq.ret rfl)))
  | succ d ih=>
    intro j rs tr hd hj hl hr ht;have hj:j<e.length:=by omega
    have h1:=he.2.1.1.at hj;have h2:=dep_le he.2.1.1 j (by omega);have h3:=op_le hp hv he hj;have h4:=dep_succ hj;unfold TmOk at h1;rw[List.drop_eq_getElem_cons hj];unfold evGo;by_cases c:e[j].1=0∨e[j].1=1
    . rw[if_pos c];rw[takes_op.1 c]at h4;obtain⟨x,t',a1,a2,a3,a4,a5,a6⟩:=ih (j+1) (tm0 v e[j]::rs) tr (by omega) (by omega) (by rw[List.length_cons,h4];omega) (fun x hx=>by
        rcases List.mem_cons.1 hx with rfl|hx
        . exact tm0_vl hp hv he hj c
        . exact hr x hx) ht
      rw[List.reverse_cons]at a5 a6;exact⟨x,t',a1,a2,a3,a4,s0 hp hv he hj c (by rw[List.length_reverse];omega) a5,fun h0=>i0 hp hv he hj c (by rw[List.length_reverse];omega) (a6 h0)⟩
    rw[if_neg c];by_cases c:e[j].1≤4
    . rw[if_pos c];rw[takes_op.2.1 (by omega)]at h4 h1;rcases rs with _|⟨a,r⟩
      . rw[List.length_nil]at hl;omega
      rw[List.length_cons]at hl;have ha:=hr a List.mem_cons_self;have hb:=tm1_bad p v e[j] a;obtain⟨x,t',a1,a2,a3,a4,a5,a6⟩:=ih (j+1) ((tm1 p v e[j] a).1::r) (one tr (tm1 p v e[j] a).2) (by omega) (by omega) (by rw[List.length_cons,h4];omega) (fun x hx=>by
        rcases List.mem_cons.1 hx with rfl|hx
        . exact tm1_vl hp hv he hj (by omega) ha
        . exact hr x (List.mem_cons_of_mem _ hx)) (by unfold one;split<;>omega)
      rw[List.reverse_cons]at a5 a6;rw[List.reverse_cons];refine⟨x,t',a1,a2,a3,a4,s1 hp hv he hj (by omega) (by rw[List.length_reverse];omega) ha a5,fun h0=>i1 hp hv he hj (by omega) (by rw[List.length_reverse];omega) ha (fun e0=>a6 (by rw[h0,e0];rfl)) (fun e0=>?_)⟩;have e1:=ev_keep p v (e.drop (j+1)) ((tm1 p v e[j] a).1::r) (one tr (tm1 p v e[j] a).2) (by rw[h0];exact e0);rw[a1]at e1;have e2:t'=(tm1 p v e[j] a).2:=by rw[show t'=_ from e1,h0];rfl
      rw[e2,if_neg e0]
    . rw[if_neg c];rw[takes_op.2.2 (by omega)]at h4 h1;rcases rs with _|⟨b,_|⟨a,r⟩⟩
      . rw[List.length_nil]at hl;omega
      . rw[List.length_cons,List.length_nil]at hl;omega
      rw[List.length_cons,List.length_cons]at hl;have hb:=hr b List.mem_cons_self;have ha:=hr a (List.mem_cons_of_mem _ List.mem_cons_self);have hbad:=tm2_bad p e[j] a b;obtain⟨x,t',a1,a2,a3,a4,a5,a6⟩:=ih (j+1) ((tm2 p e[j] a b).1::r) (one tr (tm2 p e[j] a b).2) (by omega) (by omega) (by rw[List.length_cons,h4];omega) (fun x hx=>by
        rcases List.mem_cons.1 hx with rfl|hx
        . exact tm2_vl hp ha hb
        . exact hr x (List.mem_cons_of_mem _ (List.mem_cons_of_mem _ hx))) (by unfold one;split<;>omega)
      rw[List.reverse_cons]at a5 a6;rw[List.reverse_cons,List.reverse_cons,List.append_assoc,List.singleton_append];refine⟨x,t',a1,a2,a3,a4,s2 hp hv he hj (by omega) (by rw[List.length_reverse];omega) ha hb a5,fun h0=>i2 hp hv he hj (by omega) (by rw[List.length_reverse];omega) ha hb (fun e0=>a6 (by rw[h0,e0];rfl)) (fun e0=>?_)⟩;have e1:=ev_keep p v (e.drop (j+1)) ((tm2 p e[j] a b).1::r) (one tr (tm2 p e[j] a b).2) (by rw[h0];exact e0);rw[a1]at e1;have e2:t'=(tm2 p e[j] a b).2:=by rw[show t'=_ from e1,h0];rfl
      rw[e2,if_neg e0]
theorem sVal_ans:Ans n_spec_l5Value s_spec_l5Value (p,v,e,()) ((evV p v e,evT p v e,()),()):=by
  obtain⟨x,t',a1,a2,a3,a4,a5,a6⟩:=ev_end hp hv he e.length 0 [] 0 rfl (Nat.zero_le _) rfl (fun x hx=>by cases hx) ⟨by omega,by omega⟩;rw[List.drop_zero]at a1;rw[show evV p v e=x by unfold evV;rw[a1];rfl,show evT p v e=t' by unfold evT;rw[a1]];refine Gv.ans (Gv.of (fun k=>spec_l5Value.F_eq (cl k) k p v e) ?_);unfold spec_l5Value.F spec_l5Value.Fm;exact Tq.ba (size_ans p hp.w) (Tq.diag a5)
theorem iVal_ans:Ans n_impl_reckon s_impl_reckon (p,v,e,false,()) ((if evT p v e=0 then evV p v e else 0,evT p v e,()),()):=by
  obtain⟨x,t',a1,a2,a3,a4,a5,a6⟩:=ev_end hp hv he e.length 0 [] 0 rfl (Nat.zero_le _) rfl (fun x hx=>by cases hx) ⟨by omega,by omega⟩;rw[List.drop_zero]at a1;rw[show evV p v e=x by unfold evV;rw[a1];rfl,show evT p v e=t' by unfold evT;rw[a1]];refine Gv.ans (Gv.of (fun k=>impl_reckon.F_eq (cl k) k p v e false) ?_);unfold impl_reckon.F impl_reckon.Fm;exact Tq.diag (a6 rfl)
theorem ev_vl:Vl p.1 (evV p v e)∧0≤evT p v e∧evT p v e≤2:=by
  obtain⟨x,t',a1,a2,a3,a4,_,_⟩:=ev_end hp hv he e.length 0 [] 0 rfl (Nat.zero_le _) rfl (fun x hx=>by cases hx) ⟨by omega,by omega⟩;rw[List.drop_zero]at a1;rw[show evV p v e=x by unfold evV;rw[a1];rfl,show evT p v e=t' by unfold evT;rw[a1]];exact⟨a2,a3,a4⟩
end
end Go.Proofs.YtjgfofcgmcnblaaGreat.Pf
namespace Go.Proofs.YtjgfofcgmcnblaaGreat.Pf
open Go Go.Pv
theorem mkI {x b:Int}(h0:0≤x)(h:x*b≤281474976710656):(decide (x=x)&&decide (0≤x)&&decide (x*b≤281474976710656))=true:=by
  rw[decide_eq_true rfl,decide_eq_true h0,decide_eq_true h];rfl
def smAt(b:List Sm)(i:Nat):Sm:=if h:i<b.length then b[i]else(0,0,[],[],())
theorem smAt_lt {b:List Sm}{i:Nat}(h:i<b.length):smAt b i=b[i]:=dif_pos h
abbrev RS:=ET×List Int
abbrev RR:=RS×(Int×Int)
def arrAt(p:Pg)(n:Int):Int:=if h:n.toNat<p.2.2.2.2.1.length then p.2.2.2.2.1[n.toNat]else 0
theorem arrAt_lt {p:Pg}{n:Int}(h:n.toNat<p.2.2.2.2.1.length):arrAt p n=p.2.2.2.2.1[n.toNat]:=dif_pos h
def stm(p:Pg)(x:Sm)(s:RS):RR:=
  if x.1=7 then(s,1,x.2.1)
  else if x.1=1 then
    (if evT p s.1 x.2.2.1≠0 then(s,2,evT p s.1 x.2.2.1)else if evT p s.1 x.2.2.2.1≠0 then(s,2,evT p s.1 x.2.2.2.1)else if arrAt p x.2.1≤evV p s.1 x.2.2.1 then(s,2,2)
      else(((s.1.1,s.1.2.1.set x.2.1.toNat ((getl s.1.2.1 x.2.1).set (evV p s.1 x.2.2.1).toNat (evV p s.1 x.2.2.2.1)),()),s.2),0,0))
  else if evT p s.1 x.2.2.2.1≠0 then(s,2,evT p s.1 x.2.2.2.1)
  else if x.1=0 then(((s.1.1.set x.2.1.toNat (evV p s.1 x.2.2.2.1),s.1.2.1,()),s.2),0,0)
  else((s.1,s.2++[evV p s.1 x.2.2.2.1]),0,0)
def rep(f:RS→RR):Nat→RS→RR
  |0,s=>(s,0,0)
  |n+1,s=>if(f s).2.1≠0 then f s else rep f n (f s).1
def thn(x:RR)(f:RS→RR):RR:=if x.2.1≠0 then x else f x.1
def runF(p:Pg):Fs→RS→RR
  |.nil,s=>(s,0,0)
  |.leaf i r,s=>thn (stm p (smAt p.2.2.2.2.2.1 i) s) (runF p r)
  |.one i _ t r,s=>thn (if opAt p.2.2.2.2.2.1 i=2 then(if evT p s.1 (smAt p.2.2.2.2.2.1 i).2.2.2.1≠0 then(s,2,evT p s.1 (smAt p.2.2.2.2.2.1 i).2.2.2.1)else if evV p s.1 (smAt p.2.2.2.2.2.1 i).2.2.2.1≠0 then runF p t s else(s,0,0))
      else rep (runF p t) (NAt p.2.2.2.2.2.1 i).toNat s) (runF p r)
  |.two i m _ t o r,s=>thn (if opAt p.2.2.2.2.2.1 i=2 then(if evT p s.1 (smAt p.2.2.2.2.2.1 i).2.2.2.1≠0 then(s,2,evT p s.1 (smAt p.2.2.2.2.2.1 i).2.2.2.1)else if evV p s.1 (smAt p.2.2.2.2.2.1 i).2.2.2.1≠0 then runF p t s else runF p o s)
      else(if(runF p t s).2.1=1∧(runF p t s).2.2=NAt p.2.2.2.2.2.1 m then runF p o (runF p t s).1 else runF p t s)) (runF p r)
theorem thn_eq(x:RR)(f:RS→RR):(x.2.1≠0∧thn x f=x)∨(x.2.1=0∧thn x f=f x.1):=by
  unfold thn;by_cases c:x.2.1=0
  . rw[if_neg (fun h=>h c)];exact .inr ⟨c,rfl⟩
  . rw[if_pos c];exact .inl ⟨c,rfl⟩
structure Fine (p:Pg) (n:Int) (s:RS) (x:RR):Prop where
  env:EnvR p x.1.1
  out:(x.1.2.length:Int)≤s.2.length+n
  end3:x.2.1=0∨x.2.1=1∨x.2.1=2
  zero:x.2.1=0→x.2.2=0
theorem Fine.stay {p:Pg}{n:Int}{s:RS}{h:Int×Int}(hv:EnvR p s.1)(hn:0≤n)(h1:h.1=0∨h.1=1∨h.1=2)(h2:h.1=0→h.2=0):Fine p n s (s,h):=⟨hv,by show(s.2.length:Int)≤_;omega,h1,h2⟩
theorem Fine.thn {p:Pg}{n m:Int}{s:RS}{x:RR}{f:RS→RR}(h:Fine p n s x)(hm:0≤m)(hf:∀s',EnvR p s'.1→Fine p m s' (f s')):Fine p (n+m) s (Pf.thn x f):=by
  rcases thn_eq x f with⟨_,e⟩|⟨_,e⟩<;>rw[e]
  . exact⟨h.env,by have:=h.out;omega,h.end3,h.zero⟩
  . have g:=hf x.1 h.env;exact⟨g.env,by have:=g.out;have:=h.out;omega,g.end3,g.zero⟩
theorem EnvR.set {p:Pg}{v:ET}(h:EnvR p v)(n:Nat){x:Int}(hx:Vl p.1 x):EnvR p (v.1.set n x,v.2.1,()):=by
  refine⟨by show((v.1.set n x).length:Int)=_;rw[List.length_set];exact h.lv,h.lc,?_,h.cs⟩;intro y hy;rcases List.mem_or_eq_of_mem_set hy with h1|rfl
  . exact h.vs y h1
  . exact hx
theorem EnvR.setC {p:Pg}{v:ET}(h:EnvR p v){n:Int}(hn:n.toNat<v.2.1.length)(a:Nat){x:Int}(hx:Vl p.1 x):EnvR p (v.1,v.2.1.set n.toNat ((getl v.2.1 n).set a x),()):=by
  refine⟨h.lv,by show(v.2.1.set _ _).length=_;rw[List.length_set];exact h.lc,h.vs,?_⟩;intro i h1 h2;have h1':i<v.2.1.length:=by
    have:i<(v.2.1.set n.toNat ((getl v.2.1 n).set a x)).length:=h1;rw[List.length_set]at this;exact this
  have hc:=h.cs i h1' h2;by_cases e:n.toNat=i
  . subst e;have e1:(v.2.1.set n.toNat ((getl v.2.1 n).set a x))[n.toNat]'h1=(getl v.2.1 n).set a x:=List.getElem_set_self _;rw[e1,getl_lt hn];refine⟨by rw[List.length_set];exact hc.1,fun y hy=>?_⟩;rcases List.mem_or_eq_of_mem_set hy with h1|rfl
    . exact hc.2 y h1
    . exact hx
  . have e1:(v.2.1.set n.toNat ((getl v.2.1 n).set a x))[i]'h1=v.2.1[i]:=List.getElem_set_ne e _;rw[e1];exact hc
section
variable {p:Pg}(hp:Hd p)(hs:StsOk p)
include hp hs
theorem stand_exp {i:Nat}(hi:i<p.2.2.2.2.2.1.length)(h:opAt p.2.2.2.2.2.1 i=0∨opAt p.2.2.2.2.2.1 i=1∨opAt p.2.2.2.2.2.1 i=2∨opAt p.2.2.2.2.2.1 i=6):Stand p (smAt p.2.2.2.2.2.1 i).2.2.2.1:=by
  rw[opAt_lt hi]at h;rw[smAt_lt hi];exact(hs _ (List.getElem_mem hi)).2.2.2.1 h
theorem stand_at {i:Nat}(hi:i<p.2.2.2.2.2.1.length)(h:opAt p.2.2.2.2.2.1 i=1):Stand p (smAt p.2.2.2.2.2.1 i).2.2.1:=by
  rw[opAt_lt hi]at h;rw[smAt_lt hi];exact(hs _ (List.getElem_mem hi)).2.2.1.1 h
theorem leaf_op {i:Nat}(hi:i<p.2.2.2.2.2.1.length)(h:opAt p.2.2.2.2.2.1 i≠2∧opAt p.2.2.2.2.2.1 i≠3∧opAt p.2.2.2.2.2.1 i≠4∧opAt p.2.2.2.2.2.1 i≠5∧opAt p.2.2.2.2.2.1 i≠8∧opAt p.2.2.2.2.2.1 i≠9):opAt p.2.2.2.2.2.1 i=0∨opAt p.2.2.2.2.2.1 i=1∨opAt p.2.2.2.2.2.1 i=6∨opAt p.2.2.2.2.2.1 i=7:=by
  have:=(hs _ (List.getElem_mem hi)).1;rw[←opAt_lt hi]at this;omega
theorem stm_fine {i:Nat}(hi:i<p.2.2.2.2.2.1.length)(h:opAt p.2.2.2.2.2.1 i=0∨opAt p.2.2.2.2.2.1 i=1∨opAt p.2.2.2.2.2.1 i=6∨opAt p.2.2.2.2.2.1 i=7){s:RS}(hv:EnvR p s.1):Fine p 1 s (stm p (smAt p.2.2.2.2.2.1 i) s):=by
  have h2:=hs _ (List.getElem_mem hi);have hl:=hv.lc;have hN:=h2.2.1.2.1;rw[←smAt_lt hi]at hN;have ho:=opAt_lt hi;rw[←smAt_lt hi]at ho;have e1:=fun h=>stand_exp hp hs hi h
  have e2:=fun h=>stand_at hp hs hi h
  unfold stm;by_cases c7:(smAt p.2.2.2.2.2.1 i).1=7
  . rw[if_pos c7];exact .stay hv (by omega) (.inr (.inl rfl)) (fun e=>by cases e)
  rw[if_neg c7];by_cases c1:(smAt p.2.2.2.2.2.1 i).1=1
  . rw[if_pos c1];have v1:=ev_vl hp hv (e2 (by omega));have v2:=ev_vl hp hv (e1 (by omega));by_cases t1:evT p s.1 (smAt p.2.2.2.2.2.1 i).2.2.1≠0
    . rw[if_pos t1];exact .stay hv (by omega) (.inr (.inr rfl)) (fun e=>by cases e)
    rw[if_neg t1];by_cases t2:evT p s.1 (smAt p.2.2.2.2.2.1 i).2.2.2.1≠0
    . rw[if_pos t2];exact .stay hv (by omega) (.inr (.inr rfl)) (fun e=>by cases e)
    rw[if_neg t2];by_cases t3:arrAt p (smAt p.2.2.2.2.2.1 i).2.1≤evV p s.1 (smAt p.2.2.2.2.2.1 i).2.2.1
    . rw[if_pos t3];exact .stay hv (by omega) (.inr (.inr rfl)) (fun e=>by cases e)
    rw[if_neg t3];exact⟨hv.setC (by have:=hN c1;omega) _ v2.1,by show(s.2.length:Int)≤_;omega,.inl rfl,fun _=>rfl⟩
  rw[if_neg c1];have v2:=ev_vl hp hv (e1 (by omega));by_cases t2:evT p s.1 (smAt p.2.2.2.2.2.1 i).2.2.2.1≠0
  . rw[if_pos t2];exact .stay hv (by omega) (.inr (.inr rfl)) (fun e=>by cases e)
  rw[if_neg t2];by_cases c0:(smAt p.2.2.2.2.2.1 i).1=0
  . rw[if_pos c0];exact⟨hv.set _ v2.1,by show(s.2.length:Int)≤_;omega,.inl rfl,fun _=>rfl⟩
  . rw[if_neg c0];exact⟨hv,by show(((s.2++[_]).length:Nat):Int)≤_;rw[List.length_append,List.length_singleton];omega,.inl rfl,fun _=>rfl⟩
omit hp hs in
theorem rep_fine {f:RS→RR}{m:Int}(hm:0≤m)(hf:∀s',EnvR p s'.1→Fine p m s' (f s')):∀(n:Nat){s:RS},EnvR p s.1→Fine p (n*m) s (rep f n s)
  | 0,s,hv=>by
    have:=Fine.stay (p:=p) (n:=0) (s:=s) (h:=(0,0)) hv (by omega) (.inl rfl) (fun _=>rfl);rw[show(((0:Nat):Int)*m)=0 by omega];exact this
  | n+1,s,hv=>by
    have g:=hf s hv;have e:(((n+1:Nat):Int)*m)=m+n*m:=by rw[Int.natCast_succ,Int.add_mul];omega
    have hn:=Int.mul_nonneg (show(0:Int)≤n by omega) hm;rw[e];unfold rep;by_cases c:(f s).2.1≠0
    . rw[if_pos c];exact⟨g.env,by have:=g.out;omega,g.end3,g.zero⟩
    . rw[if_neg c];have r:=rep_fine hm hf n g.env;exact⟨r.env,by have:=r.out;have:=g.out;omega,r.end3,r.zero⟩
theorem run_fine {t:Fs}{i j:Nat}(h:Seg p.2.2.2.2.2.1 t i j):∀(s:RS),EnvR p s.1→Fine p (t.steps p.2.2.2.2.2.1) s (runF p t s):=by
  have hN:=hs.loop
  induction h with
  |nil=>intro s hv;exact .stay hv (Int.le_refl 0) (.inl rfl) (fun _=>rfl)
  | leaf hi ho hr ih=>
    intro s hv;exact(stm_fine hp hs hi (leaf_op hp hs hi ho) hv).thn (steps_bd hN hr).1 ih
  | @one t r i e j ho ht he hr ih1 ih2=>
    intro s hv;have h1:=ht.le;have h2:=opAt_in he (by omega);have b1:=(steps_bd hN ht).1;have b2:=(steps_bd hN hr).1;unfold runF Fs.steps;refine Fine.thn ?_ b2 ih2;by_cases c:opAt p.2.2.2.2.2.1 i=2
    . rw[if_pos c,if_pos c];have v2:=ev_vl hp hv (stand_exp hp hs (i:=i) (by omega) (by omega));by_cases t2:evT p s.1 (smAt p.2.2.2.2.2.1 i).2.2.2.1≠0
      . rw[if_pos t2];exact .stay hv (by omega) (.inr (.inr rfl)) (fun e=>by cases e)
      rw[if_neg t2];by_cases t3:evV p s.1 (smAt p.2.2.2.2.2.1 i).2.2.2.1≠0
      . rw[if_pos t3];have g:=ih1 s hv;exact⟨g.env,by have:=g.out;omega,g.end3,g.zero⟩
      . rw[if_neg t3];exact .stay hv (by omega) (.inl rfl) (fun _=>rfl)
    . rw[if_neg c,if_neg c];have c5:opAt p.2.2.2.2.2.1 i=5:=by omega
      have n4:=hN i c5;have g:=rep_fine b1 ih1 (NAt p.2.2.2.2.2.1 i).toNat hv;have e1:(((NAt p.2.2.2.2.2.1 i).toNat:Nat):Int)=NAt p.2.2.2.2.2.1 i:=by omega
      rw[e1]at g;have e2:NAt p.2.2.2.2.2.1 i*(1+t.steps p.2.2.2.2.2.1)=NAt p.2.2.2.2.2.1 i+NAt p.2.2.2.2.2.1 i*t.steps p.2.2.2.2.2.1:=by rw[Int.mul_add,Int.mul_one]
      exact⟨g.env,by have:=g.out;omega,g.end3,g.zero⟩
  | @two t o r i m e j ho ht hot he hr ih1 ih2 ih3=>
    intro s hv;have h1:=ht.le;have h3:=hot.le;have h2:=opAt_in he (by omega);have b1:=(steps_bd hN ht).1;have b2:=(steps_bd hN hot).1;have b3:=(steps_bd hN hr).1;unfold runF Fs.steps;refine Fine.thn ?_ b3 ih3;by_cases c:opAt p.2.2.2.2.2.1 i=2
    . rw[if_pos c,if_pos c];have v2:=ev_vl hp hv (stand_exp hp hs (i:=i) (by omega) (by omega));by_cases t2:evT p s.1 (smAt p.2.2.2.2.2.1 i).2.2.2.1≠0
      . rw[if_pos t2];exact .stay hv (by omega) (.inr (.inr rfl)) (fun e=>by cases e)
      rw[if_neg t2];by_cases t3:evV p s.1 (smAt p.2.2.2.2.2.1 i).2.2.2.1≠0
      . rw[if_pos t3];have g:=ih1 s hv;exact⟨g.env,by have:=g.out;omega,g.end3,g.zero⟩
      . rw[if_neg t3];have g:=ih2 s hv;exact⟨g.env,by have:=g.out;omega,g.end3,g.zero⟩
    . rw[if_neg c,if_neg c];have g:=ih1 s hv;by_cases t3:(runF p t s).2.1=1∧(runF p t s).2.2=NAt p.2.2.2.2.2.1 m
      . rw[if_pos t3];have g2:=ih2 _ g.env;exact⟨g2.env,by have:=g.out;have:=g2.out;omega,g2.end3,g2.zero⟩
      . rw[if_neg t3];exact⟨g.env,by have:=g.out;omega,g.end3,g.zero⟩
end
end Go.Proofs.YtjgfofcgmcnblaaGreat.Pf
namespace Go.Proofs.YtjgfofcgmcnblaaGreat.Pf
open Go Go.Pv IntKind
abbrev Y7_0:Type:=((Int×((List (Int×(Int×Unit)))×((List (Int×(Int×Unit)))×(Int×((List Int)×((List (Int×(Int×((List (Int×(Int×Unit)))×((List (Int×(Int×Unit)))×Unit)))))×Unit)))))))
abbrev Y7_1:Type:=(Int×((List (Int×(Int×Unit)))×((List (Int×(Int×Unit)))×(Int×((List Int)×((List (Int×(Int×((List (Int×(Int×Unit)))×((List (Int×(Int×Unit)))×Unit)))))×Unit))))))
abbrev Y7_2:Type:=(((Int×List Tr×List Tr×Unit)×Bool×Unit)×(List (Int×Int×List (Int×Int×Unit)×List (Int×Int×Unit)×Unit)×Int×Int×Int×Unit)×Unit)
abbrev Y7_3:Type:=(List (Int×(Int×((List (Int×(Int×Unit)))×((List (Int×(Int×Unit)))×Unit)))))
abbrev Y7_4:Type:=(Int×((List Go.Pv.Tr)×((List Go.Pv.Tr)×Unit)))
abbrev Y7_5:Type:=((Int)×((List (List Int))))
abbrev Y7_8:Type:=(List (List Int))
namespace impl_startAt
abbrev R:=((((List Int)×((List (List Int))×Unit))×Unit)×Unit)
def S0(a0:Y7_1)(a1:(List Int))(a2:(List Int))(v0_2:Int)(v0_3:Y7_8):St:=⟨mkS 42 [(6,.p [500006] [] 0),(7,.p [500007] [] 0),(27,.v (.slc tI) (a0.2.2.2.2.1)),(28,.v tI ((↑(List.length a0.2.2.2.2.1):Int))),(29,.v tI v0_2)],[([500007,5,1,0],.list 28 (.own 2 tI) v0_3),([500007,5,0],.list 2 tI ([]++a1++a2++List.replicate (Int.toNat a0.2.2.2.1) (Int.ofNat (nat_lit 0)))),([500007],.box (.pr (.ref [500007,5,0]) (.pr (.ref [500007,5,1,0]) (.v .unit ())))),([500006,5,1,0],.list 28 (.own 2 tI) ([])),([500006,5,0],.list 2 tI ([])),([500006],.box (.pr (.ref [500006,5,0]) (.pr (.ref [500006,5,1,0]) (.v .unit ()))))]⟩
def step0(call:Cl)(k:Nat)(a0:Y7_1)(a1:(List Int))(a2:(List Int))(r0:(Int)→(Y7_8)→Option R)(v0_2:Int)(v0_3:Y7_8):Option R:=bif decide (v0_2<(↑(List.length a0.2.2.2.2.1):Int))then bif decide (0≤v0_2)then(lget a0.2.2.2.2.1 v0_2.toNat).bind fun(y0:Int)=>bif decide (y0=y0)&&decide (0≤y0)&&decide (y0*(↑ti2.bytes:Int)≤281474976710656)then bif decide ((v0_3.length+[List.replicate y0.toNat (Int.ofNat (nat_lit 0))].length)*ti28.bytes≤140737488355328)then r0 (i64.wrap (v0_2+1)) (v0_3++[List.replicate y0.toNat (Int.ofNat (nat_lit 0))])else none else none else none else some ((([]++a1++a2++List.replicate (Int.toNat a0.2.2.2.1) (Int.ofNat (nat_lit 0)),v0_3,()),()),())
def L0(call:Cl)(k:Nat)(a0:Y7_1)(a1:(List Int))(a2:(List Int)):Nat→(Int)→(Y7_8)→Option R|0,_,_=>none|n+1,v0_2,v0_3=>step0 call k a0 a1 a2 (L0 call k a0 a1 a2 n) v0_2 v0_3
def Fm(call:Cl)(k:Nat)(l0:Y7_0→((List Int))→((List Int))→(Int)→(Y7_8)→Option R)(a0:Y7_1)(a1:(List Int))(a2:(List Int)):Option R:=bif decide ((0+a1.length)*ti2.bytes≤140737488355328)then bif decide ((([]++a1).length+a2.length)*ti2.bytes≤140737488355328)then bif decide (0≤a0.2.2.2.1)&&decide ((([]++a1++a2).length+Int.toNat a0.2.2.2.1)*ti2.bytes≤140737488355328)then l0 a0 a1 a2 0 []else none else none else none
def F(call:Cl)(k:Nat)(a0:Y7_1)(a1:(List Int))(a2:(List Int)):Option R:=Fm call k (fun a0_ a1_ a2_ v0_2_ v0_3_=>L0 call k a0_ a1_ a2_ k v0_2_ v0_3_) a0 a1 a2
theorem L0_eq(call:Cl)(k:Nat)(J:Nat→St→Option R)(a0:Y7_1)(a1:(List Int))(a2:(List Int)):∀(n:Nat)(x:Y7_5),siteI E call n_impl_startAt k s_impl_startAt (a0,a1,a2,()) J 0 n (S0 a0 a1 a2 x.1 x.2)=L0 call k a0 a1 a2 n x.1 x.2:=by
  refine loop_eq (s:=s_impl_startAt) (fun x=>S0 a0 a1 a2 x.1 x.2) (fun n x=>L0 call k a0 a1 a2 n x.1 x.2) (fun r x=>step0 call k a0 a1 a2 (fun v0_2 v0_3=>r (v0_2,v0_3)) x.1 x.2) (fun _=>rfl) (fun _ _=>rfl) fun J0 x=>?_
  kernel_rfl
theorem F_eq(call:Cl)(k:Nat)(a0:Y7_1)(a1:(List Int))(a2:(List Int)):bodyK E call n_impl_startAt k s_impl_startAt (a0,a1,a2,())=F call k a0 a1 a2:=by
  exact Eq.trans (b:=Fm call k (fun a0 a1 a2 v0_2_ v0_3_=>siteI E call n_impl_startAt k s_impl_startAt (a0,a1,a2,()) (fun _ _=>none) 0 k (S0 a0 a1 a2 v0_2_ v0_3_)) a0 a1 a2) (by kernel_rfl) (congrArg (fun l=>Fm call k l a0 a1 a2) (funext fun a0=>funext fun a1=>funext fun a2=>funext fun v0_2_=>funext fun v0_3_=>L0_eq call k (fun _ _=>none) a0 a1 a2 k (v0_2_,v0_3_)))
end impl_startAt
namespace impl_EndOf
abbrev R:=((Int×(Int×Unit))×Unit)
def Fm(call:Cl)(k:Nat)(a0:Y7_3)(a1:Int):Option R:=bif decide ((↑a0.length:Int)>40)then some (((-1),(-1),()),())else bif decide (a1<0)then some (((-1),(-1),()),())else bif decide (a1≥(↑a0.length:Int))then some (((-1),(-1),()),())else bif decide (0≤a1)then(lget a0 a1.toNat).bind fun(y0:(Int×Int×List (Int×Int×Unit)×List (Int×Int×Unit)×Unit))=>bif y0.1!=2 then bif y0.1!=5 then bif y0.1!=8 then some (((-1),(-1),()),())else(call 242 s_impl_nester_one ((a0,a1,0,0,()),())).bind fun(y1:Y7_2)=>bif !y1.1.2.1 then some (((-1),(-1),()),())else some ((y1.2.1.2.2.1,y1.2.1.2.2.2.1,()),())else(call 242 s_impl_nester_one ((a0,a1,0,0,()),())).bind fun(y2:Y7_2)=>bif !y2.1.2.1 then some (((-1),(-1),()),())else some ((y2.2.1.2.2.1,y2.2.1.2.2.2.1,()),())else(call 242 s_impl_nester_one ((a0,a1,0,0,()),())).bind fun(y3:Y7_2)=>bif !y3.1.2.1 then some (((-1),(-1),()),())else some ((y3.2.1.2.2.1,y3.2.1.2.2.2.1,()),())else none
def F(call:Cl)(k:Nat)(a0:Y7_3)(a1:Int):Option R:=Fm call k a0 a1
theorem F_eq(call:Cl)(k:Nat)(a0:Y7_3)(a1:Int):bodyK E call n_impl_EndOf k s_impl_EndOf (a0,a1,())=F call k a0 a1:=by kernel_rfl
end impl_EndOf
namespace impl_catchOf
abbrev R:=((Int×Unit)×Unit)
def Fm(call:Cl)(k:Nat)(a0:Y7_1)(a1:Y7_4):Option R:=(call 253 s_impl_EndOf (a0.2.2.2.2.2.1,a1.1,())).bind fun(y0:((Int×Int×Unit)×Unit))=>bif decide (0≤y0.1.1)then(lget a0.2.2.2.2.2.1 (Int.toNat y0.1.1)).bind fun(y1:(Int×Int×List (Int×Int×Unit)×List (Int×Int×Unit)×Unit))=>some ((y1.2.1,()),())else none
def F(call:Cl)(k:Nat)(a0:Y7_1)(a1:Y7_4):Option R:=Fm call k a0 a1
theorem F_eq(call:Cl)(k:Nat)(a0:Y7_1)(a1:Y7_4):bodyK E call n_impl_catchOf k s_impl_catchOf (a0,a1,())=F call k a0 a1:=by kernel_rfl
end impl_catchOf
end Go.Proofs.YtjgfofcgmcnblaaGreat.Pf
namespace Go.Proofs.YtjgfofcgmcnblaaGreat.Pf
open Go Go.Pv IntKind
abbrev Y8_0:Type:=((Int×(Int×Int×Unit)×Unit)×((Int×List (Int×Int×Unit)×List (Int×Int×Unit)×Int×List Int×List (Int×Int×List (Int×Int×Unit)×List (Int×Int×Unit)×Unit)×Unit)×(List Int×List (List Int)×Unit)×List Int×Unit)×Unit)
abbrev Y8_1:Type:=(((Int×Int×Unit)×Unit)×((Int×List (Int×Int×Unit)×List (Int×Int×Unit)×Int×List Int×List (Int×Int×List (Int×Int×Unit)×List (Int×Int×Unit)×Unit)×Unit)×(List Int×List (List Int)×Unit)×List Int×Unit)×Unit)
abbrev Y8_2:Type:=((Int×((List (Int×(Int×Unit)))×((List (Int×(Int×Unit)))×(Int×((List Int)×((List (Int×(Int×((List (Int×(Int×Unit)))×((List (Int×(Int×Unit)))×Unit)))))×Unit))))))×(((List Int)×((List (List Int))×Unit))×((List Int)×Unit)))
abbrev Y8_3:Type:=((Int)×((List Int))×((List (List Int)))×((List Int))×((Int×((List (Int×(Int×Unit)))×((List (Int×(Int×Unit)))×(Int×((List Int)×((List (Int×(Int×((List (Int×(Int×Unit)))×((List (Int×(Int×Unit)))×Unit)))))×Unit))))))))
abbrev Y8_4:Type:=((Int×((List (Int×(Int×Unit)))×((List (Int×(Int×Unit)))×(Int×((List Int)×((List (Int×(Int×((List (Int×(Int×Unit)))×((List (Int×(Int×Unit)))×Unit)))))×Unit)))))))
abbrev Y8_5:Type:=(Int×((List (Int×(Int×Unit)))×((List (Int×(Int×Unit)))×(Int×((List Int)×((List (Int×(Int×((List (Int×(Int×Unit)))×((List (Int×(Int×Unit)))×Unit)))))×Unit))))))
abbrev Y8_6:Type:=(Int×(Int×((List (Int×(Int×Unit)))×((List (Int×(Int×Unit)))×Unit))))
abbrev Y8_7:Type:=(Int×((List Go.Pv.Tr)×((List Go.Pv.Tr)×Unit)))
abbrev Y8_8:Type:=(List (Int×(Int×Unit)))
abbrev Y8_9:Type:=(List (List Int))
namespace impl_machine_value
abbrev R:=((Int×((Int×(Int×Unit))×Unit))×(((Int×((List (Int×(Int×Unit)))×((List (Int×(Int×Unit)))×(Int×((List Int)×((List (Int×(Int×((List (Int×(Int×Unit)))×((List (Int×(Int×Unit)))×Unit)))))×Unit))))))×(((List Int)×((List (List Int))×Unit))×((List Int)×Unit)))×Unit))
def Fm(call:Cl)(k:Nat)(a0:Y8_2)(a1:Y8_8):Option R:=(call 254 s_impl_reckon (a0.1,a0.2.1,a1,false,())).bind fun(y0:((Int×Int×Unit)×Unit))=>bif y0.1.2.1!=0 then some ((0,(2,y0.1.2.1,()),()),a0,())else some ((y0.1.1,(0,0,()),()),a0,())
def F(call:Cl)(k:Nat)(a0:Y8_2)(a1:Y8_8):Option R:=Fm call k a0 a1
theorem F_eq(call:Cl)(k:Nat)(a0:Y8_2)(a1:Y8_8):bodyK E call n_impl_machine_value k s_impl_machine_value (a0,a1,())=F call k a0 a1:=by kernel_rfl
end impl_machine_value
namespace impl_machine_put
abbrev R:=(((Int×(Int×Unit))×Unit)×(((Int×((List (Int×(Int×Unit)))×((List (Int×(Int×Unit)))×(Int×((List Int)×((List (Int×(Int×((List (Int×(Int×Unit)))×((List (Int×(Int×Unit)))×Unit)))))×Unit))))))×(((List Int)×((List (List Int))×Unit))×((List Int)×Unit)))×Unit))
def Fm(call:Cl)(k:Nat)(a0:Y8_2)(a1:Y8_6):Option R:=(call 248 s_impl_machine_value (a0,a1.2.2.1,())).bind fun(y0:Y8_0)=>bif y0.1.2.1.1!=0 then some ((y0.1.2.1,()),y0.2.1,())else(call 248 s_impl_machine_value (y0.2.1,a1.2.2.2.1,())).bind fun(y1:Y8_0)=>bif y1.1.2.1.1!=0 then some ((y1.1.2.1,()),y1.2.1,())else bif decide (0≤a1.2.1)then(lget y1.2.1.1.2.2.2.2.1 (Int.toNat a1.2.1)).bind fun(y2:Int)=>bif decide (y0.1.1≥y2)then some (((2,2,()),()),y1.2.1,())else bif decide (0≤a1.2.1)&&decide (Int.toNat a1.2.1<List.length y1.2.1.2.1.2.1)then(lget y1.2.1.2.1.2.1 (Int.toNat a1.2.1)).bind fun(y3:List Int)=>bif decide (0≤y0.1.1)&&decide (Int.toNat y0.1.1<y3.length)then(lget y1.2.1.2.1.2.1 (Int.toNat a1.2.1)).bind fun(y4:List Int)=>(lget y4 (Int.toNat y0.1.1)).bind fun(y5:Int)=>some (((0,0,()),()),(y1.2.1.1,(y1.2.1.2.1.1,List.set y1.2.1.2.1.2.1 (Int.toNat a1.2.1) (y4.set (Int.toNat y0.1.1) y1.1.1),y1.2.1.2.1.2.2),y1.2.1.2.2.1,y1.2.1.2.2.2),())else none else none else none
def F(call:Cl)(k:Nat)(a0:Y8_2)(a1:Y8_6):Option R:=Fm call k a0 a1
theorem F_eq(call:Cl)(k:Nat)(a0:Y8_2)(a1:Y8_6):bodyK E call n_impl_machine_put k s_impl_machine_put (a0,a1,())=F call k a0 a1:=by kernel_rfl
end impl_machine_put
namespace impl_machine_do
abbrev R:=(((Int×(Int×Unit))×Unit)×(((Int×((List (Int×(Int×Unit)))×((List (Int×(Int×Unit)))×(Int×((List Int)×((List (Int×(Int×((List (Int×(Int×Unit)))×((List (Int×(Int×Unit)))×Unit)))))×Unit))))))×(((List Int)×((List (List Int))×Unit))×((List Int)×Unit)))×Unit))
def S0(a1:(List Go.Pv.Tr))(v0_2:Int)(v0_5:(List Int))(v0_6:Y8_9)(v0_7:(List Int))(v0_8:Y8_5):St:=⟨mkS 23 [(0,.p [500000] [] 0),(1,.v .fo (a1)),(4,.p [500004] [] 0),(8,.v tI ((↑a1.length:Int))),(9,.v tI v0_2)],[([500004],.box (.v tTm ((0),((0),())))),([500000,5,1,1,0],.list 2 tI v0_5),([500000,5,1,0,1,0],.list 28 (.own 2 tI) v0_6),([500000,5,1,0,0],.list 2 tI v0_7),([500000],.box (.pr (.v (.sptr tPg) v0_8) (.pr (.pr (.ref [500000,5,1,0,0]) (.pr (.ref [500000,5,1,0,1,0]) (.v .unit ()))) (.pr (.ref [500000,5,1,1,0]) (.v .unit ())))))]⟩
def step0(call:Cl)(k:Nat)(a1:(List Go.Pv.Tr))(r0:(Int)→((List Int))→(Y8_9)→((List Int))→Y8_4→Option R)(v0_2:Int)(v0_5:(List Int))(v0_6:Y8_9)(v0_7:(List Int))(v0_8:Y8_5):Option R:=bif decide (v0_2<(↑a1.length:Int))then bif decide (0≤v0_2)then(lget a1 v0_2.toNat).bind fun(y0:Tr)=>(call 235 s_impl_machine_step ((v0_8,(v0_7,v0_6,()),v0_5,()),trO y0,())).bind fun(y1:Y8_1)=>bif y1.1.1.1!=0 then some ((y1.1.1,()),y1.2.1,())else r0 (i64.wrap (v0_2+1)) y1.2.1.2.2.1 y1.2.1.2.1.2.1 y1.2.1.2.1.1 y1.2.1.1 else none else some (((0,0,()),()),(v0_8,(v0_7,v0_6,()),v0_5,()),())
def L0(call:Cl)(k:Nat)(a1:(List Go.Pv.Tr)):Nat→(Int)→((List Int))→(Y8_9)→((List Int))→Y8_4→Option R|0,_,_,_,_,_=>none|n+1,v0_2,v0_5,v0_6,v0_7,v0_8=>step0 call k a1 (L0 call k a1 n) v0_2 v0_5 v0_6 v0_7 v0_8
def Fm(call:Cl)(k:Nat)(l0:((List Go.Pv.Tr))→(Int)→((List Int))→(Y8_9)→((List Int))→Y8_4→Option R)(a0:Y8_2)(a1:(List Go.Pv.Tr)):Option R:=l0 a1 0 a0.2.2.1 a0.2.1.2.1 a0.2.1.1 a0.1
def F(call:Cl)(k:Nat)(a0:Y8_2)(a1:(List Go.Pv.Tr)):Option R:=Fm call k (fun a1_ v0_2_ v0_5_ v0_6_ v0_7_ v0_8_=>L0 call k a1_ k v0_2_ v0_5_ v0_6_ v0_7_ v0_8_) a0 a1
theorem L0_eq(call:Cl)(k:Nat)(J:Nat→St→Option R)(a0:Y8_2)(a1:(List Go.Pv.Tr)):∀(n:Nat)(x:Y8_3),siteI E call n_impl_machine_do k s_impl_machine_do (a0,a1,()) J 0 n (S0 a1 x.1 x.2.1 x.2.2.1 x.2.2.2.1 x.2.2.2.2)=L0 call k a1 n x.1 x.2.1 x.2.2.1 x.2.2.2.1 x.2.2.2.2:=by
  refine loop_eq (s:=s_impl_machine_do) (fun x=>S0 a1 x.1 x.2.1 x.2.2.1 x.2.2.2.1 x.2.2.2.2) (fun n x=>L0 call k a1 n x.1 x.2.1 x.2.2.1 x.2.2.2.1 x.2.2.2.2) (fun r x=>step0 call k a1 (fun v0_2 v0_5 v0_6 v0_7 v0_8=>r (v0_2,v0_5,v0_6,v0_7,v0_8)) x.1 x.2.1 x.2.2.1 x.2.2.2.1 x.2.2.2.2) (fun _=>rfl) (fun _ _=>rfl) fun J0 x=>?_
  kernel_rfl
theorem F_eq(call:Cl)(k:Nat)(a0:Y8_2)(a1:(List Go.Pv.Tr)):bodyK E call n_impl_machine_do k s_impl_machine_do (a0,a1,())=F call k a0 a1:=by
  exact Eq.trans (b:=Fm call k (fun a1 v0_2_ v0_5_ v0_6_ v0_7_ v0_8_=>siteI E call n_impl_machine_do k s_impl_machine_do (a0,a1,()) (fun _ _=>none) 0 k (S0 a1 v0_2_ v0_5_ v0_6_ v0_7_ v0_8_)) a0 a1) (by kernel_rfl) (congrArg (fun l=>Fm call k l a0 a1) (funext fun a1=>funext fun v0_2_=>funext fun v0_5_=>funext fun v0_6_=>funext fun v0_7_=>funext fun v0_8_=>L0_eq call k (fun _ _=>none) a0 a1 k (v0_2_,v0_5_,v0_6_,v0_7_,v0_8_)))
end impl_machine_do
namespace impl_machine_step
abbrev R:=(((Int×(Int×Unit))×Unit)×(((Int×((List (Int×(Int×Unit)))×((List (Int×(Int×Unit)))×(Int×((List Int)×((List (Int×(Int×((List (Int×(Int×Unit)))×((List (Int×(Int×Unit)))×Unit)))))×Unit))))))×(((List Int)×((List (List Int))×Unit))×((List Int)×Unit)))×Unit))
def S0(a1:Y8_7)(y0:(Y8_6))(v0_2:Int)(v0_5:(List Int))(v0_6:Y8_9)(v0_7:(List Int))(v0_8:Y8_5):St:=⟨mkS 151 [(0,.p [500000] [] 0),(1,.v (.sptr (.pair tI (.pair .fo (.pair .fo .unit)))) (a1)),(4,.p [500004] [] 0),(5,.v (.sptr tSm) (y0)),(6,.v tI v0_2)],[([500004],.box (.v tTm ((0),((0),())))),([500000,5,1,1,0],.list 2 tI v0_5),([500000,5,1,0,1,0],.list 28 (.own 2 tI) v0_6),([500000,5,1,0,0],.list 2 tI v0_7),([500000],.box (.pr (.v (.sptr tPg) v0_8) (.pr (.pr (.ref [500000,5,1,0,0]) (.pr (.ref [500000,5,1,0,1,0]) (.v .unit ()))) (.pr (.ref [500000,5,1,1,0]) (.v .unit ())))))]⟩
def step0(call:Cl)(k:Nat)(a1:Y8_7)(y0:Y8_6)(r0:(Int)→((List Int))→(Y8_9)→((List Int))→Y8_4→Option R)(v0_2:Int)(v0_5:(List Int))(v0_6:Y8_9)(v0_7:(List Int))(v0_8:Y8_5):Option R:=bif decide (v0_2<y0.2.1)then(call 210 s_impl_machine_do ((v0_8,(v0_7,v0_6,()),v0_5,()),a1.2.1,())).bind fun(y2:Y8_1)=>bif y2.1.1.1!=0 then some ((y2.1.1,()),y2.2.1,())else r0 (i64.wrap (v0_2+1)) y2.2.1.2.2.1 y2.2.1.2.1.2.1 y2.2.1.2.1.1 y2.2.1.1 else some (((0,0,()),()),(v0_8,(v0_7,v0_6,()),v0_5,()),())
def L0(call:Cl)(k:Nat)(a1:Y8_7)(y0:Y8_6):Nat→(Int)→((List Int))→(Y8_9)→((List Int))→Y8_4→Option R|0,_,_,_,_,_=>none|n+1,v0_2,v0_5,v0_6,v0_7,v0_8=>step0 call k a1 y0 (L0 call k a1 y0 n) v0_2 v0_5 v0_6 v0_7 v0_8
def Fm(call:Cl)(k:Nat)(l0:(Y8_7)→(Y8_6)→(Int)→((List Int))→(Y8_9)→((List Int))→Y8_4→Option R)(a0:Y8_2)(a1:Y8_7):Option R:=bif decide (0≤a1.1)then(lget a0.1.2.2.2.2.2.1 (Int.toNat a1.1)).bind fun(y0:(Int×Int×List (Int×Int×Unit)×List (Int×Int×Unit)×Unit))=>bif y0.1==1 then(call 246 s_impl_machine_put (a0,y0,())).bind fun(y1:Y8_1)=>some ((y1.1.1,()),y1.2.1,())else bif y0.1==7 then some (((1,y0.2.1,()),()),a0,())else bif y0.1==5 then l0 a1 y0 0 a0.2.2.1 a0.2.1.2.1 a0.2.1.1 a0.1 else bif y0.1==8 then(call 210 s_impl_machine_do (a0,a1.2.1,())).bind fun(y3:Y8_1)=>bif y3.1.1.1==1 then(call 247 s_impl_catchOf (y3.2.1.1,a1,())).bind fun(y4:(Int×Unit)×Unit)=>bif y3.1.1.2.1==y4.1.1 then(call 210 s_impl_machine_do (y3.2.1,a1.2.2.1,())).bind fun(y5:Y8_1)=>some ((y5.1.1,()),y5.2.1,())else some ((y3.1.1,()),y3.2.1,())else some ((y3.1.1,()),y3.2.1,())else(call 248 s_impl_machine_value (a0,y0.2.2.2.1,())).bind fun(y6:Y8_0)=>bif y6.1.2.1.1!=0 then some ((y6.1.2.1,()),y6.2.1,())else bif y0.1==0 then bif decide (0≤y0.2.1)&&decide (Int.toNat y0.2.1<List.length y6.2.1.2.1.1)then(lget y6.2.1.2.1.1 (Int.toNat y0.2.1)).bind fun(y7:Int)=>some (((0,0,()),()),(y6.2.1.1,(List.set y6.2.1.2.1.1 (Int.toNat y0.2.1) y6.1.1,y6.2.1.2.1.2.1,y6.2.1.2.1.2.2),y6.2.1.2.2.1,y6.2.1.2.2.2),())else none else bif y0.1==6 then bif decide ((List.length y6.2.1.2.2.1+[y6.1.1].length)*ti2.bytes≤140737488355328)then some (((0,0,()),()),(y6.2.1.1,y6.2.1.2.1,y6.2.1.2.2.1++[y6.1.1],y6.2.1.2.2.2),())else none else bif y6.1.1!=0 then(call 210 s_impl_machine_do (y6.2.1,a1.2.1,())).bind fun(y8:Y8_1)=>some ((y8.1.1,()),y8.2.1,())else(call 210 s_impl_machine_do (y6.2.1,a1.2.2.1,())).bind fun(y9:Y8_1)=>some ((y9.1.1,()),y9.2.1,())else none
def F(call:Cl)(k:Nat)(a0:Y8_2)(a1:Y8_7):Option R:=Fm call k (fun a1_ y0_ v0_2_ v0_5_ v0_6_ v0_7_ v0_8_=>L0 call k a1_ y0_ k v0_2_ v0_5_ v0_6_ v0_7_ v0_8_) a0 a1
theorem L0_eq(call:Cl)(k:Nat)(J:Nat→St→Option R)(a0:Y8_2)(a1:Y8_7)(y0:Y8_6):∀(n:Nat)(x:Y8_3),siteI E call n_impl_machine_step k s_impl_machine_step (a0,a1,()) J 0 n (S0 a1 y0 x.1 x.2.1 x.2.2.1 x.2.2.2.1 x.2.2.2.2)=L0 call k a1 y0 n x.1 x.2.1 x.2.2.1 x.2.2.2.1 x.2.2.2.2:=by
  refine loop_eq (s:=s_impl_machine_step) (fun x=>S0 a1 y0 x.1 x.2.1 x.2.2.1 x.2.2.2.1 x.2.2.2.2) (fun n x=>L0 call k a1 y0 n x.1 x.2.1 x.2.2.1 x.2.2.2.1 x.2.2.2.2) (fun r x=>step0 call k a1 y0 (fun v0_2 v0_5 v0_6 v0_7 v0_8=>r (v0_2,v0_5,v0_6,v0_7,v0_8)) x.1 x.2.1 x.2.2.1 x.2.2.2.1 x.2.2.2.2) (fun _=>rfl) (fun _ _=>rfl) fun J0 x=>?_
  kernel_rfl
theorem F_eq(call:Cl)(k:Nat)(a0:Y8_2)(a1:Y8_7):bodyK E call n_impl_machine_step k s_impl_machine_step (a0,a1,())=F call k a0 a1:=by
  exact Eq.trans (b:=Fm call k (fun a1 y0 v0_2_ v0_5_ v0_6_ v0_7_ v0_8_=>siteI E call n_impl_machine_step k s_impl_machine_step (a0,a1,()) (fun _ _=>none) 0 k (S0 a1 y0 v0_2_ v0_5_ v0_6_ v0_7_ v0_8_)) a0 a1) (by kernel_rfl) (congrArg (fun l=>Fm call k l a0 a1) (funext fun a1=>funext fun y0=>funext fun v0_2_=>funext fun v0_5_=>funext fun v0_6_=>funext fun v0_7_=>funext fun v0_8_=>L0_eq call k (fun _ _=>none) a0 a1 y0 k (v0_2_,v0_5_,v0_6_,v0_7_,v0_8_)))
end impl_machine_step
namespace impl_ran
abbrev R:=((((List Int)×(Int×(Int×Unit)))×(((List Int)×((List (List Int))×Unit))×Unit))×Unit)
def Fm(call:Cl)(k:Nat)(a0:Y8_5)(a1:(List Int))(a2:(List Int)):Option R:=(call 198 s_impl_nodesOf (a0.2.2.2.2.2.1,())).bind fun(y0:((List Tr×Bool×Unit)×Unit))=>(call 209 s_impl_startAt (a0,a1,a2,())).bind fun(y1:(((List Int×List (List Int)×Unit)×Unit)×Unit))=>(call 210 s_impl_machine_do ((a0,y1.1.1,[],()),y0.1.1,())).bind fun(y2:Y8_1)=>some (((y2.2.1.2.2.1,y2.1.1.1,y2.1.1.2.1,()),y2.2.1.2.1,()),())
def F(call:Cl)(k:Nat)(a0:Y8_5)(a1:(List Int))(a2:(List Int)):Option R:=Fm call k a0 a1 a2
theorem F_eq(call:Cl)(k:Nat)(a0:Y8_5)(a1:(List Int))(a2:(List Int)):bodyK E call n_impl_ran k s_impl_ran (a0,a1,a2,())=F call k a0 a1 a2:=by kernel_rfl
end impl_ran
end Go.Proofs.YtjgfofcgmcnblaaGreat.Pf
namespace Go.Proofs.YtjgfofcgmcnblaaGreat.Pf
open Go Go.Pv
abbrev MT:=Pg×(ET×(List Int×Unit))
abbrev MR:=((Int×(Int×Unit))×Unit)×(MT×Unit)
def mk(p:Pg)(s:RS):MT:=(p,s.1,s.2,())
def mr(p:Pg)(x:RR):MR:=(((x.2.1,x.2.2,()),()),(p,x.1.1,x.1.2,()),())
def Step(p:Pg)(i:Nat)(l1 l2:List Tr)(s:RS)(x:RR):Prop:=Ans n_impl_machine_step s_impl_machine_step ((p,s.1,s.2,()),((i:Int),l1,l2,()),()) (mr p x)
def Do(p:Pg)(l:List Tr)(s:RS)(x:RR):Prop:=Ans n_impl_machine_do s_impl_machine_do ((p,s.1,s.2,()),l,()) (mr p x)
def DoL(p:Pg)(i:Nat)(l0:List Tr)(f:RS→RR)(b:Int):Prop:=∀d,p.2.2.2.2.2.1.length-i<d→∀(l:List Tr)(n:Nat)(s:RS),l.drop n=l0→n≤i→EnvR p s.1→(s.2.length:Int)+b≤13194139533312→
  Tq d (fun k q=>impl_machine_do.L0 (cl k) k l q (n:Int) s.2 s.1.2.1 s.1.1 p) (· =mr p (f s))
theorem DoL.a {p:Pg}{i:Nat}{l0:List Tr}{f:RS→RR}{b:Int}(h:DoL p i l0 f b){s:RS}(hv:EnvR p s.1)(hb:(s.2.length:Int)+b≤13194139533312):Do p l0 s (f s):=by
  refine Gv.ans (Gv.of (fun k=>impl_machine_do.F_eq (cl k) k (p,s.1,s.2,()) l0) ?_);unfold impl_machine_do.F impl_machine_do.Fm;exact Tq.diag (h (p.2.2.2.2.2.1.length-i+1) (by omega) l0 0 s rfl (by omega) hv hb)
section
variable {p:Pg}(hp:Hd p)(hs:StsOk p)
include hp
theorem mval_ans {e:List Tm}(he:Stand p e){s:RS}(hv:EnvR p s.1):Ans n_impl_machine_value s_impl_machine_value ((p,s.1,s.2,()),e,())
    ((if evT p s.1 e=0 then(evV p s.1 e,(0,0,()),())else(0,(2,evT p s.1 e,()),())),(p,s.1,s.2,()),()):=by
  have hx:=iVal_ans hp hv he;refine Gv.ans (Gv.of (fun k=>impl_machine_value.F_eq (cl k) k (p,s.1,s.2,()) e) ?_);unfold impl_machine_value.F impl_machine_value.Fm;have hx:Ans n_impl_reckon s_impl_reckon (p,(s.1.1,s.1.2.1,s.1.2.2),e,false,()) ((if evT p s.1 e=0 then evV p s.1 e else 0,evT p s.1 e,()),()):=hx;by_cases c:evT p s.1 e=0
  . rw[if_pos c]at hx⊢
    repeat'((first|refine .ba hx ?_|refine .t ?_|refine .u ?_|refine .some lg0 ?_|refine .some lg ?_|refine .some lgI ?_|(refine .bif (fun zz=>?_) (fun zz=>?_)<;>try simp(disch:=omega)only[zs,w64,zt]at zz))<;>try dsimp only)
    exact Tq.ret rfl
  . rw[if_neg c]at hx⊢
    repeat'((first|refine .ba hx ?_|refine .t ?_|refine .u ?_|refine .some lg0 ?_|refine .some lg ?_|refine .some lgI ?_|(refine .bif (fun zz=>?_) (fun zz=>?_)<;>try simp(disch:=omega)only[zs,w64,zt]at zz))<;>try dsimp only)
    exact Tq.ret rfl
include hs
theorem mput_ans {i:Nat}(hi:i<p.2.2.2.2.2.1.length)(ho:opAt p.2.2.2.2.2.1 i=1){s:RS}(hv:EnvR p s.1):Ans n_impl_machine_put s_impl_machine_put ((p,s.1,s.2,()),smAt p.2.2.2.2.2.1 i,()) (mr p (stm p (smAt p.2.2.2.2.2.1 i) s)):=by
  have h2:=hs _ (List.getElem_mem hi);have hl:=hv.lc;have hN:=h2.2.1.2.1;have o1:=opAt_lt hi;rw[←smAt_lt hi]at hN o1;have c1:(smAt p.2.2.2.2.2.1 i).1=1:=by omega
  have hN:=hN c1;have e1:=stand_exp hp hs hi (by omega);have e2:=stand_at hp hs hi ho;have x1:=mval_ans hp e2 hv;have x2:=mval_ans hp e1 hv;have v1:=(ev_vl hp hv e2).1;unfold stm;rw[if_neg (by omega),if_pos c1];refine Gv.ans (Gv.of (fun k=>impl_machine_put.F_eq (cl k) k (p,s.1,s.2,()) (smAt p.2.2.2.2.2.1 i)) ?_);unfold impl_machine_put.F impl_machine_put.Fm;by_cases t1:evT p s.1 (smAt p.2.2.2.2.2.1 i).2.2.1=0
  . rw [if_neg (fun h=>h t1)];rw[if_pos t1]at x1;by_cases t2:evT p s.1 (smAt p.2.2.2.2.2.1 i).2.2.2.1=0
    . rw[if_neg (fun h=>h t2)];rw[if_pos t2]at x2;have hc:=(hv.cs (smAt p.2.2.2.2.2.1 i).2.1.toNat (by omega) (by omega)).1;have v10:=v1.1;refine Tq.ba x1 ?_;refine Tq.bf rfl (Tq.ba x2 (Tq.bf rfl ?_));dsimp only;refine Tq.bt (decide_eq_true (by omega)) (Tq.some (lgI (by omega) (by omega)) ?_)
      try dsimp only
      rw[←arrAt_lt (p:=p) (n:=(smAt p.2.2.2.2.2.1 i).2.1) (by omega)]at hc⊢;by_cases t3:arrAt p (smAt p.2.2.2.2.2.1 i).2.1≤evV p s.1 (smAt p.2.2.2.2.2.1 i).2.2.1
      . rw[if_pos t3];exact Tq.bt (decide_eq_true t3) (Tq.ret rfl)
      . rw[if_neg t3]
        repeat'((first|refine .t ?_|refine .u ?_|refine .some lg0 ?_|refine .some lg ?_|refine .some lgI ?_|(refine .bif (fun zz=>?_) (fun zz=>?_)<;>try simp(disch:=omega)only[zs,w64,zt]at zz))<;>try dsimp only)
        rw[getl_lt (by omega)];exact Tq.ret rfl
    . rw[if_pos t2];rw[if_neg t2]at x2;refine Tq.ba x1 ?_;exact Tq.bf rfl (Tq.ba x2 (Tq.bt rfl (Tq.ret rfl)))
  . rw[if_pos t1];rw[if_neg t1]at x1;exact Tq.ba x1 (Tq.bt rfl (Tq.ret rfl))
theorem step_leaf {i:Nat}(hi:i<p.2.2.2.2.2.1.length)(h:opAt p.2.2.2.2.2.1 i=0∨opAt p.2.2.2.2.2.1 i=1∨opAt p.2.2.2.2.2.1 i=6∨opAt p.2.2.2.2.2.1 i=7){s:RS}(hv:EnvR p s.1)(hb:(s.2.length:Int)+1≤13194139533312)(l1 l2:List Tr):Step p i l1 l2 s (stm p (smAt p.2.2.2.2.2.1 i) s):=by
  have h2:=hs _ (List.getElem_mem hi);have hb2:=hp.b;have hl:=hv.lv;have hN:=h2.2.1.1;have o1:=opAt_lt hi;have hvr:Vrs p=Ins p+p.2.2.2.1:=rfl;have hin:Ins p=(p.2.1.length:Int)+(p.2.2.1.length:Int):=rfl;rw[←smAt_lt hi]at hN o1;refine Gv.ans (Gv.of (fun k=>impl_machine_step.F_eq (cl k) k (p,s.1,s.2,()) ((i:Int),l1,l2,())) ?_);unfold impl_machine_step.F impl_machine_step.Fm;refine Tq.bt (dle0 _) (Tq.some (lg hi) ?_);dsimp only;rw[←smAt_lt hi];have w:=fun c=>mput_ans hp hs hi c hv
  have x2:=fun c=>mval_ans hp (stand_exp hp hs hi c) hv
  by_cases c1:(smAt p.2.2.2.2.2.1 i).1=1
  . have w:=w (by omega)
    repeat'((first|refine .ba w ?_|refine .t ?_|refine .u ?_|refine .some lg0 ?_|refine .some lg ?_|refine .some lgI ?_|(refine .bif (fun zz=>?_) (fun zz=>?_)<;>try simp(disch:=omega)only[zs,w64,zt]at zz))<;>try dsimp only)
    exact Tq.ret rfl
  by_cases c7:(smAt p.2.2.2.2.2.1 i).1=7
  . unfold stm;rw[if_pos c7]
    repeat'((first|refine .t ?_|refine .u ?_|refine .some lg0 ?_|refine .some lg ?_|refine .some lgI ?_|(refine .bif (fun zz=>?_) (fun zz=>?_)<;>try simp(disch:=omega)only[zs,w64,zt]at zz))<;>try dsimp only)
    exact Tq.ret rfl
  have x2:=x2 (by omega);unfold stm;rw[if_neg c7,if_neg c1];by_cases t2:evT p s.1 (smAt p.2.2.2.2.2.1 i).2.2.2.1=0
  . rw[if_neg (fun h=>h t2)];rw[if_pos t2]at x2;by_cases c0:(smAt p.2.2.2.2.2.1 i).1=0
    . rw[if_pos c0]
      repeat'((first|refine .ba x2 ?_|refine .t ?_|refine .u ?_|refine .some lg0 ?_|refine .some lg ?_|refine .some lgI ?_|(refine .bif (fun zz=>?_) (fun zz=>?_)<;>try simp(disch:=omega)only[zs,w64,zt]at zz))<;>try dsimp only)
      exact Tq.ret rfl
    . rw[if_neg c0]
      repeat'((first|refine .ba x2 ?_|(refine Tq.bt (apb (by rw[by2];simp only[List.length_cons,List.length_nil];omega)) ?_)|refine .t ?_|refine .u ?_|refine .some lg0 ?_|refine .some lg ?_|refine .some lgI ?_|(refine .bif (fun zz=>?_) (fun zz=>?_)<;>try simp(disch:=omega)only[zs,w64,zt]at zz))<;>try dsimp only)
      exact Tq.ret rfl
  . rw[if_pos t2];rw[if_neg t2]at x2
    repeat'((first|refine .ba x2 ?_|refine .t ?_|refine .u ?_|refine .some lg0 ?_|refine .some lg ?_|refine .some lgI ?_|(refine .bif (fun zz=>?_) (fun zz=>?_)<;>try simp(disch:=omega)only[zs,w64,zt]at zz))<;>try dsimp only)
    exact Tq.ret rfl
theorem step_if {i:Nat}(ho:opAt p.2.2.2.2.2.1 i=2){l1 l2:List Tr}{s:RS}(hv:EnvR p s.1){x1 x2:RR}(h1:Do p l1 s x1)(h2:Do p l2 s x2):
    Step p i l1 l2 s (if evT p s.1 (smAt p.2.2.2.2.2.1 i).2.2.2.1≠0 then(s,2,evT p s.1 (smAt p.2.2.2.2.2.1 i).2.2.2.1)else if evV p s.1 (smAt p.2.2.2.2.2.1 i).2.2.2.1≠0 then x1 else x2):=by
  have hi:=opAt_in ho (by omega);have o1:=opAt_lt hi;rw[←smAt_lt hi]at o1;have x2':=mval_ans hp (stand_exp hp hs hi (by omega)) hv;refine Gv.ans (Gv.of (fun k=>impl_machine_step.F_eq (cl k) k (p,s.1,s.2,()) ((i:Int),l1,l2,())) ?_);unfold impl_machine_step.F impl_machine_step.Fm;refine Tq.bt (dle0 _) (Tq.some (lg hi) ?_);dsimp only;rw[←smAt_lt hi];by_cases t2:evT p s.1 (smAt p.2.2.2.2.2.1 i).2.2.2.1=0
  . rw[if_neg (fun h=>h t2)];rw[if_pos t2]at x2';by_cases t3:evV p s.1 (smAt p.2.2.2.2.2.1 i).2.2.2.1=0
    . rw[if_neg (fun h=>h t3)]
      repeat'((first|refine .ba x2' ?_|refine .ba h2 ?_|refine .t ?_|refine .u ?_|refine .some lg0 ?_|refine .some lg ?_|refine .some lgI ?_|(refine .bif (fun zz=>?_) (fun zz=>?_)<;>try simp(disch:=omega)only[zs,w64,zt]at zz))<;>try dsimp only)
      exact Tq.ret rfl
    . rw[if_pos t3]
      repeat'((first|refine .ba x2' ?_|refine .ba h1 ?_|refine .t ?_|refine .u ?_|refine .some lg0 ?_|refine .some lg ?_|refine .some lgI ?_|(refine .bif (fun zz=>?_) (fun zz=>?_)<;>try simp(disch:=omega)only[zs,w64,zt]at zz))<;>try dsimp only)
      exact Tq.ret rfl
  . rw[if_pos t2];rw[if_neg t2]at x2'
    repeat'((first|refine .ba x2' ?_|refine .t ?_|refine .u ?_|refine .some lg0 ?_|refine .some lg ?_|refine .some lgI ?_|(refine .bif (fun zz=>?_) (fun zz=>?_)<;>try simp(disch:=omega)only[zs,w64,zt]at zz))<;>try dsimp only)
    exact Tq.ret rfl
theorem step_loop {i:Nat}(ho:opAt p.2.2.2.2.2.1 i=5){l1 l2:List Tr}{f:RS→RR}{b:Int}(hb:0≤b)(hf:∀s',EnvR p s'.1→Fine p b s' (f s'))(hD:∀s',EnvR p s'.1→(s'.2.length:Int)+b≤13194139533312→Do p l1 s' (f s'))
    {s:RS} (hv:EnvR p s.1) (hB:(s.2.length:Int)+(NAt p.2.2.2.2.2.1 i).toNat*b≤13194139533312):Step p i l1 l2 s (rep f (NAt p.2.2.2.2.2.1 i).toNat s):=by
  have hi:=opAt_in ho (by omega);have o1:=opAt_lt hi;rw[←smAt_lt hi]at o1;have hN:=hs.loop i ho;have eN:=NAt_lt hi;rw[←smAt_lt hi]at eN;refine Gv.ans (Gv.of (fun k=>impl_machine_step.F_eq (cl k) k (p,s.1,s.2,()) ((i:Int),l1,l2,())) ?_);unfold impl_machine_step.F impl_machine_step.Fm;refine Tq.bt (dle0 _) (Tq.some (lg hi) ?_);dsimp only;rw[←smAt_lt hi];refine Tq.bf (beq_eq_false_iff_ne.2 (by omega)) (Tq.bf (beq_eq_false_iff_ne.2 (by omega)) (Tq.bt (beq_iff_eq.2 (by omega)) ?_));have key:∀(d n:Nat)(s:RS),n+d=(NAt p.2.2.2.2.2.1 i).toNat→EnvR p s.1→(s.2.length:Int)+d*b≤13194139533312→
      Tq (d+1) (fun k q=>impl_machine_step.L0 (cl k) k ((i:Int),l1,l2,()) (smAt p.2.2.2.2.2.1 i) q (n:Int) s.2 s.1.2.1 s.1.1 p) (· =mr p (rep f d s)):=by
    intro d
    induction d with
    | zero=>
      intro n s hn hv hB;refine Tq.succ ?_;show Tq _ (fun k q=>impl_machine_step.step0 (cl k) k ..) _
      unfold impl_machine_step.step0
      repeat'((first|refine .t ?_|refine .u ?_|refine .some lg0 ?_|refine .some lg ?_|refine .some lgI ?_|(refine .bif (fun zz=>?_) (fun zz=>?_)<;>try simp(disch:=omega)only[zs,w64,zt]at zz))<;>try dsimp only)
      exact Tq.ret rfl
    | succ d ih=>
      intro n s hn hv hB;have e:(((d+1:Nat):Int)*b)=b+d*b:=by rw[Int.natCast_succ,Int.add_mul];omega
      have hnn:=Int.mul_nonneg (show(0:Int)≤d by omega) hb;have hd:=hD s hv (by omega);have hd:Ans n_impl_machine_do s_impl_machine_do ((p,(s.1.1,s.1.2.1,()),s.2,()),l1,()) (mr p (f s)):=hd;have g:=hf s hv;refine Tq.succ ?_;show Tq _ (fun k q=>impl_machine_step.step0 (cl k) k ..) _
      unfold impl_machine_step.step0;refine Tq.bt (decide_eq_true (by omega)) (Tq.ba hd ?_);unfold rep;by_cases c:(f s).2.1=0
      . rw[if_neg (fun h=>h c)];refine Tq.bf (by show((f s).2.1 !=0)=false;rw[c];rfl) ?_;rw[ws (n:=4) (by omega) (by omega)];exact ih (n+1) (f s).1 (by omega) g.env (by have:=g.out;omega)
      . rw[if_pos c];exact Tq.bt (by show((f s).2.1 !=0)=true;exact bne_iff_ne.2 c) (Tq.ret rfl)
  exact Tq.diag (key _ 0 s (by omega) hv (by omega))
end
end Go.Proofs.YtjgfofcgmcnblaaGreat.Pf
namespace Go.Proofs.YtjgfofcgmcnblaaGreat.Pf
open Go Go.Pv
section
variable {p:Pg}(hp:Hd p)(hs:StsOk p)
include hp
theorem catch_ans {i m z:Nat}{l1 l2:List Tr}(ho:opAt p.2.2.2.2.2.1 i=8)(hm:opAt p.2.2.2.2.2.1 m=9)(h1:Many p.2.2.2.2.2.1 (i+1) l1 m)(h2:Many p.2.2.2.2.2.1 (m+1) l2 z)(hz:opAt p.2.2.2.2.2.1 z=4)(n1 n2:List Tr):
    Ans n_impl_catchOf s_impl_catchOf (p,((i:Int),n1,n2,()),()) ((NAt p.2.2.2.2.2.1 m,()),()):=by
  have hb:=hp.b;have hi:=opAt_in ho (by omega);have hm2:=opAt_in hm (by omega);have o1:=opAt_lt hi;have hE:Ans n_impl_EndOf s_impl_EndOf (p.2.2.2.2.2.1,(i:Int),()) (((m:Int),(z:Int),()),()):=by
    refine Gv.ans (Gv.of (fun k=>impl_EndOf.F_eq (cl k) k p.2.2.2.2.2.1 i) ?_);unfold impl_EndOf.F impl_EndOf.Fm
    repeat'((first|(refine .bind (one_two (by omega) (.inr ⟨ho,hm⟩) h1 h2 hz 0 0).tq ?_;rintro y ⟨m',e',⟨rfl,rfl⟩,rfl⟩)|refine .t ?_|refine .u ?_|refine .some lg0 ?_|refine .some lg ?_|refine .some lgI ?_|(refine .bif (fun zz=>?_) (fun zz=>?_)<;>try simp(disch:=omega)only[zs,w64,zt]at zz))<;>try dsimp only)
    exact Tq.ret rfl
  refine Gv.ans (Gv.of (fun k=>impl_catchOf.F_eq (cl k) k p ((i:Int),n1,n2,())) ?_);unfold impl_catchOf.F impl_catchOf.Fm
  repeat'((first|refine .ba hE ?_|refine .t ?_|refine .u ?_|refine .some lg0 ?_|refine .some lg ?_|refine .some lgI ?_|(refine .bif (fun zz=>?_) (fun zz=>?_)<;>try simp(disch:=omega)only[zs,w64,zt]at zz))<;>try dsimp only)
  rw[NAt_lt hm2];exact Tq.ret rfl
theorem step_try {i:Nat}(ho:opAt p.2.2.2.2.2.1 i=8){l1 l2:List Tr}{s:RS}{x1 x2:RR}{c:Int}(h1:Do p l1 s x1)(h2:Do p l2 x1.1 x2)(hc:Ans n_impl_catchOf s_impl_catchOf (p,((i:Int),l1,l2,()),()) ((c,()),())):
    Step p i l1 l2 s (if x1.2.1=1∧x1.2.2=c then x2 else x1):=by
  have hi:=opAt_in ho (by omega);have o1:=opAt_lt hi;refine Gv.ans (Gv.of (fun k=>impl_machine_step.F_eq (cl k) k (p,s.1,s.2,()) ((i:Int),l1,l2,())) ?_);unfold impl_machine_step.F impl_machine_step.Fm;refine Tq.bt (dle0 _) (Tq.some (lg hi) ?_);dsimp only;refine Tq.bf (beq_eq_false_iff_ne.2 (by omega)) (Tq.bf (beq_eq_false_iff_ne.2 (by omega)) (Tq.bf (beq_eq_false_iff_ne.2 (by omega)) (Tq.bt (beq_iff_eq.2 (by omega)) (Tq.ba h1 ?_))));by_cases c1:x1.2.1=1
  . refine Tq.bt (beq_iff_eq.2 c1) (Tq.ba hc ?_);by_cases c2:x1.2.2=c
    . rw[if_pos ⟨c1,c2⟩];exact Tq.bt (beq_iff_eq.2 c2) (Tq.ba h2 (Tq.ret rfl))
    . rw[if_neg (fun e=>c2 e.2)];exact Tq.bf (beq_eq_false_iff_ne.2 c2) (Tq.ret rfl)
  . rw[if_neg (fun e=>c1 e.1)];exact Tq.bf (beq_eq_false_iff_ne.2 c1) (Tq.ret rfl)
omit hp in
theorem do_nil {i:Nat}{b:Int}:DoL p i [] (fun s=>(s,0,0)) b:=by
  intro d hd l n s hl hn hv hB;obtain⟨d,rfl⟩:∃d',d=d'+1:=⟨d-1,by omega⟩
  have:=drop_nil hl;refine Tq.succ ?_;show Tq _ (fun k q=>impl_machine_do.step0 (cl k) k ..) _
  unfold impl_machine_do.step0
  repeat'((first|refine .t ?_|refine .u ?_|refine .some lg0 ?_|refine .some lg ?_|refine .some lgI ?_|(refine .bif (fun zz=>?_) (fun zz=>?_)<;>try simp(disch:=omega)only[zs,w64,zt]at zz))<;>try dsimp only)
  exact Tq.ret rfl
theorem do_cons {i j:Nat}{l1 l2 l0:List Tr}{f g:RS→RR}{a b:Int}(hi:i<p.2.2.2.2.2.1.length)(hj:i<j)(ha:0≤a∧0≤b)(hf:∀s,EnvR p s.1→Fine p a s (f s))
    (h1:∀s,EnvR p s.1→(s.2.length:Int)+(a+b)≤13194139533312→Step p i l1 l2 s (f s)) (hr:DoL p j l0 g b):DoL p i (.mk i l1 l2::l0) (fun s=>thn (f s) g) (a+b):=by
  have hb:=hp.b;intro d hd l n s hl hn hv hB;obtain⟨d,rfl⟩:∃d',d=d'+1:=⟨d-1,by omega⟩
  obtain⟨k1,k2,k3⟩:=drop_get hl;have hx:=h1 s hv hB;have hF:=hf s hv;refine Tq.succ ?_;show Tq _ (fun k q=>impl_machine_do.step0 (cl k) k ..) _
  unfold impl_machine_do.step0;rw[Int.toNat_natCast];have hx:Ans n_impl_machine_step s_impl_machine_step ((p,(s.1.1,s.1.2.1,()),s.2,()),((i:Int),l1,l2,()),()) (mr p (f s)):=hx;refine Tq.bt (dlt k1) (Tq.bt (dle0 _) (Tq.some k2 (Tq.ba hx ?_)));show Tq d _ (fun r=>r=mr p (thn (f s) g))
  rcases thn_eq (f s) g with⟨e0,e⟩|⟨e0,e⟩
  . rw[e];exact Tq.bt (by show((f s).2.1 !=0)=true;exact bne_iff_ne.2 e0) (Tq.ret rfl)
  . rw[e];refine Tq.bf (by show((f s).2.1 !=0)=false;rw[e0];rfl) ?_;rw[ws (n:=n+1) (Nat.lt_succ_self n) (by omega)];exact hr d (by omega) l (n+1) (f s).1 k3 (by omega) hF.env (by have:=hF.out;omega)
include hs
theorem do_seg {t:Fs}{i j:Nat}(h:Seg p.2.2.2.2.2.1 t i j):DoL p i t.trs (runF p t) (t.steps p.2.2.2.2.2.1):=by
  have hN:=hs.loop;have hb:=hp.b;have hb2:p.2.2.2.2.2.1.length≤1048576:=by omega
  induction h with
  |nil=>exact do_nil
  | @leaf r i j hi ho hr ih=>
    have b1:=steps_40 hN hb.2.2.2.1 hr;exact do_cons hp hi (Nat.lt_succ_self i) ⟨by omega,b1.1⟩ (fun s hv=>stm_fine hp hs hi (leaf_op hp hs hi ho) hv) (fun s hv hB=>step_leaf hp hs hi (leaf_op hp hs hi ho) hv (by omega) _ _) ih
  | @one t r i e j ho ht he hr ih1 ih2=>
    have h1:=ht.le;have h2:=opAt_in he (by omega);have b1:=steps_40 hN hb.2.2.2.1 ht;have b2:=steps_40 hN hb.2.2.2.1 hr;have F1:=run_fine hp hs ht;have:=run_fine hp hs (.one ho ht he hr);unfold Fs.steps;by_cases c:opAt p.2.2.2.2.2.1 i=2
    . rw [if_pos c];have D:=do_cons hp (i:=i) (j:=e+1) (l1:=t.trs) (l2:=[]) (a:=1+t.steps p.2.2.2.2.2.1) (by omega) (by omega) ⟨by omega,b2.1⟩ (f:=fun s=>if evT p s.1 (smAt p.2.2.2.2.2.1 i).2.2.2.1≠0 then(s,2,evT p s.1 (smAt p.2.2.2.2.2.1 i).2.2.2.1)else if evV p s.1 (smAt p.2.2.2.2.2.1 i).2.2.2.1≠0 then runF p t s else(s,0,0)) (fun s hv=>by
          have v2:=ev_vl hp hv (stand_exp hp hs (i:=i) (by omega) (by omega));by_cases t2:evT p s.1 (smAt p.2.2.2.2.2.1 i).2.2.2.1≠0
          . try dsimp only
            rw[if_pos t2];exact .stay hv (by omega) (.inr (.inr rfl)) (fun e=>by cases e)
          try dsimp only
          rw[if_neg t2];by_cases t3:evV p s.1 (smAt p.2.2.2.2.2.1 i).2.2.2.1≠0
          . rw[if_pos t3];have g:=F1 s hv;exact⟨g.env,by have:=g.out;omega,g.end3,g.zero⟩
          . rw[if_neg t3];exact .stay hv (by omega) (.inl rfl) (fun _=>rfl)) (fun s hv hB=>step_if hp hs c hv (ih1.a hv (by omega)) ((do_nil (p:=p) (i:=0) (b:=0)).a hv (by omega))) ih2
      intro d hd l n s hl hn hv hB;have:=D d hd l n s hl hn hv hB;unfold runF;rw[if_pos c];exact this
    . rw [if_neg c];have c5:opAt p.2.2.2.2.2.1 i=5:=by omega
      have n4:=hN i c5;have e2:NAt p.2.2.2.2.2.1 i*(1+t.steps p.2.2.2.2.2.1)=NAt p.2.2.2.2.2.1 i+NAt p.2.2.2.2.2.1 i*t.steps p.2.2.2.2.2.1:=by rw[Int.mul_add,Int.mul_one]
      have e3:=Int.mul_nonneg n4.1 b1.1;have e1:(((NAt p.2.2.2.2.2.1 i).toNat:Nat):Int)=NAt p.2.2.2.2.2.1 i:=by omega
      have D:=do_cons hp (i:=i) (j:=e+1) (l1:=t.trs) (l2:=[]) (a:=1+NAt p.2.2.2.2.2.1 i*(1+t.steps p.2.2.2.2.2.1)) (by omega) (by omega) ⟨by omega,b2.1⟩ (f:=fun s=>rep (runF p t) (NAt p.2.2.2.2.2.1 i).toNat s) (fun s hv=>by
          have g:=rep_fine b1.1 F1 (NAt p.2.2.2.2.2.1 i).toNat hv;rw[e1]at g;exact⟨g.env,by have:=g.out;omega,g.end3,g.zero⟩) (fun s hv hB=>step_loop hp hs c5 b1.1 F1 (fun s' hv' hB'=>ih1.a hv' hB') hv (by rw[e1];omega)) ih2
      intro d hd l n s hl hn hv hB;have:=D d hd l n s hl hn hv hB;unfold runF;rw[if_neg c];exact this
  | @two t o r i m e j ho ht hot he hr ih1 ih2 ih3=>
    have h1:=ht.le;have h3:=hot.le;have h2:=opAt_in he (by omega);have b1:=steps_40 hN hb.2.2.2.1 ht;have b2:=steps_40 hN hb.2.2.2.1 hot;have b3:=steps_40 hN hb.2.2.2.1 hr;have F1:=run_fine hp hs ht;have F2:=run_fine hp hs hot;unfold Fs.steps;by_cases c:opAt p.2.2.2.2.2.1 i=2
    . rw [if_pos c];have D:=do_cons hp (i:=i) (j:=e+1) (l1:=t.trs) (l2:=o.trs) (a:=1+max (t.steps p.2.2.2.2.2.1) (o.steps p.2.2.2.2.2.1)) (by omega) (by omega) ⟨by omega,b3.1⟩ (f:=fun s=>if evT p s.1 (smAt p.2.2.2.2.2.1 i).2.2.2.1≠0 then(s,2,evT p s.1 (smAt p.2.2.2.2.2.1 i).2.2.2.1)else if evV p s.1 (smAt p.2.2.2.2.2.1 i).2.2.2.1≠0 then runF p t s else runF p o s) (fun s hv=>by
          have v2:=ev_vl hp hv (stand_exp hp hs (i:=i) (by omega) (by omega));by_cases t2:evT p s.1 (smAt p.2.2.2.2.2.1 i).2.2.2.1≠0
          . try dsimp only
            rw[if_pos t2];exact .stay hv (by omega) (.inr (.inr rfl)) (fun e=>by cases e)
          try dsimp only
          rw[if_neg t2];by_cases t3:evV p s.1 (smAt p.2.2.2.2.2.1 i).2.2.2.1≠0
          . rw[if_pos t3];have g:=F1 s hv;exact⟨g.env,by have:=g.out;omega,g.end3,g.zero⟩
          . rw[if_neg t3];have g:=F2 s hv;exact⟨g.env,by have:=g.out;omega,g.end3,g.zero⟩) (fun s hv hB=>step_if hp hs c hv (ih1.a hv (by omega)) (ih2.a hv (by omega))) ih3
      intro d hd l n s hl hn hv hB;have:=D d hd l n s hl hn hv hB;unfold runF;rw[if_pos c];exact this
    . rw [if_neg c];have c8:=ho.resolve_left (fun h=>c h.1);have D:=do_cons hp (i:=i) (j:=e+1) (l1:=t.trs) (l2:=o.trs) (a:=1+t.steps p.2.2.2.2.2.1+o.steps p.2.2.2.2.2.1) (by omega) (by omega) ⟨by omega,b3.1⟩ (f:=fun s=>if(runF p t s).2.1=1∧(runF p t s).2.2=NAt p.2.2.2.2.2.1 m then runF p o (runF p t s).1 else runF p t s) (fun s hv=>by
          have g:=F1 s hv
          try dsimp only
          by_cases t3:(runF p t s).2.1=1∧(runF p t s).2.2=NAt p.2.2.2.2.2.1 m
          . rw[if_pos t3];have g2:=F2 _ g.env;exact⟨g2.env,by have:=g.out;have:=g2.out;omega,g2.end3,g2.zero⟩
          . rw[if_neg t3];exact⟨g.env,by have:=g.out;omega,g.end3,g.zero⟩) (fun s hv hB=>step_try hp c8.1 (ih1.a hv (by omega)) (ih2.a (F1 s hv).env (by have:=(F1 s hv).out;omega)) (catch_ans hp c8.1 c8.2 (many_seg hb2 ht).many (many_seg hb2 hot).many he _ _)) ih3
      intro d hd l n s hl hn hv hB;have:=D d hd l n s hl hn hv hB;unfold runF;rw[if_neg c];exact this
end
end Go.Proofs.YtjgfofcgmcnblaaGreat.Pf
namespace Go.Proofs.YtjgfofcgmcnblaaGreat.Pf
open Go Go.Pv IntKind
abbrev Y6_0:Type:=((Int×((List (Int×(Int×Unit)))×((List (Int×(Int×Unit)))×(Int×((List Int)×((List (Int×(Int×((List (Int×(Int×Unit)))×((List (Int×(Int×Unit)))×Unit)))))×Unit))))))×(((List Int)×((List (List Int))×Unit))×(((List Int)×(Int×(Int×Unit)))×(Bool×Unit))))
abbrev Y6_1:Type:=((Bool×Unit)×((Int×List (Int×Int×Unit)×List (Int×Int×Unit)×Int×List Int×List (Int×Int×List (Int×Int×Unit)×List (Int×Int×Unit)×Unit)×Unit)×(List Int×List (List Int)×Unit)×(List Int×Int×Int×Unit)×Bool×Unit)×Unit)
abbrev Y6_2:Type:=((Int)×((List Int))×((List (List Int)))×((List Int))×(Int)×((List (Int×(Int×Unit))))×((List (Int×(Int×Unit))))×(Int)×((List Int))×((List (Int×(Int×((List (Int×(Int×Unit)))×((List (Int×(Int×Unit)))×Unit))))))×(Int)×(Int)×(Bool))
abbrev Y6_3:Type:=(Unit×((Int×List (Int×Int×Unit)×List (Int×Int×Unit)×Int×List Int×List (Int×Int×List (Int×Int×Unit)×List (Int×Int×Unit)×Unit)×Unit)×(List Int×List (List Int)×Unit)×(List Int×Int×Int×Unit)×Bool×Unit)×Unit)
abbrev Y6_4:Type:=((List (Int×(Int×((List (Int×(Int×Unit)))×((List (Int×(Int×Unit)))×Unit))))))
abbrev Y6_5:Type:=(List (Int×(Int×((List (Int×(Int×Unit)))×((List (Int×(Int×Unit)))×Unit)))))
abbrev Y6_6:Type:=(Int×(Int×((List (Int×(Int×Unit)))×((List (Int×(Int×Unit)))×Unit))))
abbrev Y6_7:Type:=(Int×Int×List (Int×Int×Unit)×List (Int×Int×Unit)×Unit)
abbrev Y6_8:Type:=(((Int×(Int×Unit))×Unit))
abbrev Y6_9:Type:=((Int×Int×Unit)×Unit)
abbrev Y6_10:Type:=((List (Int×(Int×Unit))))
abbrev Y6_11:Type:=((Int×(Int×Unit))×Unit)
abbrev Y6_12:Type:=(List (Int×(Int×Unit)))
abbrev Y6_13:Type:=(List (List Int))
namespace spec_l6Trap
abbrev R:=((Bool×Unit)×(((Int×((List (Int×(Int×Unit)))×((List (Int×(Int×Unit)))×(Int×((List Int)×((List (Int×(Int×((List (Int×(Int×Unit)))×((List (Int×(Int×Unit)))×Unit)))))×Unit))))))×(((List Int)×((List (List Int))×Unit))×(((List Int)×(Int×(Int×Unit)))×(Bool×Unit))))×Unit))
def Fm(call:Cl)(k:Nat)(a0:Y6_0)(a1:Int):Option R:=bif a1==0 then some ((false,()),a0,())else some ((true,()),(a0.1,a0.2.1,(a0.2.2.1.1,2,a1,a0.2.2.1.2.2.2),true,a0.2.2.2.2),())
def F(call:Cl)(k:Nat)(a0:Y6_0)(a1:Int):Option R:=Fm call k a0 a1
theorem F_eq(call:Cl)(k:Nat)(a0:Y6_0)(a1:Int):bodyK E call n_spec_l6Trap k s_spec_l6Trap (a0,a1,())=F call k a0 a1:=by kernel_rfl
end spec_l6Trap
namespace spec_l6Stmt
abbrev R:=(Unit×(((Int×((List (Int×(Int×Unit)))×((List (Int×(Int×Unit)))×(Int×((List Int)×((List (Int×(Int×((List (Int×(Int×Unit)))×((List (Int×(Int×Unit)))×Unit)))))×Unit))))))×(((List Int)×((List (List Int))×Unit))×(((List Int)×(Int×(Int×Unit)))×(Bool×Unit))))×Unit))
def Fm(call:Cl)(k:Nat)(a0:Y6_0)(a1:Y6_6):Option R:=bif a1.1==0 then(call 205 s_spec_l5Value (a0.1,a0.2.1,a1.2.2.2.1,())).bind fun(y0:Y6_9)=>(call 206 s_spec_l6Trap (a0,y0.1.2.1,())).bind fun(y1:Y6_1)=>bif !y1.1.1 then bif decide (0≤a1.2.1)&&decide (Int.toNat a1.2.1<List.length y1.2.1.2.1.1)then(lget y1.2.1.2.1.1 (Int.toNat a1.2.1)).bind fun(y2:Int)=>some ((),(y1.2.1.1,(List.set y1.2.1.2.1.1 (Int.toNat a1.2.1) y0.1.1,y1.2.1.2.1.2.1,y1.2.1.2.1.2.2),y1.2.1.2.2.1,y1.2.1.2.2.2.1,y1.2.1.2.2.2.2),())else none else some ((),y1.2.1,())else bif a1.1==1 then(call 205 s_spec_l5Value (a0.1,a0.2.1,a1.2.2.1,())).bind fun(y3:Y6_9)=>(call 206 s_spec_l6Trap (a0,y3.1.2.1,())).bind fun(y4:Y6_1)=>bif y4.1.1 then some ((),y4.2.1,())else(call 205 s_spec_l5Value (y4.2.1.1,y4.2.1.2.1,a1.2.2.2.1,())).bind fun(y5:Y6_9)=>(call 206 s_spec_l6Trap (y4.2.1,y5.1.2.1,())).bind fun(y6:Y6_1)=>bif y6.1.1 then some ((),y6.2.1,())else bif decide (0≤a1.2.1)&&decide (Int.toNat a1.2.1<List.length y6.2.1.2.1.2.1)then(lget y6.2.1.2.1.2.1 (Int.toNat a1.2.1)).bind fun(y7:List Int)=>bif decide (y3.1.1≥(↑y7.length:Int))then(call 206 s_spec_l6Trap (y6.2.1,2,())).bind fun(y8:Y6_1)=>some ((),y8.2.1,())else bif decide (0≤a1.2.1)&&decide (Int.toNat a1.2.1<List.length y6.2.1.2.1.2.1)then(lget y6.2.1.2.1.2.1 (Int.toNat a1.2.1)).bind fun(y9:List Int)=>bif decide (0≤y3.1.1)&&decide (Int.toNat y3.1.1<y9.length)then(lget y6.2.1.2.1.2.1 (Int.toNat a1.2.1)).bind fun(y10:List Int)=>(lget y10 (Int.toNat y3.1.1)).bind fun(y11:Int)=>some ((),(y6.2.1.1,(y6.2.1.2.1.1,List.set y6.2.1.2.1.2.1 (Int.toNat a1.2.1) (y10.set (Int.toNat y3.1.1) y5.1.1),y6.2.1.2.1.2.2),y6.2.1.2.2.1,y6.2.1.2.2.2.1,y6.2.1.2.2.2.2),())else none else none else none else bif a1.1==6 then(call 205 s_spec_l5Value (a0.1,a0.2.1,a1.2.2.2.1,())).bind fun(y12:Y6_9)=>(call 206 s_spec_l6Trap (a0,y12.1.2.1,())).bind fun(y13:Y6_1)=>bif !y13.1.1 then bif decide ((List.length y13.2.1.2.2.1.1+[y12.1.1].length)*ti2.bytes≤140737488355328)then some ((),(y13.2.1.1,y13.2.1.2.1,(y13.2.1.2.2.1.1++[y12.1.1],y13.2.1.2.2.1.2.1,y13.2.1.2.2.1.2.2.1,y13.2.1.2.2.1.2.2.2),y13.2.1.2.2.2.1,y13.2.1.2.2.2.2),())else none else some ((),y13.2.1,())else bif a1.1==7 then some ((),(a0.1,a0.2.1,(a0.2.2.1.1,1,a1.2.1,a0.2.2.1.2.2.2),true,a0.2.2.2.2),())else some ((),a0,())
def F(call:Cl)(k:Nat)(a0:Y6_0)(a1:Y6_6):Option R:=Fm call k a0 a1
theorem F_eq(call:Cl)(k:Nat)(a0:Y6_0)(a1:Y6_6):bodyK E call n_spec_l6Stmt k s_spec_l6Stmt (a0,a1,())=F call k a0 a1:=by kernel_rfl
end spec_l6Stmt
namespace spec_l6Run
abbrev R:=(Unit×(((Int×((List (Int×(Int×Unit)))×((List (Int×(Int×Unit)))×(Int×((List Int)×((List (Int×(Int×((List (Int×(Int×Unit)))×((List (Int×(Int×Unit)))×Unit)))))×Unit))))))×(((List Int)×((List (List Int))×Unit))×(((List Int)×(Int×(Int×Unit)))×(Bool×Unit))))×Unit))
def S1(a0:Y6_0)(a2:Int)(v0_2:Int)(y0:Y6_8)(v1_4:Int)(v1_5:(List Int))(v1_6:Y6_13)(v1_7:(List Int))(v1_8:Int)(v1_9:Y6_12)(v1_10:Y6_12)(v1_11:Int)(v1_12:(List Int))(v1_13:Y6_5)(v1_14:Int)(v1_15:Int)(v1_16:Bool):St:=⟨mkS 170 [(0,.p [500000] [] 0),(2,.v tI (a2)),(6,.v (.slc tSm) (a0.1.2.2.2.2.2.1)),(7,.v tI (v0_2)),(9,.v tI (y0.1.2.1)),(12,.v tI v1_4)],[([500000,5,1,1,0,0],.list 2 tI v1_5),([500000,5,1,0,1,0],.list 28 (.own 2 tI) v1_6),([500000,5,1,0,0],.list 2 tI v1_7),([500000],.box (.pr (.v tPg (v1_8,(v1_9,(v1_10,(v1_11,(v1_12,(v1_13,()))))))) (.pr (.pr (.ref [500000,5,1,0,0]) (.pr (.ref [500000,5,1,0,1,0]) (.v .unit ()))) (.pr (.pr (.ref [500000,5,1,1,0,0]) (.v tTm (v1_14,(v1_15,())))) (.v (.pair .bool .unit) (v1_16,()))))))]⟩
def S0(a0:Y6_0)(a2:Int)(v0_2:Int)(v0_3:(List Int))(v0_4:Y6_13)(v0_5:(List Int))(v0_6:Int)(v0_7:Y6_12)(v0_8:Y6_12)(v0_9:Int)(v0_10:(List Int))(v0_11:Y6_5)(v0_12:Int)(v0_13:Int)(v0_14:Bool):St:=⟨mkS 170 [(0,.p [500000] [] 0),(2,.v tI (a2)),(6,.v (.slc tSm) (a0.1.2.2.2.2.2.1)),(7,.v tI v0_2)],[([500000,5,1,1,0,0],.list 2 tI v0_3),([500000,5,1,0,1,0],.list 28 (.own 2 tI) v0_4),([500000,5,1,0,0],.list 2 tI v0_5),([500000],.box (.pr (.v tPg (v0_6,(v0_7,(v0_8,(v0_9,(v0_10,(v0_11,()))))))) (.pr (.pr (.ref [500000,5,1,0,0]) (.pr (.ref [500000,5,1,0,1,0]) (.v .unit ()))) (.pr (.pr (.ref [500000,5,1,1,0,0]) (.v tTm (v0_12,(v0_13,())))) (.v (.pair .bool .unit) (v0_14,()))))))]⟩
def step1(call:Cl)(k:Nat)(a0:Y6_0)(v0_2:Int)(y0:Y6_8)(r0:(Int)→((List Int))→(Y6_13)→((List Int))→(Int)→Y6_10→Y6_10→(Int)→((List Int))→Y6_4→(Int)→(Int)→(Bool)→Option R)(r1:(Int)→((List Int))→(Y6_13)→((List Int))→(Int)→Y6_10→Y6_10→(Int)→((List Int))→Y6_4→(Int)→(Int)→(Bool)→Option R)(v1_4:Int)(v1_5:(List Int))(v1_6:Y6_13)(v1_7:(List Int))(v1_8:Int)(v1_9:Y6_12)(v1_10:Y6_12)(v1_11:Int)(v1_12:(List Int))(v1_13:Y6_5)(v1_14:Int)(v1_15:Int)(v1_16:Bool):Option R:=bif decide (0≤v0_2)then(lget a0.1.2.2.2.2.2.1 v0_2.toNat).bind fun(y10:Y6_7)=>bif decide (v1_4<y10.2.1)then bif !v1_16 then(call 155 s_spec_l6Run (((v1_8,v1_9,v1_10,v1_11,v1_12,v1_13,()),(v1_7,v1_6,()),(v1_5,v1_14,v1_15,()),v1_16,()),i64.wrap (v0_2+1),y0.1.2.1,())).bind fun(y11:Y6_3)=>r1 (i64.wrap (v1_4+1)) y11.2.1.2.2.1.1 y11.2.1.2.1.2.1 y11.2.1.2.1.1 y11.2.1.1.1 y11.2.1.1.2.1 y11.2.1.1.2.2.1 y11.2.1.1.2.2.2.1 y11.2.1.1.2.2.2.2.1 y11.2.1.1.2.2.2.2.2.1 y11.2.1.2.2.1.2.1 y11.2.1.2.2.1.2.2.1 y11.2.1.2.2.2.1 else r0 (i64.wrap (y0.1.2.1+1)) v1_5 v1_6 v1_7 v1_8 v1_9 v1_10 v1_11 v1_12 v1_13 v1_14 v1_15 v1_16 else r0 (i64.wrap (y0.1.2.1+1)) v1_5 v1_6 v1_7 v1_8 v1_9 v1_10 v1_11 v1_12 v1_13 v1_14 v1_15 v1_16 else none
def L1(call:Cl)(k:Nat)(a0:Y6_0)(v0_2:Int)(y0:Y6_8)(r0:(Int)→((List Int))→(Y6_13)→((List Int))→(Int)→Y6_10→Y6_10→(Int)→((List Int))→Y6_4→(Int)→(Int)→(Bool)→Option R):Nat→(Int)→((List Int))→(Y6_13)→((List Int))→(Int)→Y6_10→Y6_10→(Int)→((List Int))→Y6_4→(Int)→(Int)→(Bool)→Option R|0,_,_,_,_,_,_,_,_,_,_,_,_,_=>none|n+1,v1_4,v1_5,v1_6,v1_7,v1_8,v1_9,v1_10,v1_11,v1_12,v1_13,v1_14,v1_15,v1_16=>step1 call k a0 v0_2 y0 r0 (L1 call k a0 v0_2 y0 r0 n) v1_4 v1_5 v1_6 v1_7 v1_8 v1_9 v1_10 v1_11 v1_12 v1_13 v1_14 v1_15 v1_16
def step0(call:Cl)(k:Nat)(a0:Y6_0)(a2:Int)(l1:(Y6_0)→(Int)→Y6_8→(Int)→((List Int))→(Y6_13)→((List Int))→(Int)→Y6_10→Y6_10→(Int)→((List Int))→Y6_4→(Int)→(Int)→(Bool)→Option R)(r0:(Int)→((List Int))→(Y6_13)→((List Int))→(Int)→Y6_10→Y6_10→(Int)→((List Int))→Y6_4→(Int)→(Int)→(Bool)→Option R)(v0_2:Int)(v0_3:(List Int))(v0_4:Y6_13)(v0_5:(List Int))(v0_6:Int)(v0_7:Y6_12)(v0_8:Y6_12)(v0_9:Int)(v0_10:(List Int))(v0_11:Y6_5)(v0_12:Int)(v0_13:Int)(v0_14:Bool):Option R:=bif decide (v0_2<a2)then bif !v0_14 then(call 204 s_spec_l3End (a0.1.2.2.2.2.2.1,v0_2,())).bind fun(y0:Y6_9)=>bif decide (0≤v0_2)then(lget a0.1.2.2.2.2.2.1 v0_2.toNat).bind fun(y1:Y6_7)=>bif y1.1==2 then bif decide (0≤v0_2)then(lget a0.1.2.2.2.2.2.1 v0_2.toNat).bind fun(y2:Y6_7)=>(call 205 s_spec_l5Value ((v0_6,v0_7,v0_8,v0_9,v0_10,v0_11,()),(v0_5,v0_4,()),y2.2.2.2.1,())).bind fun(y3:Y6_9)=>(call 206 s_spec_l6Trap (((v0_6,v0_7,v0_8,v0_9,v0_10,v0_11,()),(v0_5,v0_4,()),(v0_3,v0_12,v0_13,()),v0_14,()),y3.1.2.1,())).bind fun(y4:Y6_1)=>bif y4.1.1 then some ((),y4.2.1,())else bif y3.1.1!=0 then bif decide (y0.1.1<0)then(call 155 s_spec_l6Run (y4.2.1,i64.wrap (v0_2+1),y0.1.2.1,())).bind fun(y5:Y6_3)=>r0 (i64.wrap (y0.1.2.1+1)) y5.2.1.2.2.1.1 y5.2.1.2.1.2.1 y5.2.1.2.1.1 y5.2.1.1.1 y5.2.1.1.2.1 y5.2.1.1.2.2.1 y5.2.1.1.2.2.2.1 y5.2.1.1.2.2.2.2.1 y5.2.1.1.2.2.2.2.2.1 y5.2.1.2.2.1.2.1 y5.2.1.2.2.1.2.2.1 y5.2.1.2.2.2.1 else bif y3.1.1!=0 then(call 155 s_spec_l6Run (y4.2.1,i64.wrap (v0_2+1),y0.1.1,())).bind fun(y6:Y6_3)=>r0 (i64.wrap (y0.1.2.1+1)) y6.2.1.2.2.1.1 y6.2.1.2.1.2.1 y6.2.1.2.1.1 y6.2.1.1.1 y6.2.1.1.2.1 y6.2.1.1.2.2.1 y6.2.1.1.2.2.2.1 y6.2.1.1.2.2.2.2.1 y6.2.1.1.2.2.2.2.2.1 y6.2.1.2.2.1.2.1 y6.2.1.2.2.1.2.2.1 y6.2.1.2.2.2.1 else bif decide (y0.1.1≥0)then(call 155 s_spec_l6Run (y4.2.1,i64.wrap (y0.1.1+1),y0.1.2.1,())).bind fun(y7:Y6_3)=>r0 (i64.wrap (y0.1.2.1+1)) y7.2.1.2.2.1.1 y7.2.1.2.1.2.1 y7.2.1.2.1.1 y7.2.1.1.1 y7.2.1.1.2.1 y7.2.1.1.2.2.1 y7.2.1.1.2.2.2.1 y7.2.1.1.2.2.2.2.1 y7.2.1.1.2.2.2.2.2.1 y7.2.1.2.2.1.2.1 y7.2.1.2.2.1.2.2.1 y7.2.1.2.2.2.1 else r0 (i64.wrap (y0.1.2.1+1)) y4.2.1.2.2.1.1 y4.2.1.2.1.2.1 y4.2.1.2.1.1 y4.2.1.1.1 y4.2.1.1.2.1 y4.2.1.1.2.2.1 y4.2.1.1.2.2.2.1 y4.2.1.1.2.2.2.2.1 y4.2.1.1.2.2.2.2.2.1 y4.2.1.2.2.1.2.1 y4.2.1.2.2.1.2.2.1 y4.2.1.2.2.2.1 else bif y3.1.1!=0 then(call 155 s_spec_l6Run (y4.2.1,i64.wrap (v0_2+1),y0.1.1,())).bind fun(y8:Y6_3)=>r0 (i64.wrap (y0.1.2.1+1)) y8.2.1.2.2.1.1 y8.2.1.2.1.2.1 y8.2.1.2.1.1 y8.2.1.1.1 y8.2.1.1.2.1 y8.2.1.1.2.2.1 y8.2.1.1.2.2.2.1 y8.2.1.1.2.2.2.2.1 y8.2.1.1.2.2.2.2.2.1 y8.2.1.2.2.1.2.1 y8.2.1.2.2.1.2.2.1 y8.2.1.2.2.2.1 else bif decide (y0.1.1≥0)then(call 155 s_spec_l6Run (y4.2.1,i64.wrap (y0.1.1+1),y0.1.2.1,())).bind fun(y9:Y6_3)=>r0 (i64.wrap (y0.1.2.1+1)) y9.2.1.2.2.1.1 y9.2.1.2.1.2.1 y9.2.1.2.1.1 y9.2.1.1.1 y9.2.1.1.2.1 y9.2.1.1.2.2.1 y9.2.1.1.2.2.2.1 y9.2.1.1.2.2.2.2.1 y9.2.1.1.2.2.2.2.2.1 y9.2.1.2.2.1.2.1 y9.2.1.2.2.1.2.2.1 y9.2.1.2.2.2.1 else r0 (i64.wrap (y0.1.2.1+1)) y4.2.1.2.2.1.1 y4.2.1.2.1.2.1 y4.2.1.2.1.1 y4.2.1.1.1 y4.2.1.1.2.1 y4.2.1.1.2.2.1 y4.2.1.1.2.2.2.1 y4.2.1.1.2.2.2.2.1 y4.2.1.1.2.2.2.2.2.1 y4.2.1.2.2.1.2.1 y4.2.1.2.2.1.2.2.1 y4.2.1.2.2.2.1 else none else bif y1.1==5 then l1 a0 v0_2 y0 0 v0_3 v0_4 v0_5 v0_6 v0_7 v0_8 v0_9 v0_10 v0_11 v0_12 v0_13 v0_14 else bif y1.1==8 then(call 155 s_spec_l6Run (((v0_6,v0_7,v0_8,v0_9,v0_10,v0_11,()),(v0_5,v0_4,()),(v0_3,v0_12,v0_13,()),v0_14,()),i64.wrap (v0_2+1),y0.1.1,())).bind fun(y12:Y6_3)=>bif y12.2.1.2.2.2.1 then bif y12.2.1.2.2.1.2.1==1 then bif decide (0≤y0.1.1)then(lget a0.1.2.2.2.2.2.1 (Int.toNat y0.1.1)).bind fun(y13:Y6_7)=>bif y12.2.1.2.2.1.2.2.1==y13.2.1 then(call 155 s_spec_l6Run ((y12.2.1.1,y12.2.1.2.1,(y12.2.1.2.2.1.1,0,0,y12.2.1.2.2.1.2.2.2),false,y12.2.1.2.2.2.2),i64.wrap (y0.1.1+1),y0.1.2.1,())).bind fun(y14:Y6_3)=>r0 (i64.wrap (y0.1.2.1+1)) y14.2.1.2.2.1.1 y14.2.1.2.1.2.1 y14.2.1.2.1.1 y14.2.1.1.1 y14.2.1.1.2.1 y14.2.1.1.2.2.1 y14.2.1.1.2.2.2.1 y14.2.1.1.2.2.2.2.1 y14.2.1.1.2.2.2.2.2.1 y14.2.1.2.2.1.2.1 y14.2.1.2.2.1.2.2.1 y14.2.1.2.2.2.1 else r0 (i64.wrap (y0.1.2.1+1)) y12.2.1.2.2.1.1 y12.2.1.2.1.2.1 y12.2.1.2.1.1 y12.2.1.1.1 y12.2.1.1.2.1 y12.2.1.1.2.2.1 y12.2.1.1.2.2.2.1 y12.2.1.1.2.2.2.2.1 y12.2.1.1.2.2.2.2.2.1 y12.2.1.2.2.1.2.1 y12.2.1.2.2.1.2.2.1 y12.2.1.2.2.2.1 else none else r0 (i64.wrap (y0.1.2.1+1)) y12.2.1.2.2.1.1 y12.2.1.2.1.2.1 y12.2.1.2.1.1 y12.2.1.1.1 y12.2.1.1.2.1 y12.2.1.1.2.2.1 y12.2.1.1.2.2.2.1 y12.2.1.1.2.2.2.2.1 y12.2.1.1.2.2.2.2.2.1 y12.2.1.2.2.1.2.1 y12.2.1.2.2.1.2.2.1 y12.2.1.2.2.2.1 else r0 (i64.wrap (y0.1.2.1+1)) y12.2.1.2.2.1.1 y12.2.1.2.1.2.1 y12.2.1.2.1.1 y12.2.1.1.1 y12.2.1.1.2.1 y12.2.1.1.2.2.1 y12.2.1.1.2.2.2.1 y12.2.1.1.2.2.2.2.1 y12.2.1.1.2.2.2.2.2.1 y12.2.1.2.2.1.2.1 y12.2.1.2.2.1.2.2.1 y12.2.1.2.2.2.1 else bif decide (0≤v0_2)then(lget a0.1.2.2.2.2.2.1 v0_2.toNat).bind fun(y15:Y6_7)=>(call 207 s_spec_l6Stmt (((v0_6,v0_7,v0_8,v0_9,v0_10,v0_11,()),(v0_5,v0_4,()),(v0_3,v0_12,v0_13,()),v0_14,()),y15,())).bind fun(y16:Y6_3)=>r0 (i64.wrap (v0_2+1)) y16.2.1.2.2.1.1 y16.2.1.2.1.2.1 y16.2.1.2.1.1 y16.2.1.1.1 y16.2.1.1.2.1 y16.2.1.1.2.2.1 y16.2.1.1.2.2.2.1 y16.2.1.1.2.2.2.2.1 y16.2.1.1.2.2.2.2.2.1 y16.2.1.2.2.1.2.1 y16.2.1.2.2.1.2.2.1 y16.2.1.2.2.2.1 else none else none else some ((),((v0_6,v0_7,v0_8,v0_9,v0_10,v0_11,()),(v0_5,v0_4,()),(v0_3,v0_12,v0_13,()),v0_14,()),())else some ((),((v0_6,v0_7,v0_8,v0_9,v0_10,v0_11,()),(v0_5,v0_4,()),(v0_3,v0_12,v0_13,()),v0_14,()),())
def L0(call:Cl)(k:Nat)(a0:Y6_0)(a2:Int):Nat→(Int)→((List Int))→(Y6_13)→((List Int))→(Int)→Y6_10→Y6_10→(Int)→((List Int))→Y6_4→(Int)→(Int)→(Bool)→Option R|0,_,_,_,_,_,_,_,_,_,_,_,_,_=>none|n+1,v0_2,v0_3,v0_4,v0_5,v0_6,v0_7,v0_8,v0_9,v0_10,v0_11,v0_12,v0_13,v0_14=>step0 call k a0 a2 (fun a0_ v0_2_ y0_ v1_4_ v1_5_ v1_6_ v1_7_ v1_8_ v1_9_ v1_10_ v1_11_ v1_12_ v1_13_ v1_14_ v1_15_ v1_16_=>L1 call k a0_ v0_2_ y0_ (L0 call k a0 a2 n) k v1_4_ v1_5_ v1_6_ v1_7_ v1_8_ v1_9_ v1_10_ v1_11_ v1_12_ v1_13_ v1_14_ v1_15_ v1_16_) (L0 call k a0 a2 n) v0_2 v0_3 v0_4 v0_5 v0_6 v0_7 v0_8 v0_9 v0_10 v0_11 v0_12 v0_13 v0_14
def Fm(call:Cl)(k:Nat)(l0:(Y6_0)→(Int)→(Int)→((List Int))→(Y6_13)→((List Int))→(Int)→Y6_10→Y6_10→(Int)→((List Int))→Y6_4→(Int)→(Int)→(Bool)→Option R)(a0:Y6_0)(a1:Int)(a2:Int):Option R:=l0 a0 a2 a1 a0.2.2.1.1 a0.2.1.2.1 a0.2.1.1 a0.1.1 a0.1.2.1 a0.1.2.2.1 a0.1.2.2.2.1 a0.1.2.2.2.2.1 a0.1.2.2.2.2.2.1 a0.2.2.1.2.1 a0.2.2.1.2.2.1 a0.2.2.2.1
def F(call:Cl)(k:Nat)(a0:Y6_0)(a1:Int)(a2:Int):Option R:=Fm call k (fun a0_ a2_ v0_2_ v0_3_ v0_4_ v0_5_ v0_6_ v0_7_ v0_8_ v0_9_ v0_10_ v0_11_ v0_12_ v0_13_ v0_14_=>L0 call k a0_ a2_ k v0_2_ v0_3_ v0_4_ v0_5_ v0_6_ v0_7_ v0_8_ v0_9_ v0_10_ v0_11_ v0_12_ v0_13_ v0_14_) a0 a1 a2
theorem L1_eq(call:Cl)(k:Nat)(J:Nat→St→Option R)(a0:Y6_0)(a1:Int)(a2:Int)(v0_2:Int)(y0:Y6_11):∀(n:Nat)(x:Y6_2),siteI E call n_spec_l6Run k s_spec_l6Run (a0,a1,a2,()) J 1 n (S1 a0 a2 v0_2 y0 x.1 x.2.1 x.2.2.1 x.2.2.2.1 x.2.2.2.2.1 x.2.2.2.2.2.1 x.2.2.2.2.2.2.1 x.2.2.2.2.2.2.2.1 x.2.2.2.2.2.2.2.2.1 x.2.2.2.2.2.2.2.2.2.1 x.2.2.2.2.2.2.2.2.2.2.1 x.2.2.2.2.2.2.2.2.2.2.2.1 x.2.2.2.2.2.2.2.2.2.2.2.2)=L1 call k a0 v0_2 y0 (fun v0_2_ v0_3_ v0_4_ v0_5_ v0_6_ v0_7_ v0_8_ v0_9_ v0_10_ v0_11_ v0_12_ v0_13_ v0_14_=>J 0 (S0 a0 a2 v0_2_ v0_3_ v0_4_ v0_5_ v0_6_ v0_7_ v0_8_ v0_9_ v0_10_ v0_11_ v0_12_ v0_13_ v0_14_)) n x.1 x.2.1 x.2.2.1 x.2.2.2.1 x.2.2.2.2.1 x.2.2.2.2.2.1 x.2.2.2.2.2.2.1 x.2.2.2.2.2.2.2.1 x.2.2.2.2.2.2.2.2.1 x.2.2.2.2.2.2.2.2.2.1 x.2.2.2.2.2.2.2.2.2.2.1 x.2.2.2.2.2.2.2.2.2.2.2.1 x.2.2.2.2.2.2.2.2.2.2.2.2:=by
  refine loop_eq (s:=s_spec_l6Run) (fun x=>S1 a0 a2 v0_2 y0 x.1 x.2.1 x.2.2.1 x.2.2.2.1 x.2.2.2.2.1 x.2.2.2.2.2.1 x.2.2.2.2.2.2.1 x.2.2.2.2.2.2.2.1 x.2.2.2.2.2.2.2.2.1 x.2.2.2.2.2.2.2.2.2.1 x.2.2.2.2.2.2.2.2.2.2.1 x.2.2.2.2.2.2.2.2.2.2.2.1 x.2.2.2.2.2.2.2.2.2.2.2.2) (fun n x=>L1 call k a0 v0_2 y0 (fun v0_2_ v0_3_ v0_4_ v0_5_ v0_6_ v0_7_ v0_8_ v0_9_ v0_10_ v0_11_ v0_12_ v0_13_ v0_14_=>J 0 (S0 a0 a2 v0_2_ v0_3_ v0_4_ v0_5_ v0_6_ v0_7_ v0_8_ v0_9_ v0_10_ v0_11_ v0_12_ v0_13_ v0_14_)) n x.1 x.2.1 x.2.2.1 x.2.2.2.1 x.2.2.2.2.1 x.2.2.2.2.2.1 x.2.2.2.2.2.2.1 x.2.2.2.2.2.2.2.1 x.2.2.2.2.2.2.2.2.1 x.2.2.2.2.2.2.2.2.2.1 x.2.2.2.2.2.2.2.2.2.2.1 x.2.2.2.2.2.2.2.2.2.2.2.1 x.2.2.2.2.2.2.2.2.2.2.2.2) (fun r x=>step1 call k a0 v0_2 y0 (fun v0_2_ v0_3_ v0_4_ v0_5_ v0_6_ v0_7_ v0_8_ v0_9_ v0_10_ v0_11_ v0_12_ v0_13_ v0_14_=>J 0 (S0 a0 a2 v0_2_ v0_3_ v0_4_ v0_5_ v0_6_ v0_7_ v0_8_ v0_9_ v0_10_ v0_11_ v0_12_ v0_13_ v0_14_)) (fun v1_4 v1_5 v1_6 v1_7 v1_8 v1_9 v1_10 v1_11 v1_12 v1_13 v1_14 v1_15 v1_16=>r (v1_4,v1_5,v1_6,v1_7,v1_8,v1_9,v1_10,v1_11,v1_12,v1_13,v1_14,v1_15,v1_16)) x.1 x.2.1 x.2.2.1 x.2.2.2.1 x.2.2.2.2.1 x.2.2.2.2.2.1 x.2.2.2.2.2.2.1 x.2.2.2.2.2.2.2.1 x.2.2.2.2.2.2.2.2.1 x.2.2.2.2.2.2.2.2.2.1 x.2.2.2.2.2.2.2.2.2.2.1 x.2.2.2.2.2.2.2.2.2.2.2.1 x.2.2.2.2.2.2.2.2.2.2.2.2) (fun _=>rfl) (fun _ _=>rfl) fun J0 x=>?_
  kernel_rfl
theorem L0_eq(call:Cl)(k:Nat)(J:Nat→St→Option R)(a0:Y6_0)(a1:Int)(a2:Int):∀(n:Nat)(x:Y6_2),siteI E call n_spec_l6Run k s_spec_l6Run (a0,a1,a2,()) J 0 n (S0 a0 a2 x.1 x.2.1 x.2.2.1 x.2.2.2.1 x.2.2.2.2.1 x.2.2.2.2.2.1 x.2.2.2.2.2.2.1 x.2.2.2.2.2.2.2.1 x.2.2.2.2.2.2.2.2.1 x.2.2.2.2.2.2.2.2.2.1 x.2.2.2.2.2.2.2.2.2.2.1 x.2.2.2.2.2.2.2.2.2.2.2.1 x.2.2.2.2.2.2.2.2.2.2.2.2)=L0 call k a0 a2 n x.1 x.2.1 x.2.2.1 x.2.2.2.1 x.2.2.2.2.1 x.2.2.2.2.2.1 x.2.2.2.2.2.2.1 x.2.2.2.2.2.2.2.1 x.2.2.2.2.2.2.2.2.1 x.2.2.2.2.2.2.2.2.2.1 x.2.2.2.2.2.2.2.2.2.2.1 x.2.2.2.2.2.2.2.2.2.2.2.1 x.2.2.2.2.2.2.2.2.2.2.2.2:=by
  refine loop_eq (s:=s_spec_l6Run) (fun x=>S0 a0 a2 x.1 x.2.1 x.2.2.1 x.2.2.2.1 x.2.2.2.2.1 x.2.2.2.2.2.1 x.2.2.2.2.2.2.1 x.2.2.2.2.2.2.2.1 x.2.2.2.2.2.2.2.2.1 x.2.2.2.2.2.2.2.2.2.1 x.2.2.2.2.2.2.2.2.2.2.1 x.2.2.2.2.2.2.2.2.2.2.2.1 x.2.2.2.2.2.2.2.2.2.2.2.2) (fun n x=>L0 call k a0 a2 n x.1 x.2.1 x.2.2.1 x.2.2.2.1 x.2.2.2.2.1 x.2.2.2.2.2.1 x.2.2.2.2.2.2.1 x.2.2.2.2.2.2.2.1 x.2.2.2.2.2.2.2.2.1 x.2.2.2.2.2.2.2.2.2.1 x.2.2.2.2.2.2.2.2.2.2.1 x.2.2.2.2.2.2.2.2.2.2.2.1 x.2.2.2.2.2.2.2.2.2.2.2.2) (fun r x=>step0 call k a0 a2 (fun(a0:Y6_0)(v0_2:Int)(y0:Y6_11)(v1_4_:Int)(v1_5_:(List Int))(v1_6_:Y6_13)(v1_7_:(List Int))(v1_8_:Int)(v1_9_:Y6_12)(v1_10_:Y6_12)(v1_11_:Int)(v1_12_:(List Int))(v1_13_:Y6_5)(v1_14_:Int)(v1_15_:Int)(v1_16_:Bool)=>L1 call k a0 v0_2 y0 (fun v0_2_ v0_3_ v0_4_ v0_5_ v0_6_ v0_7_ v0_8_ v0_9_ v0_10_ v0_11_ v0_12_ v0_13_ v0_14_=>r (v0_2_,v0_3_,v0_4_,v0_5_,v0_6_,v0_7_,v0_8_,v0_9_,v0_10_,v0_11_,v0_12_,v0_13_,v0_14_)) k v1_4_ v1_5_ v1_6_ v1_7_ v1_8_ v1_9_ v1_10_ v1_11_ v1_12_ v1_13_ v1_14_ v1_15_ v1_16_) (fun v0_2 v0_3 v0_4 v0_5 v0_6 v0_7 v0_8 v0_9 v0_10 v0_11 v0_12 v0_13 v0_14=>r (v0_2,v0_3,v0_4,v0_5,v0_6,v0_7,v0_8,v0_9,v0_10,v0_11,v0_12,v0_13,v0_14)) x.1 x.2.1 x.2.2.1 x.2.2.2.1 x.2.2.2.2.1 x.2.2.2.2.2.1 x.2.2.2.2.2.2.1 x.2.2.2.2.2.2.2.1 x.2.2.2.2.2.2.2.2.1 x.2.2.2.2.2.2.2.2.2.1 x.2.2.2.2.2.2.2.2.2.2.1 x.2.2.2.2.2.2.2.2.2.2.2.1 x.2.2.2.2.2.2.2.2.2.2.2.2) (fun _=>rfl) (fun _ _=>rfl) fun J0 x=>?_
  refine Eq.trans (b:=step0 call k a0 a2 (fun a0 v0_2 y0 v1_4_ v1_5_ v1_6_ v1_7_ v1_8_ v1_9_ v1_10_ v1_11_ v1_12_ v1_13_ v1_14_ v1_15_ v1_16_=>siteI E call n_spec_l6Run k s_spec_l6Run (a0,a1,a2,()) (upJ 0 J0 J) 1 k (S1 a0 a2 v0_2 y0 v1_4_ v1_5_ v1_6_ v1_7_ v1_8_ v1_9_ v1_10_ v1_11_ v1_12_ v1_13_ v1_14_ v1_15_ v1_16_)) (fun v0_2 v0_3 v0_4 v0_5 v0_6 v0_7 v0_8 v0_9 v0_10 v0_11 v0_12 v0_13 v0_14=>J0 (S0 a0 a2 v0_2 v0_3 v0_4 v0_5 v0_6 v0_7 v0_8 v0_9 v0_10 v0_11 v0_12 v0_13 v0_14)) x.1 x.2.1 x.2.2.1 x.2.2.2.1 x.2.2.2.2.1 x.2.2.2.2.2.1 x.2.2.2.2.2.2.1 x.2.2.2.2.2.2.2.1 x.2.2.2.2.2.2.2.2.1 x.2.2.2.2.2.2.2.2.2.1 x.2.2.2.2.2.2.2.2.2.2.1 x.2.2.2.2.2.2.2.2.2.2.2.1 x.2.2.2.2.2.2.2.2.2.2.2.2) (by kernel_rfl) ?_;rw[show(fun(a0:Y6_0)(v0_2:Int)(y0:Y6_11)(v1_4_:Int)(v1_5_:(List Int))(v1_6_:Y6_13)(v1_7_:(List Int))(v1_8_:Int)(v1_9_:Y6_12)(v1_10_:Y6_12)(v1_11_:Int)(v1_12_:(List Int))(v1_13_:Y6_5)(v1_14_:Int)(v1_15_:Int)(v1_16_:Bool)=>siteI E call n_spec_l6Run k s_spec_l6Run (a0,a1,a2,()) (upJ 0 J0 J) 1 k (S1 a0 a2 v0_2 y0 v1_4_ v1_5_ v1_6_ v1_7_ v1_8_ v1_9_ v1_10_ v1_11_ v1_12_ v1_13_ v1_14_ v1_15_ v1_16_))=(fun(a0:Y6_0)(v0_2:Int)(y0:Y6_11)(v1_4_:Int)(v1_5_:(List Int))(v1_6_:Y6_13)(v1_7_:(List Int))(v1_8_:Int)(v1_9_:Y6_12)(v1_10_:Y6_12)(v1_11_:Int)(v1_12_:(List Int))(v1_13_:Y6_5)(v1_14_:Int)(v1_15_:Int)(v1_16_:Bool)=>L1 call k a0 v0_2 y0 (fun v0_2_ v0_3_ v0_4_ v0_5_ v0_6_ v0_7_ v0_8_ v0_9_ v0_10_ v0_11_ v0_12_ v0_13_ v0_14_=>(upJ 0 J0 J) 0 (S0 a0 a2 v0_2_ v0_3_ v0_4_ v0_5_ v0_6_ v0_7_ v0_8_ v0_9_ v0_10_ v0_11_ v0_12_ v0_13_ v0_14_)) k v1_4_ v1_5_ v1_6_ v1_7_ v1_8_ v1_9_ v1_10_ v1_11_ v1_12_ v1_13_ v1_14_ v1_15_ v1_16_)from funext fun a0=>funext fun v0_2=>funext fun y0=>funext fun v1_4_=>funext fun v1_5_=>funext fun v1_6_=>funext fun v1_7_=>funext fun v1_8_=>funext fun v1_9_=>funext fun v1_10_=>funext fun v1_11_=>funext fun v1_12_=>funext fun v1_13_=>funext fun v1_14_=>funext fun v1_15_=>funext fun v1_16_=>L1_eq call k (upJ 0 J0 J) a0 a1 a2 v0_2 y0 k (v1_4_,v1_5_,v1_6_,v1_7_,v1_8_,v1_9_,v1_10_,v1_11_,v1_12_,v1_13_,v1_14_,v1_15_,v1_16_)]
  all_goals rfl
theorem F_eq(call:Cl)(k:Nat)(a0:Y6_0)(a1:Int)(a2:Int):bodyK E call n_spec_l6Run k s_spec_l6Run (a0,a1,a2,())=F call k a0 a1 a2:=by
  exact Eq.trans (b:=Fm call k (fun a0 a2 v0_2_ v0_3_ v0_4_ v0_5_ v0_6_ v0_7_ v0_8_ v0_9_ v0_10_ v0_11_ v0_12_ v0_13_ v0_14_=>siteI E call n_spec_l6Run k s_spec_l6Run (a0,a1,a2,()) (fun _ _=>none) 0 k (S0 a0 a2 v0_2_ v0_3_ v0_4_ v0_5_ v0_6_ v0_7_ v0_8_ v0_9_ v0_10_ v0_11_ v0_12_ v0_13_ v0_14_)) a0 a1 a2) (by kernel_rfl) (congrArg (fun l=>Fm call k l a0 a1 a2) (funext fun a0=>funext fun a2=>funext fun v0_2_=>funext fun v0_3_=>funext fun v0_4_=>funext fun v0_5_=>funext fun v0_6_=>funext fun v0_7_=>funext fun v0_8_=>funext fun v0_9_=>funext fun v0_10_=>funext fun v0_11_=>funext fun v0_12_=>funext fun v0_13_=>funext fun v0_14_=>L0_eq call k (fun _ _=>none) a0 a1 a2 k (v0_2_,v0_3_,v0_4_,v0_5_,v0_6_,v0_7_,v0_8_,v0_9_,v0_10_,v0_11_,v0_12_,v0_13_,v0_14_)))
end spec_l6Run
end Go.Proofs.YtjgfofcgmcnblaaGreat.Pf
namespace Go.Proofs.YtjgfofcgmcnblaaGreat.Pf
open Go Go.Pv
abbrev YS:=Pg×(ET×((List Int×(Int×(Int×Unit)))×(Bool×Unit)))
def ms(p:Pg)(x:RR):YS:=(p,x.1.1,(x.1.2,x.2.1,x.2.2,()),x.2.1!=0,())
theorem trap0 {p:Pg}{s:RS}{t:Int}(h:t=0):Ans n_spec_l6Trap s_spec_l6Trap ((p,s.1,(s.2,0,0,()),false,()),t,()) ((false,()),(p,s.1,(s.2,0,0,()),false,()),()):=by
  refine Gv.ans (Gv.of (fun k=>spec_l6Trap.F_eq (cl k) k (p,s.1,(s.2,0,0,()),false,()) t) ?_);unfold spec_l6Trap.F spec_l6Trap.Fm;exact Tq.bt (beq_iff_eq.2 h) (Tq.ret rfl)
theorem trap1 {p:Pg}{s:RS}{t:Int}(h:t≠0):Ans n_spec_l6Trap s_spec_l6Trap ((p,s.1,(s.2,0,0,()),false,()),t,()) ((true,()),(p,s.1,(s.2,2,t,()),true,()),()):=by
  refine Gv.ans (Gv.of (fun k=>spec_l6Trap.F_eq (cl k) k (p,s.1,(s.2,0,0,()),false,()) t) ?_);unfold spec_l6Trap.F spec_l6Trap.Fm;exact Tq.bf (beq_eq_false_iff_ne.2 h) (Tq.ret rfl)
section
variable {p:Pg}(hp:Hd p)(hs:StsOk p)
include hp hs
theorem stmS_ans {i:Nat}(hi:i<p.2.2.2.2.2.1.length)(h:opAt p.2.2.2.2.2.1 i=0∨opAt p.2.2.2.2.2.1 i=1∨opAt p.2.2.2.2.2.1 i=6∨opAt p.2.2.2.2.2.1 i=7){s:RS}(hv:EnvR p s.1)(hB:(s.2.length:Int)+1≤13194139533312):
    Ans n_spec_l6Stmt s_spec_l6Stmt ((p,s.1,(s.2,0,0,()),false,()),smAt p.2.2.2.2.2.1 i,()) ((),ms p (stm p (smAt p.2.2.2.2.2.1 i) s),()):=by
  have h2:=hs _ (List.getElem_mem hi);have hb2:=hp.b;have hl:=hv.lv;have hc:=hv.lc;have hN:=h2.2.1;have o1:=opAt_lt hi;have hvr:Vrs p=Ins p+p.2.2.2.1:=rfl;have hin:Ins p=(p.2.1.length:Int)+(p.2.2.1.length:Int):=rfl;rw[←smAt_lt hi]at hN o1;unfold NOk at hN;have x2:=fun c=>sVal_ans hp hv (stand_exp hp hs hi c)
  have x1:=fun c=>sVal_ans hp hv (stand_at hp hs hi c)
  have v1:=fun c=>(ev_vl hp hv (stand_at hp hs hi c)).1
  refine Gv.ans (Gv.of (fun k=>spec_l6Stmt.F_eq (cl k) k (p,s.1,(s.2,0,0,()),false,()) (smAt p.2.2.2.2.2.1 i)) ?_);unfold spec_l6Stmt.F spec_l6Stmt.Fm stm;by_cases c7:(smAt p.2.2.2.2.2.1 i).1=7
  . rw[if_pos c7]
    repeat'((first|refine .t ?_|refine .u ?_|refine .some lg0 ?_|refine .some lg ?_|refine .some lgI ?_|(refine .bif (fun zz=>?_) (fun zz=>?_)<;>try simp(disch:=omega)only[zs,w64,zt]at zz))<;>try dsimp only)
    exact Tq.ret rfl
  rw[if_neg c7];by_cases c1:(smAt p.2.2.2.2.2.1 i).1=1
  . rw [if_pos c1];have x1:=x1 (by omega);have x2:=x2 (by omega);have v1:=v1 (by omega);have v10:=v1.1;have hN1:=hN.2.1 c1;refine Tq.bf (beq_eq_false_iff_ne.2 (by omega)) (Tq.bt (beq_iff_eq.2 c1) (Tq.ba x1 ?_));by_cases t1:evT p s.1 (smAt p.2.2.2.2.2.1 i).2.2.1=0
    . rw [if_neg (fun h=>h t1)];refine Tq.ba (trap0 t1) (Tq.bf rfl (Tq.ba x2 ?_));by_cases t2:evT p s.1 (smAt p.2.2.2.2.2.1 i).2.2.2.1=0
      . rw[if_neg (fun h=>h t2)];refine Tq.ba (trap0 t2) (Tq.bf rfl ?_);have hcc:=(hv.cs (smAt p.2.2.2.2.2.1 i).2.1.toNat (by omega) (by omega)).1;rw[←arrAt_lt (p:=p) (n:=(smAt p.2.2.2.2.2.1 i).2.1) (by omega)]at hcc;dsimp only;refine Tq.bt (by simp only[zs];omega) (Tq.some (lgI (by omega) (by omega)) ?_)
        try dsimp only
        by_cases t3:arrAt p (smAt p.2.2.2.2.2.1 i).2.1≤evV p s.1 (smAt p.2.2.2.2.2.1 i).2.2.1
        . rw[if_pos t3];refine Tq.bt (decide_eq_true (by omega)) (Tq.ba (trap1 (by omega)) (Tq.ret rfl))
        . rw[if_neg t3]
          repeat'((first|refine .t ?_|refine .u ?_|refine .some lg0 ?_|refine .some lg ?_|refine .some lgI ?_|(refine .bif (fun zz=>?_) (fun zz=>?_)<;>try simp(disch:=omega)only[zs,w64,zt]at zz))<;>try dsimp only)
          rw[getl_lt (by omega)];exact Tq.ret rfl
      . rw[if_pos t2];exact Tq.ba (trap1 t2) (Tq.bt rfl (Tq.ret (by unfold ms;rfl)))
    . rw[if_pos t1];exact Tq.ba (trap1 t1) (Tq.bt rfl (Tq.ret (by unfold ms;rfl)))
  rw[if_neg c1];have x2:=x2 (by omega);by_cases t2:evT p s.1 (smAt p.2.2.2.2.2.1 i).2.2.2.1=0
  . rw[if_neg (fun h=>h t2)];by_cases c0:(smAt p.2.2.2.2.2.1 i).1=0
    . rw[if_pos c0];refine Tq.bt (beq_iff_eq.2 c0) (Tq.ba x2 (Tq.ba (trap0 t2) (Tq.bt rfl ?_)));dsimp only
      repeat'((first|refine .t ?_|refine .u ?_|refine .some lg0 ?_|refine .some lg ?_|refine .some lgI ?_|(refine .bif (fun zz=>?_) (fun zz=>?_)<;>try simp(disch:=omega)only[zs,w64,zt]at zz))<;>try dsimp only)
      exact Tq.ret rfl
    . rw[if_neg c0];refine Tq.bf (beq_eq_false_iff_ne.2 (by omega)) (Tq.bf (beq_eq_false_iff_ne.2 (by omega)) (Tq.bt (beq_iff_eq.2 (by omega)) (Tq.ba x2 (Tq.ba (trap0 t2) (Tq.bt rfl ?_)))));dsimp only;refine Tq.bt (apb (by rw[by2];simp only[List.length_cons,List.length_nil];omega)) (Tq.ret rfl)
  . rw[if_pos t2];by_cases c0:(smAt p.2.2.2.2.2.1 i).1=0
    . exact Tq.bt (beq_iff_eq.2 c0) (Tq.ba x2 (Tq.ba (trap1 t2) (Tq.bf rfl (Tq.ret (by unfold ms;rfl)))))
    . exact Tq.bf (beq_eq_false_iff_ne.2 (by omega)) (Tq.bf (beq_eq_false_iff_ne.2 (by omega)) (Tq.bt (beq_iff_eq.2 (by omega)) (Tq.ba x2 (Tq.ba (trap1 t2) (Tq.bf rfl (Tq.ret (by unfold ms;rfl)))))))
omit hp hs
def SL(p:Pg)(i j:Nat)(f:RS→RR)(b:Int):Prop:=∀(w:ET×((List Int×(Int×(Int×Unit)))×(Bool×Unit)))(s:RS),EnvR p s.1→(s.2.length:Int)+b≤13194139533312→∀d,j-i<d→
  Tq d (fun k q=>spec_l6Run.L0 (cl k) k (p,w) (j:Int) q (i:Int) s.2 s.1.2.1 s.1.1 p.1 p.2.1 p.2.2.1 p.2.2.2.1 p.2.2.2.2.1 p.2.2.2.2.2.1 0 0 false) (· =((),ms p (f s),()))
def SA(p:Pg)(i j:Nat)(s:RS)(x:RR):Prop:=Ans n_spec_l6Run s_spec_l6Run ((p,s.1,(s.2,0,0,()),false,()),(i:Int),(j:Int),()) ((),ms p x,())
theorem SL.a {i j:Nat}{f:RS→RR}{b:Int}(h:SL p i j f b){s:RS}(hv:EnvR p s.1)(hB:(s.2.length:Int)+b≤13194139533312):SA p i j s (f s):=by
  refine Gv.ans (Gv.of (fun k=>spec_l6Run.F_eq (cl k) k (p,s.1,(s.2,0,0,()),false,()) i j) ?_);unfold spec_l6Run.F spec_l6Run.Fm;exact Tq.diag (h (s.1,(s.2,0,0,()),false,()) s hv hB (j-i+1) (by omega))
theorem run_stop(w:ET×((List Int×(Int×(Int×Unit)))×(Bool×Unit)))(j:Int)(at_:Int)(s:RS)(a b:Int)(d:Nat):
    Tq (d+1) (fun k q=>spec_l6Run.L0 (cl k) k (p,w) j q at_ s.2 s.1.2.1 s.1.1 p.1 p.2.1 p.2.2.1 p.2.2.2.1 p.2.2.2.2.1 p.2.2.2.2.2.1 a b true) (· =((),(p,s.1,(s.2,a,b,()),true,()),())):=by
  refine Tq.succ ?_;show Tq _ (fun k q=>spec_l6Run.step0 (cl k) k ..) _
  unfold spec_l6Run.step0;exact Tq.bif (fun _=>Tq.bf rfl (Tq.ret rfl)) (fun _=>Tq.ret rfl)
theorem run_thn {e j:Nat}{f:RS→RR}{b n:Int}{s:RS}{x:RR}(hF:Fine p n s x)(hn:(s.2.length:Int)+(n+b)≤13194139533312)(hr:SL p e j f b)(w:ET×((List Int×(Int×(Int×Unit)))×(Bool×Unit)))(d:Nat)(hd:j-e<d):
    Tq d (fun k q=>spec_l6Run.L0 (cl k) k (p,w) (j:Int) q (e:Int) x.1.2 x.1.1.2.1 x.1.1.1 p.1 p.2.1 p.2.2.1 p.2.2.2.1 p.2.2.2.2.1 p.2.2.2.2.2.1 x.2.1 x.2.2 (x.2.1!=0)) (· =((),ms p (thn x f),())):=by
  rcases thn_eq x f with⟨e0,e1⟩|⟨e0,e1⟩<;>rw[e1]
  . obtain⟨d,rfl⟩:∃d',d=d'+1:=⟨d-1,by omega⟩
    have h0:(x.2.1!=0)=true:=bne_iff_ne.2 e0;have:=run_stop (p:=p) w (j:Int) (e:Int) x.1 x.2.1 x.2.2 d;unfold ms;rw[h0];exact this
  . have h2:=hF.zero e0;have:=hr w x.1 hF.env (by have:=hF.out;omega) d hd;rw[e0,h2];exact this
theorem run_nil {i:Nat}{b:Int}:SL p i i (fun s=>(s,0,0)) b:=by
  intro w s hv hB d hd;obtain⟨d,rfl⟩:∃d',d=d'+1:=⟨d-1,by omega⟩
  refine Tq.succ ?_;show Tq _ (fun k q=>spec_l6Run.step0 (cl k) k ..) _
  unfold spec_l6Run.step0;exact Tq.bf (dnlt (Nat.le_refl _)) (Tq.ret rfl)
include hp hs
theorem run_leaf {i j:Nat}{f:RS→RR}{b:Int}(hi:i<p.2.2.2.2.2.1.length)(hj:i<j)(hb:0≤b)(h:opAt p.2.2.2.2.2.1 i=0∨opAt p.2.2.2.2.2.1 i=1∨opAt p.2.2.2.2.2.1 i=6∨opAt p.2.2.2.2.2.1 i=7)(hE:End p.2.2.2.2.2.1 i (-1) (-1))(hr:SL p (i+1) j f b):
    SL p i j (fun s=>thn (stm p (smAt p.2.2.2.2.2.1 i) s) f) (1+b):=by
  have hb2:=hp.b;have o1:=opAt_lt hi;intro w s hv hB d hd;obtain⟨d,rfl⟩:∃d',d=d'+1:=⟨d-1,by omega⟩
  have hx:=stmS_ans hp hs hi h hv (by omega);have hx:Ans n_spec_l6Stmt s_spec_l6Stmt (((p.1,p.2.1,p.2.2.1,p.2.2.2.1,p.2.2.2.2.1,p.2.2.2.2.2.1,()),(s.1.1,s.1.2.1,()),(s.2,0,0,()),false,()),smAt p.2.2.2.2.2.1 i,()) ((),ms p (stm p (smAt p.2.2.2.2.2.1 i) s),()):=hx;have hF:=stm_fine hp hs hi h hv;refine Tq.succ ?_;show Tq _ (fun k q=>spec_l6Run.step0 (cl k) k ..) _
  unfold spec_l6Run.step0;rw[smAt_lt hi]at hx hF⊢
  repeat'((first|refine .ba hE ?_|refine .ba hx ?_|refine .t ?_|refine .u ?_|refine .some lg0 ?_|refine .some lg ?_|refine .some lgI ?_|(refine .bif (fun zz=>?_) (fun zz=>?_)<;>try simp(disch:=omega)only[zs,w64,zt]at zz))<;>try dsimp only)
  rw[ws hi (by omega)];exact run_thn hF (by omega) hr w d (by omega)
end
end Go.Proofs.YtjgfofcgmcnblaaGreat.Pf
namespace Go.Proofs.YtjgfofcgmcnblaaGreat.Pf
open Go Go.Pv
abbrev WT:=ET×((List Int×(Int×(Int×Unit)))×(Bool×Unit))
theorem run_open {p:Pg}{w:WT}{j at_:Int}{s:RS}{d:Nat}{P:Unit×(YS×Unit)→Prop}
    (H:Tq d (fun k q=>spec_l6Run.step0 (cl k) k (p,w) j (fun a0_ v0_2_ y0_ v1_4_ v1_5_ v1_6_ v1_7_ v1_8_ v1_9_ v1_10_ v1_11_ v1_12_ v1_13_ v1_14_ v1_15_ v1_16_=>spec_l6Run.L1 (cl k) k a0_ v0_2_ y0_ (spec_l6Run.L0 (cl k) k (p,w) j q) k v1_4_ v1_5_ v1_6_ v1_7_ v1_8_ v1_9_ v1_10_ v1_11_ v1_12_ v1_13_ v1_14_ v1_15_ v1_16_) (spec_l6Run.L0 (cl k) k (p,w) j q) at_ s.2 s.1.2.1 s.1.1 p.1 p.2.1 p.2.2.1 p.2.2.2.1 p.2.2.2.2.1 p.2.2.2.2.2.1 0 0 false) P):
    Tq (d+1) (fun k q=>spec_l6Run.L0 (cl k) k (p,w) j q at_ s.2 s.1.2.1 s.1.1 p.1 p.2.1 p.2.2.1 p.2.2.2.1 p.2.2.2.2.1 p.2.2.2.2.2.1 0 0 false) P:=Tq.succ H
section
variable {p:Pg}(hp:Hd p)(hs:StsOk p)
include hp hs
theorem run_if {i e j:Nat}{mid:Int}(ho:opAt p.2.2.2.2.2.1 i=2)(hj:i<e∧e<j∧e<p.2.2.2.2.2.1.length)(hE:End p.2.2.2.2.2.1 i mid e){f1 f2 g:RS→RR}{a b:Int}(ha:0≤a)(hb:0≤b)
    (hF1:∀s,EnvR p s.1→Fine p a s (f1 s)) (hF2:∀s,EnvR p s.1→Fine p a s (f2 s))
    (h1:∀s,EnvR p s.1→(s.2.length:Int)+a≤13194139533312→(mid<0→SA p (i+1) e s (f1 s))∧(0≤mid→SA p (i+1) mid.toNat s (f1 s)))
    (h2:∀s,EnvR p s.1→(s.2.length:Int)+a≤13194139533312→(mid<0→f2 s=(s,0,0))∧(0≤mid→SA p (mid.toNat+1) e s (f2 s))) (hm:mid<e)
    (hr:SL p (e+1) j g b):
    SL p i j (fun s=>thn (if evT p s.1 (smAt p.2.2.2.2.2.1 i).2.2.2.1≠0 then(s,2,evT p s.1 (smAt p.2.2.2.2.2.1 i).2.2.2.1)else if evV p s.1 (smAt p.2.2.2.2.2.1 i).2.2.2.1≠0 then f1 s else f2 s) g) (1+a+b):=by
  have hb2:=hp.b;have hi:=opAt_in ho (by omega);have o1:=opAt_lt hi;intro w s hv hB d hd;obtain⟨d,rfl⟩:∃d',d=d'+1:=⟨d-1,by omega⟩
  have hx:=sVal_ans hp hv (stand_exp hp hs hi (by omega));rw[smAt_lt hi]at*;have hx:Ans n_spec_l5Value s_spec_l5Value ((p.1,p.2.1,p.2.2.1,p.2.2.2.1,p.2.2.2.2.1,p.2.2.2.2.2.1,()),(s.1.1,s.1.2.1,()),p.2.2.2.2.2.1[i].2.2.2.1,()) ((evV p s.1 p.2.2.2.2.2.1[i].2.2.2.1,evT p s.1 p.2.2.2.2.2.1[i].2.2.2.1,()),()):=hx;have g1:=h1 s hv (by omega);have g2:=h2 s hv (by omega);have F1:=hF1 s hv;have F2:=hF2 s hv;refine run_open ?_;unfold spec_l6Run.step0;refine Tq.bt (decide_eq_true (by omega)) (Tq.bt rfl (Tq.ba hE (Tq.bt (dle0 _) (Tq.some (lg hi) (Tq.bt (beq_iff_eq.2 (by omega)) (Tq.bt (dle0 _) (Tq.some (lg hi) (Tq.ba hx ?_))))))));dsimp only;by_cases t2:evT p s.1 p.2.2.2.2.2.1[i].2.2.2.1=0
  . rw [if_neg (fun h=>h t2)];refine Tq.ba (trap0 t2) (Tq.bf rfl ?_);dsimp only;rw[ws (n:=p.2.2.2.2.2.1.length) hj.2.2 (by omega),ws hi (by omega)];have K:∀(x:RR),Fine p a s x→Tq d (fun k q=>spec_l6Run.L0 (cl k) k (p,w) (j:Int) q ((e+1:Nat):Int) x.1.2 x.1.1.2.1 x.1.1.1 p.1 p.2.1 p.2.2.1 p.2.2.2.1 p.2.2.2.2.1 p.2.2.2.2.2.1 x.2.1 x.2.2 (x.2.1!=0)) (· =((),ms p (thn x g),())):=
      fun x hF=>run_thn hF (by omega) hr w d (by omega)
    by_cases t3:evV p s.1 p.2.2.2.2.2.1[i].2.2.2.1=0
    . rw [if_neg (fun h=>h t3)];by_cases c:mid<0
      . have e2:=g2.1 c;rw[e2]
        repeat'((first|refine .t ?_|refine .u ?_|refine .some lg0 ?_|refine .some lg ?_|refine .some lgI ?_|(refine .bif (fun zz=>?_) (fun zz=>?_)<;>try simp(disch:=omega)only[zs,w64,zt]at zz))<;>try dsimp only)
        rw[e2]at F2;exact K _ F2
      . have g3:=g2.2 (by omega);have g3:Ans n_spec_l6Run s_spec_l6Run ((p,s.1,(s.2,0,0,()),false,()),IntKind.i64.wrap (mid+1),(e:Int),()) ((),ms p (f2 s),()):=by
          rw[w64 (by omega) (by omega),show mid+1=((mid.toNat+1:Nat):Int) by omega];exact g3
        repeat'((first|refine .ba g3 ?_|refine .t ?_|refine .u ?_|refine .some lg0 ?_|refine .some lg ?_|refine .some lgI ?_|(refine .bif (fun zz=>?_) (fun zz=>?_)<;>try simp(disch:=omega)only[zs,w64,zt]at zz))<;>try dsimp only)
        exact K _ F2
    . rw [if_pos t3];by_cases c:mid<0
      . have g3:=g1.1 c
        repeat'((first|refine .ba g3 ?_|refine .t ?_|refine .u ?_|refine .some lg0 ?_|refine .some lg ?_|refine .some lgI ?_|(refine .bif (fun zz=>?_) (fun zz=>?_)<;>try simp(disch:=omega)only[zs,w64,zt]at zz))<;>try dsimp only)
        exact K _ F1
      . have g3:=g1.2 (by omega);have g3:Ans n_spec_l6Run s_spec_l6Run ((p,s.1,(s.2,0,0,()),false,()),((i+1:Nat):Int),mid,()) ((),ms p (f1 s),()):=by
          have:(mid.toNat:Int)=mid:=by omega
          unfold SA at g3;rw[this]at g3;exact g3
        repeat'((first|refine .ba g3 ?_|refine .t ?_|refine .u ?_|refine .some lg0 ?_|refine .some lg ?_|refine .some lgI ?_|(refine .bif (fun zz=>?_) (fun zz=>?_)<;>try simp(disch:=omega)only[zs,w64,zt]at zz))<;>try dsimp only)
        exact K _ F1
  . rw[if_pos t2];refine Tq.ba (trap1 t2) (Tq.bt rfl (Tq.ret ?_));unfold thn ms;rfl
theorem run_try {i m e j:Nat}(ho:opAt p.2.2.2.2.2.1 i=8)(hj:i<m∧m<e∧e<j∧e<p.2.2.2.2.2.1.length)(hE:End p.2.2.2.2.2.1 i m e){f1 f2 g:RS→RR}{a c b:Int}(ha:0≤a∧0≤c)(hb:0≤b)
    (hF1:∀s,EnvR p s.1→Fine p a s (f1 s)) (hF2:∀s,EnvR p s.1→Fine p c s (f2 s))
    (h1:∀s,EnvR p s.1→(s.2.length:Int)+a≤13194139533312→SA p (i+1) m s (f1 s)) (h2:∀s,EnvR p s.1→(s.2.length:Int)+c≤13194139533312→SA p (m+1) e s (f2 s)) (hr:SL p (e+1) j g b):
    SL p i j (fun s=>thn (if(f1 s).2.1=1∧(f1 s).2.2=NAt p.2.2.2.2.2.1 m then f2 (f1 s).1 else f1 s) g) (1+a+c+b):=by
  have hb2:=hp.b;have hi:=opAt_in ho (by omega);have o1:=opAt_lt hi;have hm:m<p.2.2.2.2.2.1.length:=by omega
  intro w s hv hB d hd;obtain⟨d,rfl⟩:∃d',d=d'+1:=⟨d-1,by omega⟩
  have F1:=hF1 s hv;have F2:=hF2 (f1 s).1 F1.env;have o:=F1.out;have g1:Ans n_spec_l6Run s_spec_l6Run (((p.1,p.2.1,p.2.2.1,p.2.2.2.1,p.2.2.2.2.1,p.2.2.2.2.2.1,()),(s.1.1,s.1.2.1,()),(s.2,0,0,()),false,()),((i+1:Nat):Int),(m:Int),()) ((),ms p (f1 s),()):=h1 s hv (by omega);have g2:Ans n_spec_l6Run s_spec_l6Run ((p,(f1 s).1.1,((f1 s).1.2,0,0,()),false,()),((m+1:Nat):Int),(e:Int),()) ((),ms p (f2 (f1 s).1),()):=h2 (f1 s).1 F1.env (by omega);have K:∀(x:RR),Fine p (a+c) s x→Tq d (fun k q=>spec_l6Run.L0 (cl k) k (p,w) (j:Int) q ((e+1:Nat):Int) x.1.2 x.1.1.2.1 x.1.1.1 p.1 p.2.1 p.2.2.1 p.2.2.2.1 p.2.2.2.2.1 p.2.2.2.2.2.1 x.2.1 x.2.2 (x.2.1!=0)) (· =((),ms p (thn x g),())):=
    fun x hF=>run_thn hF (by omega) hr w d (by omega)
  refine run_open ?_;unfold spec_l6Run.step0;refine Tq.bt (decide_eq_true (by omega)) (Tq.bt rfl (Tq.ba hE (Tq.bt (dle0 _) (Tq.some (lg hi) (Tq.bf (beq_eq_false_iff_ne.2 (by omega)) (Tq.bf (beq_eq_false_iff_ne.2 (by omega)) (Tq.bt (beq_iff_eq.2 (by omega)) ?_)))))));dsimp only;rw[ws hi (by omega),ws (n:=p.2.2.2.2.2.1.length) hj.2.2.2 (by omega),ws (n:=p.2.2.2.2.2.1.length) (j:=m) (by omega) (by omega)];refine Tq.ba g1 ?_;show Tq d (fun k q=>bif((f1 s).2.1 !=0)then bif((f1 s).2.1==1)then _ else _ else _) _
  have Fx:Fine p (a+c) s (f1 s):=⟨F1.env,by omega,F1.end3,F1.zero⟩;by_cases c1:(f1 s).2.1=1
  . refine Tq.bt (bne_iff_ne.2 (by omega)) (Tq.bt (beq_iff_eq.2 c1) (Tq.bt (dle0 _) (Tq.some (lg hm) ?_)));dsimp only;rw[←NAt_lt hm];by_cases c2:(f1 s).2.2=NAt p.2.2.2.2.2.1 m
    . rw[if_pos ⟨c1,c2⟩];refine Tq.bt (beq_iff_eq.2 c2) (Tq.ba g2 ?_);exact K _ ⟨F2.env,by have:=F2.out;omega,F2.end3,F2.zero⟩
    . rw[if_neg (fun h=>c2 h.2)];refine Tq.bf (beq_eq_false_iff_ne.2 c2) ?_;exact K _ Fx
  . rw[if_neg (fun h=>c1 h.1)];refine Tq.bif (fun _=>Tq.bf (beq_eq_false_iff_ne.2 c1) ?_) (fun _=>?_)
    . exact K _ Fx
    . exact K _ Fx
omit hp in
theorem rep_stop {i e:Nat}{w:WT}{d:Nat}{P:Unit×(YS×Unit)→Prop}(hi:i<p.2.2.2.2.2.1.length)(he:e<p.2.2.2.2.2.1.length)(hb:p.2.2.2.2.2.1.length≤40)(r0:Nat→Nat→Int→List Int→List (List Int)→List Int→Int→List Ip→List Ip→Int→List Int→List Sm→Int→Int→Bool→Option (Unit×(YS×Unit)))
    (n:Int) (x:RR) (h0:x.2.1≠0) (H:Tq d (fun k q=>r0 k q ((e+1:Nat):Int) x.1.2 x.1.1.2.1 x.1.1.1 p.1 p.2.1 p.2.2.1 p.2.2.2.1 p.2.2.2.2.1 p.2.2.2.2.2.1 x.2.1 x.2.2 (x.2.1!=0)) P) (m:Nat→Nat) (N:Nat) (hm:∀k,N≤k→1≤m k):
    Tq d (fun k q=>spec_l6Run.L1 (cl k) k (p,w) (i:Int) ((-1,(e:Int),()),()) (r0 k q) (m k) n x.1.2 x.1.1.2.1 x.1.1.1 p.1 p.2.1 p.2.2.1 p.2.2.2.1 p.2.2.2.2.1 p.2.2.2.2.2.1 x.2.1 x.2.2 (x.2.1!=0)) P:=by
  refine Tq.evEq (g:=fun k q=>spec_l6Run.step1 (cl k) k (p,w) (i:Int) ((-1,(e:Int),()),()) (r0 k q) (spec_l6Run.L1 (cl k) k (p,w) (i:Int) ((-1,(e:Int),()),()) (r0 k q) (m k-1)) n x.1.2 x.1.1.2.1 x.1.1.1 p.1 p.2.1 p.2.2.1 p.2.2.2.1 p.2.2.2.2.1 p.2.2.2.2.2.1 x.2.1 x.2.2 (x.2.1!=0)) ⟨N,fun k hk q _=>?_⟩ ?_
  . have:=hm k hk;obtain⟨y,hy⟩:∃y,m k=y+1:=⟨m k-1,by omega⟩
    rw[hy];rfl
  unfold spec_l6Run.step1;refine Tq.bt (dle0 _) (Tq.some (lg hi) ?_);dsimp only;rw[ws (n:=p.2.2.2.2.2.1.length) he (by omega)];have h1:(x.2.1!=0)=true:=bne_iff_ne.2 h0;exact Tq.bif (fun _=>Tq.bf (by rw[h1];rfl) H) (fun _=>H)
theorem rep_loop {i e:Nat}{w:WT}{d:Nat}{P:Unit×(YS×Unit)→Prop}(ho:opAt p.2.2.2.2.2.1 i=5)(he:i<e∧e<p.2.2.2.2.2.1.length)(r0:Nat→Nat→Int→List Int→List (List Int)→List Int→Int→List Ip→List Ip→Int→List Int→List Sm→Int→Int→Bool→Option (Unit×(YS×Unit)))
    {f:RS→RR} {b:Int} (hb:0≤b) (hF:∀s,EnvR p s.1→Fine p b s (f s)) (h1:∀s,EnvR p s.1→(s.2.length:Int)+b≤13194139533312→SA p (i+1) e s (f s)):
    ∀ (c n:Nat)(s:RS),n+c=(NAt p.2.2.2.2.2.1 i).toNat→EnvR p s.1→(s.2.length:Int)+c*b≤13194139533312→
      (H:Tq d (fun k q=>r0 k q ((e+1:Nat):Int) (rep f c s).1.2 (rep f c s).1.1.2.1 (rep f c s).1.1.1 p.1 p.2.1 p.2.2.1 p.2.2.2.1 p.2.2.2.2.1 p.2.2.2.2.2.1 (rep f c s).2.1 (rep f c s).2.2 ((rep f c s).2.1 !=0)) P)→∀(m:Nat→Nat)(N:Nat),(∀k,N≤k→c+1≤m k)→
      Tq d (fun k q=>spec_l6Run.L1 (cl k) k (p,w) (i:Int) ((-1,(e:Int),()),()) (r0 k q) (m k) (n:Int) s.2 s.1.2.1 s.1.1 p.1 p.2.1 p.2.2.1 p.2.2.2.1 p.2.2.2.2.1 p.2.2.2.2.2.1 0 0 false) P:=by
  have hb2:=hp.b;have hi:=opAt_in ho (by omega);have hN:=hs.loop i ho;intro c
  induction c with
  | zero=>
    intro n s hn hv hB H m N hm;refine Tq.evEq (g:=fun k q=>spec_l6Run.step1 (cl k) k (p,w) (i:Int) ((-1,(e:Int),()),()) (r0 k q) (spec_l6Run.L1 (cl k) k (p,w) (i:Int) ((-1,(e:Int),()),()) (r0 k q) (m k-1)) (n:Int) s.2 s.1.2.1 s.1.1 p.1 p.2.1 p.2.2.1 p.2.2.2.1 p.2.2.2.2.1 p.2.2.2.2.2.1 0 0 false) ⟨N,fun k hk q _=>?_⟩ ?_
    . have:=hm k hk;obtain⟨y,hy⟩:∃y,m k=y+1:=⟨m k-1,by omega⟩
      rw[hy];rfl
    unfold spec_l6Run.step1;refine Tq.bt (dle0 _) (Tq.some (lg hi) ?_);dsimp only;rw[ws (n:=p.2.2.2.2.2.1.length) he.2 (by omega),←NAt_lt hi];exact Tq.bf (decide_eq_false (by omega)) H
  | succ c ih=>
    intro n s hn hv hB H m N hm;have e2:(((c+1:Nat):Int)*b)=b+c*b:=by rw[Int.natCast_succ,Int.add_mul];omega
    have hnn:=Int.mul_nonneg (show(0:Int)≤c by omega) hb;have g:=hF s hv;have hd:Ans n_spec_l6Run s_spec_l6Run (((p.1,p.2.1,p.2.2.1,p.2.2.2.1,p.2.2.2.2.1,p.2.2.2.2.2.1,()),(s.1.1,s.1.2.1,()),(s.2,0,0,()),false,()),((i+1:Nat):Int),(e:Int),()) ((),ms p (f s),()):=h1 s hv (by omega);refine Tq.evEq (g:=fun k q=>spec_l6Run.step1 (cl k) k (p,w) (i:Int) ((-1,(e:Int),()),()) (r0 k q) (spec_l6Run.L1 (cl k) k (p,w) (i:Int) ((-1,(e:Int),()),()) (r0 k q) (m k-1)) (n:Int) s.2 s.1.2.1 s.1.1 p.1 p.2.1 p.2.2.1 p.2.2.2.1 p.2.2.2.2.1 p.2.2.2.2.2.1 0 0 false) ⟨N,fun k hk q _=>?_⟩ ?_
    . have:=hm k hk;obtain⟨y,hy⟩:∃y,m k=y+1:=⟨m k-1,by omega⟩
      rw[hy];rfl
    unfold spec_l6Run.step1;refine Tq.bt (dle0 _) (Tq.some (lg hi) ?_);dsimp only;rw[ws hi (by omega),←NAt_lt hi];refine Tq.bt (decide_eq_true (by omega)) (Tq.bt rfl (Tq.ba hd ?_));rw[ws (n:=4) (by omega) (by omega)];unfold rep at H;by_cases c0:(f s).2.1=0
    . rw[if_neg (fun h=>h c0)]at H;have z:=g.zero c0;have:=ih (n+1) (f s).1 (by omega) g.env (by have:=g.out;omega) H (fun k=>m k-1) N (fun k hk=>by have:=hm k hk;show c+1≤m k-1;omega);show Tq d (fun k q=>spec_l6Run.L1 (cl k) k (p,w) (i:Int) ((-1,(e:Int),()),()) (r0 k q) (m k-1) ((n+1:Nat):Int) (f s).1.2 (f s).1.1.2.1 (f s).1.1.1 p.1 p.2.1 p.2.2.1 p.2.2.2.1 p.2.2.2.2.1 p.2.2.2.2.2.1 (f s).2.1 (f s).2.2 ((f s).2.1 !=0)) P
      rw[c0,z];exact this
    . rw[if_pos c0]at H;exact rep_stop hs hi he.2 (by omega) r0 ((n+1:Nat):Int) (f s) c0 H (fun k=>m k-1) N (fun k hk=>by have:=hm k hk;show 1≤m k-1;omega)
theorem run_loop {i e j:Nat}(ho:opAt p.2.2.2.2.2.1 i=5)(hj:i<e∧e<j∧e<p.2.2.2.2.2.1.length)(hE:End p.2.2.2.2.2.1 i (-1) e){f g:RS→RR}{a b:Int}(ha:0≤a)(hb:0≤b)
    (hF:∀s,EnvR p s.1→Fine p a s (f s)) (h1:∀s,EnvR p s.1→(s.2.length:Int)+a≤13194139533312→SA p (i+1) e s (f s)) (hr:SL p (e+1) j g b):
    SL p i j (fun s=>thn (rep f (NAt p.2.2.2.2.2.1 i).toNat s) g) (1+NAt p.2.2.2.2.2.1 i*(1+a)+b):=by
  have hb2:=hp.b;have hi:=opAt_in ho (by omega);have o1:=opAt_lt hi;have hN:=hs.loop i ho;have e2:NAt p.2.2.2.2.2.1 i*(1+a)=NAt p.2.2.2.2.2.1 i+NAt p.2.2.2.2.2.1 i*a:=by rw[Int.mul_add,Int.mul_one]
  have e3:=Int.mul_nonneg hN.1 ha;have e1:(((NAt p.2.2.2.2.2.1 i).toNat:Nat):Int)=NAt p.2.2.2.2.2.1 i:=by omega
  intro w s hv hB d hd;obtain⟨d,rfl⟩:∃d',d=d'+1:=⟨d-1,by omega⟩
  have FR:=rep_fine ha hF (NAt p.2.2.2.2.2.1 i).toNat hv;rw[e1]at FR;refine run_open ?_;unfold spec_l6Run.step0;refine Tq.bt (decide_eq_true (by omega)) (Tq.bt rfl (Tq.ba hE (Tq.bt (dle0 _) (Tq.some (lg hi) (Tq.bf (beq_eq_false_iff_ne.2 (by omega)) (Tq.bt (beq_iff_eq.2 (by omega)) ?_))))));exact rep_loop hp hs ho ⟨hj.1,hj.2.2⟩ (fun k q=>spec_l6Run.L0 (cl k) k (p,w) (j:Int) q) ha hF h1 (NAt p.2.2.2.2.2.1 i).toNat 0 s (by omega) hv (by rw[e1];omega) (run_thn FR (by omega) hr w d (by omega)) (fun k=>k) ((NAt p.2.2.2.2.2.1 i).toNat+1) (fun k hk=>hk)
theorem run_seg {t:Fs}{i j:Nat}(h:Seg p.2.2.2.2.2.1 t i j):SL p i j (runF p t) (t.steps p.2.2.2.2.2.1):=by
  have hN:=hs.loop;have hb:=hp.b;have hb2:p.2.2.2.2.2.1.length≤1048576:=by omega
  induction h with
  |nil=>exact run_nil
  | @leaf r i j hi ho hr ih=>
    have h1:=hr.le;exact run_leaf hp hs hi (by omega) (steps_bd hN hr).1 (leaf_op hp hs hi ho) (end_leaf hb2 hi (by omega) (blk_seg hb2 hr).blk) ih
  | @one t r i e j ho ht he hr ih1 ih2=>
    have h1:=ht.le;have h3:=hr.le;have h2:=opAt_in he (by omega);have b1:=(steps_bd hN ht).1;have b2:=(steps_bd hN hr).1;have F1:=run_fine hp hs ht;have hE:=end_one hb2 ho (blk_seg hb2 ht).blk he;unfold Fs.steps;by_cases c:opAt p.2.2.2.2.2.1 i=2
    . rw[if_pos c];have D:=run_if hp hs c (by omega) hE b1 b2 F1 (f2:=fun s=>(s,0,0)) (fun s hv=>.stay hv b1 (.inl rfl) (fun _=>rfl)) (fun s hv hB=>⟨fun _=>ih1.a hv hB,fun h=>by omega⟩) (fun s hv hB=>⟨fun _=>rfl,fun h=>by omega⟩) (by omega) ih2;intro w s hv hB d hd;have:=D w s hv hB d hd;unfold runF;rw[if_pos c];exact this
    . rw[if_neg c];have D:=run_loop hp hs (by omega) (by omega) hE b1 b2 F1 (fun s hv hB=>ih1.a hv hB) ih2;intro w s hv hB d hd;have:=D w s hv hB d hd;unfold runF;rw[if_neg c];exact this
  | @two t o r i m e j ho ht hot he hr ih1 ih2 ih3=>
    have h1:=ht.le;have h3:=hot.le;have h4:=hr.le;have h2:=opAt_in he (by omega);have b1:=(steps_bd hN ht).1;have b2:=(steps_bd hN hot).1;have b3:=(steps_bd hN hr).1;have F1:=run_fine hp hs ht;have F2:=run_fine hp hs hot;have hE:=end_two hb2 ho (blk_seg hb2 ht).blk (blk_seg hb2 hot).blk he;unfold Fs.steps;by_cases c:opAt p.2.2.2.2.2.1 i=2
    . rw[if_pos c];have D:=run_if hp hs c (a:=max (t.steps p.2.2.2.2.2.1) (o.steps p.2.2.2.2.2.1)) (by omega) hE (by omega) b3 (fun s hv=>by have g:=F1 s hv;exact⟨g.env,by have:=g.out;omega,g.end3,g.zero⟩) (fun s hv=>by have g:=F2 s hv;exact⟨g.env,by have:=g.out;omega,g.end3,g.zero⟩) (fun s hv hB=>⟨fun h=>by omega,fun _=>ih1.a hv (by omega)⟩) (fun s hv hB=>⟨fun h=>by omega,fun _=>ih2.a hv (by omega)⟩) (by omega) ih3;intro w s hv hB d hd;have:=D w s hv hB d hd;unfold runF;rw[if_pos c];exact this
    . rw[if_neg c];have c8:=ho.resolve_left (fun h=>c h.1);have D:=run_try hp hs c8.1 (by omega) hE ⟨b1,b2⟩ b3 F1 F2 (fun s hv hB=>ih1.a hv hB) (fun s hv hB=>ih2.a hv hB) ih3;intro w s hv hB d hd;have:=D w s hv hB d hd;unfold runF;rw[if_neg c];exact this
end
end Go.Proofs.YtjgfofcgmcnblaaGreat.Pf
namespace Go.Proofs.YtjgfofcgmcnblaaGreat.Pf
open Go Go.Pv
def WAt(l:List Int)(ins:List Ip)(i:Nat):Prop:=∀(h:i<l.length)(h2:i<ins.length),0≤l[i]∧l[i]≤ins[i].1
def WFrom(l:List Int)(ins:List Ip)(j:Nat):Prop:=∀i,j≤i→WAt l ins i
def Within(l:List Int)(ins:List Ip):Prop:=l.length=ins.length∧WFrom l ins 0
def zer(n:Int):List Int:=List.replicate n.toNat 0
def startV(p:Pg)(l s:List Int):ET:=(l++s++zer p.2.2.2.1,p.2.2.2.2.1.map zer,())
theorem bbt {a:Int}{n c:Nat}(h0:0≤a)(h:n≤c):(decide (0≤a)&&decide (n≤c))=true:=by
  rw[decide_eq_true h0,decide_eq_true h];rfl
theorem by23:ti28.bytes=24:=rfl
theorem map_drop {a:List Int}{j:Nat}(hj:j<a.length):(a.drop j).map zer=zer a[j]::(a.drop (j+1)).map zer:=by
  rw[List.drop_eq_getElem_cons hj];rfl
theorem startAt_ans {p:Pg}(hp:Hd p){l s:List Int}(hl:l.length≤1048576)(hs:s.length≤1048576):Ans n_impl_startAt s_impl_startAt (p,l,s,()) ((startV p l s,()),()):=by
  have hb:=hp.b;have hr:=hp.r.2;refine Gv.ans (Gv.of (fun k=>impl_startAt.F_eq (cl k) k p l s) ?_);unfold impl_startAt.F impl_startAt.Fm;refine Tq.bt (apb (by rw[by2];omega)) (Tq.bt (apb (by rw[by2,List.nil_append];omega)) (Tq.bt (bbt (by omega) (by rw[by2,List.nil_append,List.length_append];omega)) ?_));have key:∀(d j:Nat)(acc:List (List Int)),p.2.2.2.2.1.length-j=d→acc.length=j→Tq (d+1) (fun k q=>impl_startAt.L0 (cl k) k p l s q (j:Int) acc) (· =(((l++s++zer p.2.2.2.1,acc++(p.2.2.2.2.1.drop j).map zer,()),()),())):=by
    intro d
    induction d with
    | zero=>
      intro j acc hd hj;refine Tq.succ ?_;show Tq _ (fun k q=>impl_startAt.step0 (cl k) k ..) _
      unfold impl_startAt.step0
      repeat'((first|refine .t ?_|refine .u ?_|refine .some lg0 ?_|refine .some lg ?_|refine .some lgI ?_|(refine .bif (fun zz=>?_) (fun zz=>?_)<;>try simp(disch:=omega)only[zs,w64,zt]at zz))<;>try dsimp only)
      rw[List.drop_of_length_le (by omega),List.map_nil,List.append_nil];exact Tq.ret rfl
    | succ d ih=>
      intro j acc hd hj;have hj2:j<p.2.2.2.2.1.length:=by omega
      have h6:=hr _ (List.getElem_mem hj2);refine Tq.succ ?_;show Tq _ (fun k q=>impl_startAt.step0 (cl k) k ..) _
      unfold impl_startAt.step0;refine Tq.bt (dlt hj2) (Tq.bt (dle0 _) (Tq.some (lg hj2) (Tq.bt (mkI (by omega) (by show _*8≤_;omega)) (Tq.bt (apb (by rw[by23];simp only[List.length_cons,List.length_nil];omega)) ?_))));rw[ws hj2 (by omega),map_drop hj2];have:=ih (j+1) (acc++[zer p.2.2.2.2.1[j]]) (by omega) (by simp[hj]);rw[List.append_assoc acc,List.singleton_append]at this;exact this
  have:=key _ 0 [] rfl rfl;rw[List.nil_append]at this;exact Tq.diag this
theorem start_env {p:Pg}(hp:Hd p){l s:List Int}(h1:Within l p.2.1)(h2:Within s p.2.2.1):EnvR p (startV p l s):=by
  have hb:=hp.b;have hr:=hp.r.2;have hi:=hp.i;refine⟨?_,by show(p.2.2.2.2.1.map zer).length=_;rw[List.length_map],?_,?_⟩
  . show(((l++s++zer p.2.2.2.1).length:Nat):Int)=_
    rw[List.length_append,List.length_append,h1.1,h2.1];unfold zer Vrs;rw[List.length_replicate];omega
  . intro x hx;rcases List.mem_append.1 hx with hx|hx
    . rcases List.mem_append.1 hx with hx|hx
      . obtain⟨i,h,rfl⟩:=List.getElem_of_mem hx;have a:=h1.2 i (Nat.zero_le _) h (by have:=h1.1;omega);have b:=hi.2.1 _ (List.getElem_mem (show i<p.2.1.length by have:=h1.1;omega));exact⟨a.1,by have:=b.2.1;omega⟩
      . obtain⟨i,h,rfl⟩:=List.getElem_of_mem hx;have a:=h2.2 i (Nat.zero_le _) h (by have:=h2.1;omega);have b:=hi.2.2.1 _ (List.getElem_mem (show i<p.2.2.1.length by have:=h2.1;omega));exact⟨a.1,by have:=b.2.1;omega⟩
    . rw[List.eq_of_mem_replicate hx];exact⟨Int.le_refl _,by omega⟩
  . intro i h h';have e:(startV p l s).2.1[i]=zer p.2.2.2.2.1[i]:=List.getElem_map _;rw[e];have:=hr _ (List.getElem_mem h');refine⟨by unfold zer;rw[List.length_replicate];omega,fun x hx=>?_⟩;rw[List.eq_of_mem_replicate hx];exact⟨Int.le_refl _,by omega⟩
end Go.Proofs.YtjgfofcgmcnblaaGreat.Pf
namespace Go.Proofs.YtjgfofcgmcnblaaGreat.Pf
open Go Go.Pv IntKind
abbrev YA_0:Type:=((Int×((List (Int×(Int×Unit)))×((List (Int×(Int×Unit)))×(Int×((List Int)×((List (Int×(Int×((List (Int×(Int×Unit)))×((List (Int×(Int×Unit)))×Unit)))))×Unit)))))))
abbrev YA_1:Type:=(Int×((List (Int×(Int×Unit)))×((List (Int×(Int×Unit)))×(Int×((List Int)×((List (Int×(Int×((List (Int×(Int×Unit)))×((List (Int×(Int×Unit)))×Unit)))))×Unit))))))
abbrev YA_2:Type:=((((List (Int×(Int×Unit)))×Unit)×Unit))
abbrev YA_3:Type:=(((List (Int×(Int×Unit)))×Unit)×Unit)
abbrev YA_4:Type:=((Int)×(Int)×((List Int)))
abbrev YA_5:Type:=((Int)×((List Int)))
abbrev YA_6:Type:=(List (List Int))
abbrev YA_7:Type:=((Int)×(Int))
namespace spec_l7Maxes
abbrev R:=(((List Int)×Unit)×Unit)
def S1(a0:YA_1)(v1_0:Int)(v1_1:(List Int)):St:=⟨mkS 40 [(1,.p [500001] [] 0),(3,.ref [500003]),(5,.v tI v1_0)],[([500003],.list 2 tI v1_1),([500001],.box (.v tPg ((a0.1),((a0.2.1),((a0.2.2.1),((a0.2.2.2.1),((a0.2.2.2.2.1),((a0.2.2.2.2.2.1),()))))))))]⟩
def S0(a0:YA_1)(v0_0:Int)(v0_1:(List Int)):St:=⟨mkS 40 [(1,.p [500001] [] 0),(3,.ref [500003]),(4,.v tI v0_0)],[([500003],.list 2 tI v0_1),([500001],.box (.v tPg ((a0.1),((a0.2.1),((a0.2.2.1),((a0.2.2.2.1),((a0.2.2.2.2.1),((a0.2.2.2.2.2.1),()))))))))]⟩
def step1(call:Cl)(k:Nat)(a0:YA_1)(r1:(Int)→((List Int))→Option R)(v1_0:Int)(v1_1:(List Int)):Option R:=bif decide (v1_0<(↑a0.2.2.1.length:Int))then bif decide (0≤v1_0)then(lget a0.2.2.1 v1_0.toNat).bind fun(y1:Int×Int×Unit)=>bif decide ((v1_1.length+[y1.1].length)*ti2.bytes≤140737488355328)then r1 (i64.wrap (v1_0+1)) (v1_1++[y1.1])else none else none else some ((v1_1,()),())
def L1(call:Cl)(k:Nat)(a0:YA_1):Nat→(Int)→((List Int))→Option R|0,_,_=>none|n+1,v1_0,v1_1=>step1 call k a0 (L1 call k a0 n) v1_0 v1_1
def step0(call:Cl)(k:Nat)(a0:YA_1)(l1:YA_0→(Int)→((List Int))→Option R)(r0:(Int)→((List Int))→Option R)(v0_0:Int)(v0_1:(List Int)):Option R:=bif decide (v0_0<(↑a0.2.1.length:Int))then bif decide (0≤v0_0)then(lget a0.2.1 v0_0.toNat).bind fun(y0:Int×Int×Unit)=>bif decide ((v0_1.length+[y0.1].length)*ti2.bytes≤140737488355328)then r0 (i64.wrap (v0_0+1)) (v0_1++[y0.1])else none else none else l1 a0 0 v0_1
def L0(call:Cl)(k:Nat)(a0:YA_1):Nat→(Int)→((List Int))→Option R|0,_,_=>none|n+1,v0_0,v0_1=>step0 call k a0 (fun a0_ v1_0_ v1_1_=>L1 call k a0_ k v1_0_ v1_1_) (L0 call k a0 n) v0_0 v0_1
def Fm(call:Cl)(k:Nat)(l0:YA_0→(Int)→((List Int))→Option R)(a0:YA_1):Option R:=l0 a0 0 []
def F(call:Cl)(k:Nat)(a0:YA_1):Option R:=Fm call k (fun a0_ v0_0_ v0_1_=>L0 call k a0_ k v0_0_ v0_1_) a0
theorem L1_eq(call:Cl)(k:Nat)(J:Nat→St→Option R)(a0:YA_1):∀(n:Nat)(x:YA_5),siteI E call n_spec_l7Maxes k s_spec_l7Maxes (a0,()) J 1 n (S1 a0 x.1 x.2)=L1 call k a0 n x.1 x.2:=by
  refine loop_eq (s:=s_spec_l7Maxes) (fun x=>S1 a0 x.1 x.2) (fun n x=>L1 call k a0 n x.1 x.2) (fun r x=>step1 call k a0 (fun v1_0 v1_1=>r (v1_0,v1_1)) x.1 x.2) (fun _=>rfl) (fun _ _=>rfl) fun J0 x=>?_
  kernel_rfl
theorem L0_eq(call:Cl)(k:Nat)(J:Nat→St→Option R)(a0:YA_1):∀(n:Nat)(x:YA_5),siteI E call n_spec_l7Maxes k s_spec_l7Maxes (a0,()) J 0 n (S0 a0 x.1 x.2)=L0 call k a0 n x.1 x.2:=by
  refine loop_eq (s:=s_spec_l7Maxes) (fun x=>S0 a0 x.1 x.2) (fun n x=>L0 call k a0 n x.1 x.2) (fun r x=>step0 call k a0 (fun(a0:YA_1)(v1_0_:Int)(v1_1_:(List Int))=>L1 call k a0 k v1_0_ v1_1_) (fun v0_0 v0_1=>r (v0_0,v0_1)) x.1 x.2) (fun _=>rfl) (fun _ _=>rfl) fun J0 x=>?_
  refine Eq.trans (b:=step0 call k a0 (fun a0 v1_0_ v1_1_=>siteI E call n_spec_l7Maxes k s_spec_l7Maxes (a0,()) (upJ 0 J0 J) 1 k (S1 a0 v1_0_ v1_1_)) (fun v0_0 v0_1=>J0 (S0 a0 v0_0 v0_1)) x.1 x.2) (by kernel_rfl) ?_;rw[show(fun(a0:YA_1)(v1_0_:Int)(v1_1_:(List Int))=>siteI E call n_spec_l7Maxes k s_spec_l7Maxes (a0,()) (upJ 0 J0 J) 1 k (S1 a0 v1_0_ v1_1_))=(fun(a0:YA_1)(v1_0_:Int)(v1_1_:(List Int))=>L1 call k a0 k v1_0_ v1_1_)from funext fun a0=>funext fun v1_0_=>funext fun v1_1_=>L1_eq call k (upJ 0 J0 J) a0 k (v1_0_,v1_1_)]
  all_goals rfl
theorem F_eq(call:Cl)(k:Nat)(a0:YA_1):bodyK E call n_spec_l7Maxes k s_spec_l7Maxes (a0,())=F call k a0:=by
  exact Eq.trans (b:=Fm call k (fun a0 v0_0_ v0_1_=>siteI E call n_spec_l7Maxes k s_spec_l7Maxes (a0,()) (fun _ _=>none) 0 k (S0 a0 v0_0_ v0_1_)) a0) (by kernel_rfl) (congrArg (fun l=>Fm call k l a0) (funext fun a0=>funext fun v0_0_=>funext fun v0_1_=>L0_eq call k (fun _ _=>none) a0 k (v0_0_,v0_1_)))
end spec_l7Maxes
namespace spec_l6Of
abbrev R:=((((List Int)×(Int×(Int×Unit)))×Unit)×Unit)
def S0(a0:YA_1)(a1:(List Int))(v0_0:Int)(v0_1:YA_6):St:=⟨mkS 46 [(2,.p [500002] [] 0),(4,.p [500004] [] 0),(5,.p [500005] [] 0),(6,.v tI v0_0)],[([500005,5,1,0],.list 28 (.own 2 tI) v0_1),([500005,5,0],.list 2 tI ([]++a1++List.replicate (Int.toNat a0.2.2.2.1) (Int.ofNat (nat_lit 0)))),([500005],.box (.pr (.ref [500005,5,0]) (.pr (.ref [500005,5,1,0]) (.v .unit ())))),([500004,5,0],.list 2 tI ([])),([500004],.box (.pr (.ref [500004,5,0]) (.v tTm ((0),((0),()))))),([500002],.box (.v tPg ((a0.1),((a0.2.1),((a0.2.2.1),((a0.2.2.2.1),((a0.2.2.2.2.1),((a0.2.2.2.2.2.1),()))))))))]⟩
def step0(call:Cl)(k:Nat)(a0:YA_1)(a1:(List Int))(r0:(Int)→(YA_6)→Option R)(v0_0:Int)(v0_1:YA_6):Option R:=bif decide (v0_0<(↑a0.2.2.2.2.1.length:Int))then bif decide (0≤v0_0)then(lget a0.2.2.2.2.1 v0_0.toNat).bind fun(y0:Int)=>bif decide (y0=y0)&&decide (0≤y0)&&decide (y0*(↑ti2.bytes:Int)≤281474976710656)then bif decide ((v0_1.length+[List.replicate y0.toNat (Int.ofNat (nat_lit 0))].length)*ti28.bytes≤140737488355328)then r0 (i64.wrap (v0_0+1)) (v0_1++[List.replicate y0.toNat (Int.ofNat (nat_lit 0))])else none else none else none else(call 155 s_spec_l6Run ((a0,([]++a1++List.replicate (Int.toNat a0.2.2.2.1) (Int.ofNat (nat_lit 0)),v0_1,()),([],0,0,()),false,()),0,(↑a0.2.2.2.2.2.1.length:Int),())).bind fun(y1:(Unit×((Int×List (Int×Int×Unit)×List (Int×Int×Unit)×Int×List Int×List (Int×Int×List (Int×Int×Unit)×List (Int×Int×Unit)×Unit)×Unit)×(List Int×List (List Int)×Unit)×(List Int×Int×Int×Unit)×Bool×Unit)×Unit))=>some ((y1.2.1.2.2.1,()),())
def L0(call:Cl)(k:Nat)(a0:YA_1)(a1:(List Int)):Nat→(Int)→(YA_6)→Option R|0,_,_=>none|n+1,v0_0,v0_1=>step0 call k a0 a1 (L0 call k a0 a1 n) v0_0 v0_1
def Fm(call:Cl)(k:Nat)(l0:YA_0→((List Int))→(Int)→(YA_6)→Option R)(a0:YA_1)(a1:(List Int)):Option R:=bif decide ((0+a1.length)*ti2.bytes≤140737488355328)then bif decide (0≤a0.2.2.2.1)&&decide ((([]++a1).length+Int.toNat a0.2.2.2.1)*ti2.bytes≤140737488355328)then l0 a0 a1 0 []else none else none
def F(call:Cl)(k:Nat)(a0:YA_1)(a1:(List Int)):Option R:=Fm call k (fun a0_ a1_ v0_0_ v0_1_=>L0 call k a0_ a1_ k v0_0_ v0_1_) a0 a1
theorem L0_eq(call:Cl)(k:Nat)(J:Nat→St→Option R)(a0:YA_1)(a1:(List Int)):∀(n:Nat)(x:((Int)×(YA_6))),siteI E call n_spec_l6Of k s_spec_l6Of (a0,a1,()) J 0 n (S0 a0 a1 x.1 x.2)=L0 call k a0 a1 n x.1 x.2:=by
  refine loop_eq (s:=s_spec_l6Of) (fun x=>S0 a0 a1 x.1 x.2) (fun n x=>L0 call k a0 a1 n x.1 x.2) (fun r x=>step0 call k a0 a1 (fun v0_0 v0_1=>r (v0_0,v0_1)) x.1 x.2) (fun _=>rfl) (fun _ _=>rfl) fun J0 x=>?_
  kernel_rfl
theorem F_eq(call:Cl)(k:Nat)(a0:YA_1)(a1:(List Int)):bodyK E call n_spec_l6Of k s_spec_l6Of (a0,a1,())=F call k a0 a1:=by
  exact Eq.trans (b:=Fm call k (fun a0 a1 v0_0_ v0_1_=>siteI E call n_spec_l6Of k s_spec_l6Of (a0,a1,()) (fun _ _=>none) 0 k (S0 a0 a1 v0_0_ v0_1_)) a0 a1) (by kernel_rfl) (congrArg (fun l=>Fm call k l a0 a1) (funext fun a0=>funext fun a1=>funext fun v0_0_=>funext fun v0_1_=>L0_eq call k (fun _ _=>none) a0 a1 k (v0_0_,v0_1_)))
end spec_l6Of
namespace impl_allInputs
abbrev R:=(((List (Int×(Int×Unit)))×Unit)×Unit)
def Fm(call:Cl)(k:Nat)(a0:YA_1):Option R:=bif decide ((0+List.length a0.2.1)*ti59.bytes≤140737488355328)then bif decide ((([]++a0.2.1).length+List.length a0.2.2.1)*ti59.bytes≤140737488355328)then some (([]++a0.2.1++a0.2.2.1,()),())else none else none
def F(call:Cl)(k:Nat)(a0:YA_1):Option R:=Fm call k a0
theorem F_eq(call:Cl)(k:Nat)(a0:YA_1):bodyK E call n_impl_allInputs k s_impl_allInputs (a0,())=F call k a0:=by kernel_rfl
end impl_allInputs
namespace impl_manyInputs
abbrev R:=((Int×Unit)×Unit)
def S0(y0:YA_2)(v0_0:Int)(v0_2:Int):St:=⟨mkS 20 [(3,.v tI v0_0),(7,.ref [500007]),(8,.v tI ((↑(List.length y0.1.1):Int))),(9,.v tI v0_2)],[([500007],.list 59 tTm (y0.1.1))]⟩
def step0(call:Cl)(k:Nat)(y0:YA_3)(r0:(Int)→(Int)→Option R)(v0_0:Int)(v0_2:Int):Option R:=bif decide (v0_2<(↑(List.length y0.1.1):Int))then bif decide (0≤v0_2)&&decide (v0_2.toNat<List.length y0.1.1)then(lget y0.1.1 v0_2.toNat).bind fun(y1:Int×Int×Unit)=>r0 (i64.wrap (v0_0*i64.wrap (y1.1+1))) (i64.wrap (v0_2+1))else none else some ((v0_0,()),())
def L0(call:Cl)(k:Nat)(y0:YA_3):Nat→(Int)→(Int)→Option R|0,_,_=>none|n+1,v0_0,v0_2=>step0 call k y0 (L0 call k y0 n) v0_0 v0_2
def Fm(call:Cl)(k:Nat)(l0:YA_2→(Int)→(Int)→Option R)(a0:YA_1):Option R:=(call 178 s_impl_allInputs (a0,())).bind fun(y0:((List (Int×Int×Unit)×Unit)×Unit))=>l0 y0 1 0
def F(call:Cl)(k:Nat)(a0:YA_1):Option R:=Fm call k (fun y0_ v0_0_ v0_2_=>L0 call k y0_ k v0_0_ v0_2_) a0
theorem L0_eq(call:Cl)(k:Nat)(J:Nat→St→Option R)(a0:YA_1)(y0:YA_3):∀(n:Nat)(x:YA_7),siteI E call n_impl_manyInputs k s_impl_manyInputs (a0,()) J 0 n (S0 y0 x.1 x.2)=L0 call k y0 n x.1 x.2:=by
  refine loop_eq (s:=s_impl_manyInputs) (fun x=>S0 y0 x.1 x.2) (fun n x=>L0 call k y0 n x.1 x.2) (fun r x=>step0 call k y0 (fun v0_0 v0_2=>r (v0_0,v0_2)) x.1 x.2) (fun _=>rfl) (fun _ _=>rfl) fun J0 x=>?_
  kernel_rfl
theorem F_eq(call:Cl)(k:Nat)(a0:YA_1):bodyK E call n_impl_manyInputs k s_impl_manyInputs (a0,())=F call k a0:=by
  exact Eq.trans (b:=Fm call k (fun y0 v0_0_ v0_2_=>siteI E call n_impl_manyInputs k s_impl_manyInputs (a0,()) (fun _ _=>none) 0 k (S0 y0 v0_0_ v0_2_)) a0) (by kernel_rfl) (congrArg (fun l=>Fm call k l a0) (funext fun y0=>funext fun v0_0_=>funext fun v0_2_=>L0_eq call k (fun _ _=>none) a0 y0 k (v0_0_,v0_2_)))
end impl_manyInputs
namespace impl_inputOf
abbrev R:=(((List Int)×((List Int)×Unit))×Unit)
def S0(a0:YA_1)(y0:YA_2)(v0_1:Int)(v0_3:Int)(v0_5:(List Int)):St:=⟨mkS 47 [(0,.v (.sptr tPg) (a0)),(1,.v tI v0_1),(6,.ref [500006]),(12,.ref [500012]),(13,.v tI ((↑(List.length y0.1.1):Int))),(14,.v tI v0_3)],[([500012],.list 59 tTm (y0.1.1)),([500006],.list 2 tI v0_5)]⟩
def step0(call:Cl)(k:Nat)(a0:YA_1)(y0:YA_3)(r0:(Int)→(Int)→((List Int))→Option R)(v0_1:Int)(v0_3:Int)(v0_5:(List Int)):Option R:=bif decide (v0_3<(↑(List.length y0.1.1):Int))then bif decide (0≤v0_3)&&decide (v0_3.toNat<List.length y0.1.1)then(lget y0.1.1 v0_3.toNat).bind fun(y1:Int×Int×Unit)=>bif decide (i64.wrap (y1.1+1)=0)then none else bif decide ((v0_5.length+[v0_1.tmod (i64.wrap (y1.1+1))].length)*ti2.bytes≤140737488355328)then bif decide (i64.wrap (y1.1+1)=0)then none else r0 (i64.wrap (v0_1.tdiv (i64.wrap (y1.1+1)))) (i64.wrap (v0_3+1)) (v0_5++[v0_1.tmod (i64.wrap (y1.1+1))])else none else none else bif decide (0≤(↑(List.length a0.2.1):Int))then bif decide (0≤(↑(List.length a0.2.1):Int).toNat)&&decide ((↑(List.length a0.2.1):Int).toNat≤v0_5.length)then bif decide ((0+(List.take ((↑(List.length a0.2.1):Int).toNat-0) (List.drop 0 v0_5)).length)*ti2.bytes≤140737488355328)then bif decide (0≤(↑(List.length a0.2.1):Int))then bif decide ((↑(List.length a0.2.1):Int).toNat≤v0_5.length)&&decide (v0_5.length≤v0_5.length)then bif decide ((0+(List.take (v0_5.length-(↑(List.length a0.2.1):Int).toNat) (List.drop (↑(List.length a0.2.1):Int).toNat v0_5)).length)*ti2.bytes≤140737488355328)then some (([]++List.take ((↑(List.length a0.2.1):Int).toNat-0) (List.drop 0 v0_5),[]++List.take (v0_5.length-(↑(List.length a0.2.1):Int).toNat) (List.drop (↑(List.length a0.2.1):Int).toNat v0_5),()),())else none else none else none else none else none else none
def L0(call:Cl)(k:Nat)(a0:YA_1)(y0:YA_3):Nat→(Int)→(Int)→((List Int))→Option R|0,_,_,_=>none|n+1,v0_1,v0_3,v0_5=>step0 call k a0 y0 (L0 call k a0 y0 n) v0_1 v0_3 v0_5
def Fm(call:Cl)(k:Nat)(l0:YA_0→YA_2→(Int)→(Int)→((List Int))→Option R)(a0:YA_1)(a1:Int):Option R:=(call 178 s_impl_allInputs (a0,())).bind fun(y0:((List (Int×Int×Unit)×Unit)×Unit))=>l0 a0 y0 a1 0 []
def F(call:Cl)(k:Nat)(a0:YA_1)(a1:Int):Option R:=Fm call k (fun a0_ y0_ v0_1_ v0_3_ v0_5_=>L0 call k a0_ y0_ k v0_1_ v0_3_ v0_5_) a0 a1
theorem L0_eq(call:Cl)(k:Nat)(J:Nat→St→Option R)(a0:YA_1)(a1:Int)(y0:YA_3):∀(n:Nat)(x:YA_4),siteI E call n_impl_inputOf k s_impl_inputOf (a0,a1,()) J 0 n (S0 a0 y0 x.1 x.2.1 x.2.2)=L0 call k a0 y0 n x.1 x.2.1 x.2.2:=by
  refine loop_eq (s:=s_impl_inputOf) (fun x=>S0 a0 y0 x.1 x.2.1 x.2.2) (fun n x=>L0 call k a0 y0 n x.1 x.2.1 x.2.2) (fun r x=>step0 call k a0 y0 (fun v0_1 v0_3 v0_5=>r (v0_1,v0_3,v0_5)) x.1 x.2.1 x.2.2) (fun _=>rfl) (fun _ _=>rfl) fun J0 x=>?_
  kernel_rfl
theorem F_eq(call:Cl)(k:Nat)(a0:YA_1)(a1:Int):bodyK E call n_impl_inputOf k s_impl_inputOf (a0,a1,())=F call k a0 a1:=by
  exact Eq.trans (b:=Fm call k (fun a0 y0 v0_1_ v0_3_ v0_5_=>siteI E call n_impl_inputOf k s_impl_inputOf (a0,a1,()) (fun _ _=>none) 0 k (S0 a0 y0 v0_1_ v0_3_ v0_5_)) a0 a1) (by kernel_rfl) (congrArg (fun l=>Fm call k l a0 a1) (funext fun a0=>funext fun y0=>funext fun v0_1_=>funext fun v0_3_=>funext fun v0_5_=>L0_eq call k (fun _ _=>none) a0 a1 y0 k (v0_1_,v0_3_,v0_5_)))
end impl_inputOf
end Go.Proofs.YtjgfofcgmcnblaaGreat.Pf
namespace Go.Proofs.YtjgfofcgmcnblaaGreat.Pf
open Go Go.Pv
def mx(p:Pg):List Int:=p.2.1.map (·.1)++p.2.2.1.map (·.1)
def cntF:List Int→Int
  |[]=>1
  |m::l=>(m+1)*cntF l
def atF:List Int→Int→List Int
  |[],_=>[]
  |m::l,n=>n.tmod (m+1)::atF l (n.tdiv (m+1))
def Few(l:List Int):Prop:=∀x∈l,0≤x∧x≤255
theorem Few.drop {l:List Int}(h:Few l)(j:Nat):Few (l.drop j):=fun x hx=>h x (List.mem_of_mem_drop hx)
theorem cnt_pos:∀{l:List Int},Few l→1≤cntF l
  |[],_=>Int.le_refl _
  | m::l,h=>by
    have h1:=cnt_pos (l:=l) fun x hx=>h x (List.mem_cons_of_mem _ hx)
    have h2:=h m List.mem_cons_self;have h3:=Int.mul_le_mul (show(1:Int)≤m+1 by omega) h1 (by omega) (by omega);unfold cntF;omega
theorem cnt_app:∀(a b:List Int),cntF (a++b)=cntF a*cntF b
  |[],b=>(Int.one_mul _).symm
  | m::a,b=>by
    show(m+1)*cntF (a++b)=(m+1)*cntF a*cntF b
    rw[cnt_app a b,Int.mul_assoc]
theorem le_mul1 {a b:Int}(h0:0≤a)(h:1≤b):a≤a*b:=by
  have:=Int.mul_le_mul_of_nonneg_left h h0;omega
theorem bits_pow:∀(f:Nat)(n:Int),0≤n→n<2^f→n+1≤2^(bitsF f n).toNat
  | 0,n,h0,h=>by
    have:n<1:=h;unfold bitsF;show n+1≤2^0
    omega
  | f +1,n,h0,h=>by
    unfold bitsF;by_cases c:n>0
    . rw[if_pos c];have hq:n.tdiv 2=n/2:=Int.tdiv_eq_ediv_of_nonneg h0;have ih:=bits_pow f (n/2) (by omega) (by rw[Int.pow_succ]at h;omega);rw[hq];have hb:=bitsF_bd f (n/2);rw[show(1+bitsF f (n/2)).toNat=(bitsF f (n/2)).toNat+1 by omega,Int.pow_succ];omega
    . rw[if_neg c];show n+1≤2^0
      omega
theorem cnt_bits:∀{l:List Ip},(∀x∈l,0≤x.1∧x.1≤255)→0≤sumBits l∧cntF (l.map (·.1))≤2^(sumBits l).toNat
  |[],_=>⟨Int.le_refl _,Int.le_refl _⟩
  | x ::l,h=>by
    obtain⟨h1,h2⟩:=cnt_bits (l:=l) fun y hy=>h y (List.mem_cons_of_mem _ hy)
    have h3:=h x List.mem_cons_self;have h4:=bits_bd x.1;have h5:=bits_pow 63 x.1 h3.1 (by omega);have h6:1≤cntF (l.map (·.1)):=cnt_pos fun y hy=>by
      obtain⟨z,hz,rfl⟩:=List.mem_map.1 hy;exact h z (List.mem_cons_of_mem _ hz)
    refine⟨by show 0≤bits x.1+sumBits l;omega,?_⟩;show(x.1+1)*cntF (l.map (·.1))≤2^(bits x.1+sumBits l).toNat
    rw[show(bits x.1+sumBits l).toNat=(bits x.1).toNat+(sumBits l).toNat by omega,Int.pow_add];exact Int.mul_le_mul h5 h2 (by omega) (Int.le_of_lt (Int.pow_pos (by omega)))
theorem mx_len(p:Pg):(mx p).length=p.2.1.length+p.2.2.1.length:=by
  unfold mx;rw[List.length_append,List.length_map,List.length_map]
section
variable {p:Pg}(hp:Hd p)
include hp
theorem low_few:∀x∈p.2.1,0≤x.1∧x.1≤255:=fun x hx=>by
  have h1:=hp.i.2.1 x hx;have h2:=hp.b.2.2.2.2;exact⟨h1.1,by have:=h1.2.1;omega⟩
theorem sec_few:∀x∈p.2.2.1,0≤x.1∧x.1≤255:=fun x hx=>by
  have h1:=hp.i.2.2.1 x hx;have h2:=hp.b.2.2.2.2;exact⟨h1.1,by have:=h1.2.1;omega⟩
theorem mx_few:Few (mx p):=fun x hx=>by
  unfold mx at hx;rcases List.mem_append.1 hx with h|h<;>obtain⟨y,hy,rfl⟩:=List.mem_map.1 h
  . exact low_few hp y hy
  . exact sec_few hp y hy
theorem cnt_bd:1≤cntF (mx p)∧cntF (mx p)≤1024:=by
  refine⟨cnt_pos (mx_few hp),?_⟩;obtain⟨a1,a2⟩:=cnt_bits (low_few hp);obtain⟨b1,b2⟩:=cnt_bits (sec_few hp);have hs:=hp.i.2.2.2;have h1:1≤cntF (p.2.2.1.map (·.1)):=cnt_pos fun y hy=>by
    obtain⟨z,hz,rfl⟩:=List.mem_map.1 hy;exact sec_few hp z hz
  unfold mx;rw[cnt_app];have h2:=Int.mul_le_mul a2 b2 (by omega) (Int.le_of_lt (Int.pow_pos (by omega)));rw[←Int.pow_add]at h2;have h3:=Nat.pow_le_pow_right (n:=2) (by omega) (show(sumBits p.2.1).toNat+(sumBits p.2.2.1).toNat≤10 by omega);have h4:(2:Int)^((sumBits p.2.1).toNat+(sumBits p.2.2.1).toNat)=((2^((sumBits p.2.1).toNat+(sumBits p.2.2.1).toNat):Nat):Int):=by rw[Int.natCast_pow];rfl
  have h5:2^10=1024:=rfl;omega
end
theorem at_len:∀(l:List Int)(n:Int),(atF l n).length=l.length
  |[],_=>rfl
  |m::l,n=>congrArg Nat.succ (at_len l _)
theorem at_get:∀{l:List Int}{n:Int},Few l→0≤n→∀(i:Nat)(h:i<(atF l n).length)(h2:i<l.length),0≤(atF l n)[i]∧(atF l n)[i]≤l[i]
  |[],n,_,_,i,h,h2=>absurd h2 (by simp)
  | m::l,n,hl,h0,0,h,h2=>by
    have h3:=hl m List.mem_cons_self;show 0≤n.tmod (m+1)∧n.tmod (m+1)≤m
    have h4:=Int.tmod_lt_of_pos n (show 0<m+1 by omega);exact⟨Int.tmod_nonneg _ h0,by omega⟩
  | m::l,n,hl,h0,i+1,h,h2=>by
    have h3:=hl m List.mem_cons_self;exact at_get (l:=l) (n:=n.tdiv (m+1)) (fun x hx=>hl x (List.mem_cons_of_mem _ hx)) (Int.tdiv_nonneg h0 (by omega)) i (by simpa[atF]using h) (by simpa using h2)
def Wi(p:Pg)(a:List Int):Prop:=Within (a.take p.2.1.length) p.2.1∧Within (a.drop p.2.1.length) p.2.2.1
theorem at_wi {p:Pg}(hp:Hd p){n:Int}(h0:0≤n):Wi p (atF (mx p) n):=by
  have hl:=at_len (mx p) n;rw[mx_len]at hl;have hg:=at_get (mx_few hp) h0;refine⟨⟨by rw[List.length_take];omega,fun i _ h1 h2=>?_⟩,⟨by rw[List.length_drop];omega,fun i _ h1 h2=>?_⟩⟩
  . rw[List.getElem_take];have h3:=hg i (by omega) (by rw[mx_len];omega);have h4:(mx p)[i]'(by rw[mx_len];omega)=p.2.1[i].1:=by
      unfold mx;rw[List.getElem_append_left (by rw[List.length_map];exact h2),List.getElem_map]
    rw[h4]at h3;exact h3
  . rw[List.length_drop]at h1;rw[List.getElem_drop];have h3:=hg (p.2.1.length+i) (by omega) (by rw[mx_len];omega);have h4:(mx p)[p.2.1.length+i]'(by rw[mx_len];omega)=p.2.2.1[i].1:=by
      unfold mx;rw[List.getElem_append_right (by rw[List.length_map];omega),List.getElem_map]
      congr 2
      rw[List.length_map];omega
    rw[h4]at h3;exact h3
section
variable {p:Pg}(hp:Hd p)
include hp
theorem maxes_ans:Ans n_spec_l7Maxes s_spec_l7Maxes (p,()) ((mx p,()),()):=by
  have hb:=hp.b;have k1:∀(d j:Nat)(acc:List Int),p.2.2.1.length-j=d→acc.length+d≤6→Tq (d+1) (fun k q=>spec_l7Maxes.L1 (cl k) k p q (j:Int) acc) (· =((acc++(p.2.2.1.drop j).map (·.1),()),())):=by
    intro d
    induction d with
    | zero=>
      intro j acc hd hl;refine Tq.succ ?_;show Tq _ (fun k q=>spec_l7Maxes.step1 (cl k) k ..) _
      unfold spec_l7Maxes.step1
      repeat'((first|refine .t ?_|refine .u ?_|refine .some lg0 ?_|refine .some lg ?_|refine .some lgI ?_|(refine .bif (fun zz=>?_) (fun zz=>?_)<;>try simp(disch:=omega)only[zs,w64,zt]at zz))<;>try dsimp only)
      rw[List.drop_of_length_le (by omega),List.map_nil,List.append_nil];exact Tq.ret rfl
    | succ d ih=>
      intro j acc hd hl;have hj:j<p.2.2.1.length:=by omega
      refine Tq.succ ?_;show Tq _ (fun k q=>spec_l7Maxes.step1 (cl k) k ..) _
      unfold spec_l7Maxes.step1;refine Tq.bt (dlt hj) (Tq.bt (dle0 _) (Tq.some (lg hj) (Tq.bt (apb (by rw[by2];simp only[List.length_cons,List.length_nil];omega)) ?_)));rw[ws hj (by omega),List.drop_eq_getElem_cons hj];have:=ih (j+1) (acc++[p.2.2.1[j].1]) (by omega) (by simp;omega);rw[List.append_assoc acc,List.singleton_append]at this;exact this
  have k0:∀(d j:Nat)(acc:List Int),p.2.1.length-j=d→acc.length+d≤3→Tq (d+1) (fun k q=>spec_l7Maxes.L0 (cl k) k p q (j:Int) acc) (· =((acc++((p.2.1.drop j).map (·.1)++p.2.2.1.map (·.1)),()),())):=by
    intro d
    induction d with
    | zero=>
      intro j acc hd hl;refine Tq.succ ?_;show Tq _ (fun k q=>spec_l7Maxes.step0 (cl k) k ..) _
      unfold spec_l7Maxes.step0;refine Tq.bf (dnlt (by omega)) ?_;rw[List.drop_of_length_le (by omega),List.map_nil,List.nil_append];exact Tq.diag (k1 _ 0 acc rfl (by omega))
    | succ d ih=>
      intro j acc hd hl;have hj:j<p.2.1.length:=by omega
      refine Tq.succ ?_;show Tq _ (fun k q=>spec_l7Maxes.step0 (cl k) k ..) _
      unfold spec_l7Maxes.step0;refine Tq.bt (dlt hj) (Tq.bt (dle0 _) (Tq.some (lg hj) (Tq.bt (apb (by rw[by2];simp only[List.length_cons,List.length_nil];omega)) ?_)));rw[ws hj (by omega),List.drop_eq_getElem_cons hj];have:=ih (j+1) (acc++[p.2.1[j].1]) (by omega) (by simp;omega);rw[List.append_assoc acc,List.singleton_append]at this;exact this
  refine Gv.ans (Gv.of (fun k=>spec_l7Maxes.F_eq (cl k) k p) ?_);unfold spec_l7Maxes.F spec_l7Maxes.Fm;exact Tq.diag (k0 _ 0 [] rfl (by simp;omega))
omit hp in
theorem ti_ip:ti59.bytes=16:=rfl
theorem allIn_ans:Ans n_impl_allInputs s_impl_allInputs (p,()) ((p.2.1++p.2.2.1,()),()):=by
  have hb:=hp.b;refine Gv.ans (Gv.of (fun k=>impl_allInputs.F_eq (cl k) k p) ?_);unfold impl_allInputs.F impl_allInputs.Fm;exact Tq.bt (apb (by rw[ti_ip];omega)) (Tq.bt (apb (by rw[ti_ip,List.nil_append];omega)) (Tq.ret rfl))
theorem many_ans:Ans n_impl_manyInputs s_impl_manyInputs (p,()) ((cntF (mx p),()),()):=by
  have hb:=hp.b;have hc:=cnt_bd hp;have e0:mx p=(p.2.1++p.2.2.1).map (·.1):=by unfold mx;rw[List.map_append]
  have hf:=mx_few hp;have hn:(p.2.1++p.2.2.1).length≤6:=by rw[List.length_append];omega
  have hA:=allIn_ans hp;refine Gv.ans (Gv.of (fun k=>impl_manyInputs.F_eq (cl k) k p) ?_);unfold impl_manyInputs.F impl_manyInputs.Fm;rw[e0]at hc hf⊢;generalize p.2.1++p.2.2.1=l at*;refine Tq.ba hA ?_;have key:∀(d j:Nat)(c:Int),l.length-j=d→1≤c→c*cntF ((l.drop j).map (·.1))≤1024→Tq (d+1) (fun k q=>impl_manyInputs.L0 (cl k) k ((l,()),()) q c (j:Int)) (· =((c*cntF ((l.drop j).map (·.1)),()),())):=by
    intro d
    induction d with
    | zero=>
      intro j c hd h1 h2;refine Tq.succ ?_;show Tq _ (fun k q=>impl_manyInputs.step0 (cl k) k ..) _
      unfold impl_manyInputs.step0
      repeat'((first|refine .t ?_|refine .u ?_|refine .some lg0 ?_|refine .some lg ?_|refine .some lgI ?_|(refine .bif (fun zz=>?_) (fun zz=>?_)<;>try simp(disch:=omega)only[zs,w64,zt]at zz))<;>try dsimp only)
      rw[List.drop_of_length_le (by omega)];exact Tq.ret (by show _=((c*1,()),());rw[Int.mul_one])
    | succ d ih=>
      intro j c hd h1 h2;have hj:j<l.length:=by omega
      have hx:=hf _ (List.mem_map.2 ⟨_,List.getElem_mem hj,rfl⟩);have e:c*cntF ((l.drop j).map (·.1))=c*(l[j].1+1)*cntF ((l.drop (j+1)).map (·.1)):=by
        rw[List.drop_eq_getElem_cons hj,Int.mul_assoc];rfl
      rw[e]at h2⊢;have h3:1≤cntF ((l.drop (j+1)).map (·.1)):=cnt_pos (by rw[List.map_drop];exact hf.drop _);have h5:=le_mul1 (a:=c) (by omega) (show 1≤l[j].1+1 by omega);have h4:=le_mul1 (a:=c*(l[j].1+1)) (by omega) h3;refine Tq.succ ?_;show Tq _ (fun k q=>impl_manyInputs.step0 (cl k) k ..) _
      unfold impl_manyInputs.step0;refine Tq.bt (dlt hj) (Tq.bt (idx_ok hj) (Tq.some (lg hj) ?_));rw[ws hj (by omega),w64 (x:=l[j].1+1) (by omega) (by omega),w64 (by omega) (by omega)];exact ih (j+1) _ (by omega) (by omega) h2
  have:=key _ 0 1 rfl (Int.le_refl _) (by rw[Int.one_mul];exact hc.2);rw[Int.one_mul]at this;exact Tq.diag this
end
end Go.Proofs.YtjgfofcgmcnblaaGreat.Pf
namespace Go.Proofs.YtjgfofcgmcnblaaGreat.Pf
open Go Go.Pv
def Tame(s:RS):Prop:=∀y∈s.2,0≤y∧y≤255
structure Nice (p:Pg) (x:RR):Prop where
  env:EnvR p x.1.1
  vs:Tame x.1
  c:0≤x.2.2∧x.2.2≤255
theorem Nice.thn {p:Pg}{x:RR}{f:RS→RR}(h:Nice p x)(hf:∀s',EnvR p s'.1→Tame s'→Nice p (f s')):Nice p (Pf.thn x f):=by
  rcases thn_eq x f with⟨_,e⟩|⟨_,e⟩<;>rw[e]
  . exact h
  . exact hf x.1 h.env h.vs
section
variable {p:Pg}(hp:Hd p)(hs:StsOk p)
include hp hs
theorem stm_nice {i:Nat}(hi:i<p.2.2.2.2.2.1.length)(h:opAt p.2.2.2.2.2.1 i=0∨opAt p.2.2.2.2.2.1 i=1∨opAt p.2.2.2.2.2.1 i=6∨opAt p.2.2.2.2.2.1 i=7){s:RS}(hv:EnvR p s.1)(ht:Tame s):Nice p (stm p (smAt p.2.2.2.2.2.1 i) s):=by
  have h2:=hs _ (List.getElem_mem hi);have hF:=(stm_fine hp hs hi h hv).env;have hl:=hv.lc;have hN:=h2.2.1.2.2.2.1;rw[←smAt_lt hi]at hN;have ho:=opAt_lt hi;rw[←smAt_lt hi]at ho;have e1:=fun h=>stand_exp hp hs hi h
  have e2:=fun h=>stand_at hp hs hi h
  have hb:=hp.b.2.2.2.2;unfold stm at hF⊢;by_cases c7:(smAt p.2.2.2.2.2.1 i).1=7
  . rw[if_pos c7];have:=hN (.inl c7);exact⟨hv,ht,by dsimp only;omega⟩
  rw[if_neg c7]at hF⊢;by_cases c1:(smAt p.2.2.2.2.2.1 i).1=1
  . rw[if_pos c1]at hF⊢;have v1:=(ev_vl hp hv (e2 (by omega))).2;have v2:=(ev_vl hp hv (e1 (by omega))).2;by_cases t1:evT p s.1 (smAt p.2.2.2.2.2.1 i).2.2.1≠0
    . rw[if_pos t1];exact⟨hv,ht,by dsimp only;omega⟩
    rw[if_neg t1]at hF⊢;by_cases t2:evT p s.1 (smAt p.2.2.2.2.2.1 i).2.2.2.1≠0
    . rw[if_pos t2];exact⟨hv,ht,by dsimp only;omega⟩
    rw[if_neg t2]at hF⊢;by_cases t3:arrAt p (smAt p.2.2.2.2.2.1 i).2.1≤evV p s.1 (smAt p.2.2.2.2.2.1 i).2.2.1
    . rw[if_pos t3];exact⟨hv,ht,by dsimp only;omega⟩
    rw[if_neg t3]at hF⊢;exact⟨hF,ht,by dsimp only;omega⟩
  rw[if_neg c1]at hF⊢;have v2:=ev_vl hp hv (e1 (by omega));by_cases t2:evT p s.1 (smAt p.2.2.2.2.2.1 i).2.2.2.1≠0
  . rw[if_pos t2];exact⟨hv,ht,by dsimp only;omega⟩
  rw[if_neg t2]at hF⊢;by_cases c0:(smAt p.2.2.2.2.2.1 i).1=0
  . rw[if_pos c0]at hF⊢;exact⟨hF,ht,by dsimp only;omega⟩
  . rw[if_neg c0];refine⟨hv,fun y hy=>?_,by dsimp only;omega⟩;rcases List.mem_append.1 hy with h|h
    . exact ht y h
    . rw[List.mem_singleton.1 h];have:=v2.1.1;have:=v2.1.2;omega
omit hp hs in
theorem rep_nice {f:RS→RR}(hf:∀s',EnvR p s'.1→Tame s'→Nice p (f s')):∀(n:Nat){s:RS},EnvR p s.1→Tame s→Nice p (rep f n s)
  |0,s,hv,ht=>⟨hv,ht,by show 0≤(0:Int)∧(0:Int)≤255;omega⟩
  | n+1,s,hv,ht=>by
    have g:=hf s hv ht;unfold rep;by_cases c:(f s).2.1≠0
    . rw[if_pos c];exact g
    . rw[if_neg c];exact rep_nice hf n g.env g.vs
theorem run_nice {t:Fs}{i j:Nat}(h:Seg p.2.2.2.2.2.1 t i j):∀(s:RS),EnvR p s.1→Tame s→Nice p (runF p t s):=by
  induction h with
  |nil=>intro s hv ht;exact⟨hv,ht,by show 0≤(0:Int)∧(0:Int)≤255;omega⟩
  | leaf hi ho hr ih=>
    intro s hv ht;exact(stm_nice hp hs hi (leaf_op hp hs hi ho) hv ht).thn ih
  | @one t r i e j ho ht he hr ih1 ih2=>
    intro s hv hT;have h1:=ht.le;have h2:=opAt_in he (by omega);unfold runF;refine Nice.thn ?_ ih2;by_cases c:opAt p.2.2.2.2.2.1 i=2
    . rw[if_pos c];have v2:=(ev_vl hp hv (stand_exp hp hs (i:=i) (by omega) (by omega))).2;by_cases t2:evT p s.1 (smAt p.2.2.2.2.2.1 i).2.2.2.1≠0
      . rw[if_pos t2];exact⟨hv,hT,by dsimp only;omega⟩
      rw[if_neg t2];by_cases t3:evV p s.1 (smAt p.2.2.2.2.2.1 i).2.2.2.1≠0
      . rw[if_pos t3];exact ih1 s hv hT
      . rw[if_neg t3];exact⟨hv,hT,by dsimp only;omega⟩
    . rw[if_neg c];exact rep_nice ih1 _ hv hT
  | @two t o r i m e j ho ht hot he hr ih1 ih2 ih3=>
    intro s hv hT;have h1:=ht.le;have h3:=hot.le;have h2:=opAt_in he (by omega);unfold runF;refine Nice.thn ?_ ih3;by_cases c:opAt p.2.2.2.2.2.1 i=2
    . rw[if_pos c];have v2:=(ev_vl hp hv (stand_exp hp hs (i:=i) (by omega) (by omega))).2;by_cases t2:evT p s.1 (smAt p.2.2.2.2.2.1 i).2.2.2.1≠0
      . rw[if_pos t2];exact⟨hv,hT,by dsimp only;omega⟩
      rw[if_neg t2];by_cases t3:evV p s.1 (smAt p.2.2.2.2.2.1 i).2.2.2.1≠0
      . rw[if_pos t3];exact ih1 s hv hT
      . rw[if_neg t3];exact ih2 s hv hT
    . rw[if_neg c];have g:=ih1 s hv hT;by_cases t3:(runF p t s).2.1=1∧(runF p t s).2.2=NAt p.2.2.2.2.2.1 m
      . rw[if_pos t3];exact ih2 _ g.env g.vs
      . rw[if_neg t3];exact g
end
abbrev Oc:=List Int×(Int×(Int×Unit))
def stt(p:Pg)(a:List Int):RS:=((a++zer p.2.2.2.1,p.2.2.2.2.1.map zer,()),[])
def oc(p:Pg)(t:Fs)(a:List Int):Oc:=((runF p t (stt p a)).1.2,(runF p t (stt p a)).2.1,(runF p t (stt p a)).2.2,())
structure OcOk (o:Oc):Prop where
  l:o.1.length≤400
  vs:∀y∈o.1,0≤y∧y≤255
  e:0≤o.2.1∧o.2.1≤255
  c:0≤o.2.2.1∧o.2.2.1≤255
theorem stt_env {p:Pg}(hp:Hd p){a:List Int}(hw:Wi p a):EnvR p (stt p a).1:=by
  have:=start_env hp hw.1 hw.2;unfold startV at this;rw[List.take_append_drop]at this;exact this
theorem oc_ok {p:Pg}{t:Fs}(ht:Ok p t){a:List Int}(hw:Wi p a):OcOk (oc p t a):=by
  have hv:=stt_env ht.hd hw;have F:=run_fine ht.hd ht.st ht.seg (stt p a) hv;have g:=run_nice ht.hd ht.st ht.seg (stt p a) hv (fun y hy=>by cases hy);have h1:=F.out;have h2:=F.end3;have h3:=ht.few;refine⟨?_,g.vs,?_,g.c⟩
  . have:((stt p a).2.length:Int)=0:=rfl;show(runF p t (stt p a)).1.2.length≤400
    omega
  . show 0≤(runF p t (stt p a)).2.1∧(runF p t (stt p a)).2.1≤255
    omega
theorem wi_len {p:Pg}{a:List Int}(hw:Wi p a):a.length=p.2.1.length+p.2.2.1.length:=by
  have h1:=hw.1.1;have h2:=hw.2.1;rw[List.length_take]at h1;rw[List.length_drop]at h2;omega
theorem l6Of_ans {p:Pg}{t:Fs}(ht:Ok p t){a:List Int}(hw:Wi p a):Ans n_spec_l6Of s_spec_l6Of (p,a,()) ((oc p t a,()),()):=by
  have hp:=ht.hd;have hb:=hp.b;have hr:=hp.r.2;have few:=ht.few;have hl:=wi_len hw;have hx:Ans n_spec_l6Run s_spec_l6Run ((p,(stt p a).1,([],0,0,()),false,()),0,(p.2.2.2.2.2.1.length:Int),()) ((),ms p (runF p t (stt p a)),()):=(run_seg hp ht.st ht.seg).a (s:=stt p a) (stt_env hp hw) (by show((0:Nat):Int)+_≤_;omega);refine Gv.ans (Gv.of (fun k=>spec_l6Of.F_eq (cl k) k p a) ?_);unfold spec_l6Of.F spec_l6Of.Fm;refine Tq.bt (apb (by rw[by2];omega)) (Tq.bt (bbt (by omega) (by rw[by2,List.nil_append];omega)) ?_);have key:∀(d j:Nat)(acc:List (List Int)),p.2.2.2.2.1.length-j=d→acc.length=j→acc++(p.2.2.2.2.1.drop j).map zer=p.2.2.2.2.1.map zer→Tq (d+1) (fun k q=>spec_l6Of.L0 (cl k) k p a q (j:Int) acc) (· =((oc p t a,()),())):=by
    intro d
    induction d with
    | zero=>
      intro j acc hd hj he;rw[List.drop_of_length_le (by omega),List.map_nil,List.append_nil]at he;subst he;refine Tq.succ ?_;show Tq _ (fun k q=>spec_l6Of.step0 (cl k) k ..) _
      unfold spec_l6Of.step0;refine Tq.bf (dnlt (by omega)) ?_;rw[List.nil_append];exact Tq.ba hx (Tq.ret rfl)
    | succ d ih=>
      intro j acc hd hj he;have hj2:j<p.2.2.2.2.1.length:=by omega
      have h6:=hr _ (List.getElem_mem hj2);refine Tq.succ ?_;show Tq _ (fun k q=>spec_l6Of.step0 (cl k) k ..) _
      unfold spec_l6Of.step0;refine Tq.bt (dlt hj2) (Tq.bt (dle0 _) (Tq.some (lg hj2) (Tq.bt (mkI (by omega) (by show _*8≤_;omega)) (Tq.bt (apb (by rw[by23];simp only[List.length_cons,List.length_nil];omega)) ?_))));rw[ws hj2 (by omega)];refine ih (j+1) (acc++[zer p.2.2.2.2.1[j]]) (by omega) (by simp[hj]) ?_;rw[map_drop hj2]at he;rw[List.append_assoc,List.singleton_append];exact he
  exact Tq.diag (key _ 0 [] rfl rfl rfl)
theorem ran_ans {p:Pg}{t:Fs}(ht:Ok p t){l s:List Int}(h1:Within l p.2.1)(h2:Within s p.2.2.1):Gv n_impl_ran s_impl_ran (p,l,s,()) (fun(r:(Oc×(ET×Unit))×Unit)=>r.1.1=oc p t (l++s)):=by
  have hp:=ht.hd;have hb:=hp.b;have few:=ht.few;have hl:=h1.1;have hs:=h2.1;have hx:Ans n_impl_machine_do s_impl_machine_do ((p,startV p l s,[],()),t.trs,()) (mr p (runF p t (startV p l s,[]))):=(do_seg hp ht.st ht.seg).a (s:=(startV p l s,[])) (start_env hp h1 h2) (by show((0:Nat):Int)+_≤_;omega);refine Gv.of (fun k=>impl_ran.F_eq (cl k) k p l s) ?_;unfold impl_ran.F impl_ran.Fm;exact Tq.ba (nodes_ok (by omega) ht.seg) (Tq.ba (startAt_ans hp (by omega) (by omega)) (Tq.ba hx (Tq.ret rfl)))
end Go.Proofs.YtjgfofcgmcnblaaGreat.Pf
namespace Go.Proofs.YtjgfofcgmcnblaaGreat.Pf
open Go Go.Pv IntKind
end Go.Proofs.YtjgfofcgmcnblaaGreat.Pf
namespace Go.Proofs.YtjgfofcgmcnblaaGreat.Pf
open Go Go.Pv
def key(o:Oc):ByteArray:=bytesOf (o.1.map IntKind.u8.wrap++[IntKind.u8.wrap o.2.1,IntKind.u8.wrap o.2.2.1])
abbrev Tly:=Option (List (ByteArray×Int))×(List Oc×(List Int×Unit))
abbrev Tal:=List (Oc×Int)
def bump:Tal→Oc→Tal
  |[],o=>[(o,1)]
  |(a,n)::l,o=>if a=o then(a,n+1)::l else(a,n)::bump l o
def plc:List Oc→Oc→Nat→Option Int
  |[],_,_=>none
  |a::l,o,j=>if a=o then some (j:Int)else plc l o (j+1)
theorem bump_fst:∀(L:Tal)(o:Oc),(bump L o).map (·.1)=if o∈L.map (·.1)then L.map (·.1)else L.map (·.1)++[o]
  |[],o=>by simp[bump]
  | (a,n)::l,o=>by
    unfold bump;by_cases c:a=o
    . rw[if_pos c,if_pos (by simp[c])];rfl
    . rw[if_neg c];simp only[List.map_cons,bump_fst l o];by_cases c2:o∈l.map (·.1)
      . rw[if_pos c2,if_pos (List.mem_cons_of_mem _ c2)]
      . rw[if_neg c2,if_neg (fun h=>by rcases List.mem_cons.1 h with h|h;exact c h.symm;exact c2 h)];rfl
theorem bump_new:∀(L:Tal)(o:Oc),o∉L.map (·.1)→bump L o=L++[(o,1)]
  |[],o,_=>rfl
  | (a,n)::l,o,h=>by
    simp only[List.map_cons,List.mem_cons,not_or]at h;unfold bump;rw[if_neg (fun e=>h.1 e.symm),bump_new l o h.2];rfl
def Bd(L:Tal)(c:Nat):Prop:=L.length≤c∧∀x∈L,OcOk x.1∧0≤x.2∧x.2≤c
theorem Bd.bump:∀{L:Tal}{c:Nat}{o:Oc},Bd L c→OcOk o→Bd (Pf.bump L o) (c+1)
  |[],c,o,h,ho=>⟨by simp[Pf.bump],fun x hx=>by simp only[Pf.bump,List.mem_singleton]at hx;rw[hx];exact⟨ho,by dsimp only;omega,by dsimp only;omega⟩⟩
  | (a, n)::l,c,o,h,ho=>by
    have h0:=h.2 _ List.mem_cons_self;have h2:=h.1;simp only[List.length_cons]at h2;unfold Pf.bump;by_cases e:a=o
    . rw[if_pos e];refine⟨by simp;omega,fun x hx=>?_⟩;rcases List.mem_cons.1 hx with rfl|hx
      . exact⟨h0.1,by dsimp only at h0⊢;omega,by dsimp only at h0⊢;omega⟩
      . have:=h.2 x (List.mem_cons_of_mem _ hx);exact⟨this.1,by omega,by omega⟩
    . rw[if_neg e];have g:Bd (Pf.bump l o) (c+1):=Bd.bump (L:=l) ⟨by omega,fun x hx=>h.2 x (List.mem_cons_of_mem _ hx)⟩ ho;have gl:(Pf.bump l o).length≤l.length+1:=by
        by_cases m:o∈l.map (·.1)
        . have:=congrArg List.length (bump_fst l o);rw[if_pos m]at this;simp only[List.length_map]at this;omega
        . rw[bump_new l o m];simp
      refine⟨by simp;omega,fun x hx=>?_⟩;rcases List.mem_cons.1 hx with rfl|hx
      . exact⟨h0.1,by dsimp only at h0⊢;omega,by dsimp only at h0⊢;omega⟩
      . exact g.2 x hx
structure TlI (st:Tly) (L:Tal):Prop where
  list:st.2.1=L.map (·.1)
  sizes:st.2.2.1=L.map (·.2)
  nn:st.1=none→L=[]
  find:∀o,OcOk o→mfind .str (st.1.getD []) (key o)=plc (L.map (·.1)) o 0
theorem TlI.nil:TlI (none,[],[],()) []:=⟨rfl,rfl,fun _=>rfl,fun _ _=>rfl⟩
end Go.Proofs.YtjgfofcgmcnblaaGreat.Pf
namespace Go.Proofs.YtjgfofcgmcnblaaGreat.Pf
open Go Go.Pv IntKind
end Go.Proofs.YtjgfofcgmcnblaaGreat.Pf
