/- Steps, and the code of a program: both sides answer the same. Its condition: no list is longer than a law looks at. -/
import Derived.Test.YtjgfofcgmcnblaaGreatPfJ
set_option maxHeartbeats 2000000
set_option linter.all false
namespace Go.Proofs.YtjgfofcgmcnblaaGreat.Pf
open Go Go.Pv
theorem ret1 {a b:Int}(h:a=b):(((a,()),()):(Int×Unit)×Unit)=((b,()),()):=by rw[h]
theorem drop_get {α:Type}{l:List α}{n:Nat}{x:α}{r:List α}(h:l.drop n=x::r):n<l.length∧lget l n=some x∧l.drop (n+1)=r:=by
  have h1:n<l.length:=by
    rcases Nat.lt_or_ge n l.length with h1|h1
    . exact h1
    . rw[List.drop_of_length_le h1]at h;cases h
  rw[List.drop_eq_getElem_cons h1]at h;obtain⟨h2,h3⟩:=List.cons.inj h;exact⟨h1,by rw[lgn h1,h2],h3⟩
theorem drop_nil {α:Type}{l:List α}{n:Nat}(h:l.drop n=[]):l.length≤n:=List.drop_eq_nil_iff.1 h
def NAt(b:List Sm)(i:Nat):Int:=if h:i<b.length then b[i].2.1 else 0
theorem NAt_lt {b:List Sm}{i:Nat}(h:i<b.length):NAt b i=b[i].2.1:=dif_pos h
def Fs.steps(b:List Sm):Fs→Int
  |.nil=>0
  |.leaf _ r=>1+r.steps b
  |.one i _ t r=>(if opAt b i=2 then 1+t.steps b else 1+NAt b i*(1+t.steps b))+r.steps b
  |.two i _ _ t o r=>(if opAt b i=2 then 1+max (t.steps b) (o.steps b)else 1+t.steps b+o.steps b)+r.steps b
def LoopOk(b:List Sm):Prop:=∀i,opAt b i=5→0≤NAt b i∧NAt b i≤4
theorem LoopOk.c {b:List Sm}(h:LoopOk b){i:Nat}(hi:opAt b i=5):NAt b i=0∨NAt b i=1∨NAt b i=2∨NAt b i=3∨NAt b i=4:=by
  have:=h i hi;omega
theorem mul_up {A B:Int}(ha:1≤A)(hb:1≤B):A+B≤A*B+1:=by
  have h:=Int.mul_nonneg (show 0≤A-1 by omega) (show 0≤B-1 by omega);rw[Int.sub_mul,Int.mul_sub]at h;omega
theorem pow_one_le(n:Nat):(1:Int)≤2^n:=by
  have:(0:Int)<2^n:=Int.pow_pos (by omega);omega
theorem steps_bd {b:List Sm}(hN:LoopOk b){t:Fs}{i j:Nat}(h:Seg b t i j):0≤t.steps b∧t.steps b≤3*2^(j-i)-3:=by
  induction h with
  | @nil i hi h=>
    rw[Nat.sub_self];exact⟨Int.le_refl _,by unfold Fs.steps;decide⟩
  | @leaf r i j hi h hr ih=>
    have:=hr.le;have h1:=pow_one_le (j-(i+1));rw[show j-i=j-(i+1)+1 by omega,Int.pow_succ];unfold Fs.steps;omega
  | @one t r i e j h ht he hr ih1 ih2=>
    have h1:=ht.le;have h2:=hr.le;have a1:=pow_one_le (e-(i+1));have a2:=pow_one_le (j-(e+1));have m1:=mul_up a1 a2;rw[show j-i=(e-(i+1))+(j-(e+1))+2 by omega,Int.pow_add,Int.pow_add];generalize(2:Int)^(e-(i+1))*(2:Int)^(j-(e+1))=AB at*;unfold Fs.steps;rcases h with h|h
    . rw[if_pos h];omega
    . rw[if_neg (by omega)];rcases hN.c h with e|e|e|e|e<;>rw[e]<;>omega
  | @two t o r i m e j h ht ho he hr ih1 ih2 ih3=>
    have h1:=ht.le;have h2:=ho.le;have h3:=hr.le;have a1:=pow_one_le (m-(i+1));have a2:=pow_one_le (e-(m+1));have a3:=pow_one_le (j-(e+1));have m1:=mul_up a1 a2;have m2:=mul_up (A:=(2:Int)^(m-(i+1))*(2:Int)^(e-(m+1))) (by omega) a3;rw[show j-i=(m-(i+1))+(e-(m+1))+(j-(e+1))+3 by omega,Int.pow_add,Int.pow_add,Int.pow_add];generalize(2:Int)^(m-(i+1))*(2:Int)^(e-(m+1))=AB at*;generalize AB*(2:Int)^(j-(e+1))=ABC at*;unfold Fs.steps;split<;>omega
theorem steps_40 {b:List Sm}(hN:LoopOk b)(hb:b.length≤40){t:Fs}{i j:Nat}(h:Seg b t i j):0≤t.steps b∧t.steps b≤3298534883328:=by
  have h1:=steps_bd hN h;have h2:=h.le;have h3:(2:Int)^(j-i)*2^(40-(j-i))=1099511627776:=by
    rw[←Int.pow_add,show j-i+(40-(j-i))=40 by omega];decide
  have h4:=pow_one_le (40-(j-i));have h5:=mul_up (pow_one_le (j-i)) h4;omega
/-! ### The program's count-/
def StpL(b:List Sm)(i:Nat)(l0:List Tr)(x:Int):Prop:=∀d,b.length-i<d→∀(l:List Tr)(v:Int)(n:Nat),l.drop n=l0→n≤i→0≤v→v≤4000→
  Tq d (fun k q=>impl_stepsIn.L0 (cl k) k b l q v (n:Int)) (· =((min (v+x) 4000,()),()))
def Stp(b:List Sm)(l0:List Tr)(x:Int):Prop:=Ans n_impl_stepsIn s_impl_stepsIn (b,l0,()) ((min x 4000,()),())
theorem StpL.stp {b:List Sm}{i:Nat}{l0:List Tr}{x:Int}(h:StpL b i l0 x):Stp b l0 x:=by
  refine Gv.ans (Gv.of (fun k=>impl_stepsIn.F_eq (cl k) k b l0) ?_);unfold impl_stepsIn.F impl_stepsIn.Fm;rw[show x=0+x by omega];exact Tq.diag (h (b.length-i+1) (by omega) l0 0 0 rfl (by omega) (by omega) (by omega))
section
variable {b:List Sm}(hb:b.length≤1048576)
include hb
theorem stp_nil {i:Nat}(hi:i≤b.length):StpL b i [] 0:=by
  intro d hd l v n hl hn h0 h1;obtain⟨d,rfl⟩:∃d',d=d'+1:=⟨d-1,by omega⟩
  have:=drop_nil hl;refine Tq.succ ?_;show Tq _ (fun k q=>impl_stepsIn.step0 (cl k) k ..) _
  unfold impl_stepsIn.step0
  repeat'((first|refine .t ?_|refine .u ?_|refine .some lg0 ?_|refine .some lg ?_|refine .some lgI ?_|(refine .bif (fun zz=>?_) (fun zz=>?_)<;>try simp(disch:=omega)only[zs,w64,zt]at zz))<;>try dsimp only)
  exact Tq.ret (ret1 (by omega))
theorem stp_leaf {i:Nat}{l0:List Tr}{x:Int}(hi:i<b.length)(hx:0≤x)(h:opAt b i≠2∧opAt b i≠5∧opAt b i≠8)(hr:StpL b (i+1) l0 x):StpL b i (.mk i [] []::l0) (1+x):=by
  intro d hd l v n hl hn h0 h1;obtain⟨d,rfl⟩:∃d',d=d'+1:=⟨d-1,by omega⟩
  obtain⟨k1,k2,k3⟩:=drop_get hl;rw[opAt_lt hi]at h;refine Tq.succ ?_;show Tq _ (fun k q=>impl_stepsIn.step0 (cl k) k ..) _
  unfold impl_stepsIn.step0;rw[Int.toNat_natCast]
  repeat'((first|(refine Tq.some k2 ?_;dsimp only[Tr.n,Tr.b,Tr.o])|refine .t ?_|refine .u ?_|refine .some lg0 ?_|refine .some lg ?_|refine .some lgI ?_|(refine .bif (fun zz=>?_) (fun zz=>?_)<;>try simp(disch:=omega)only[zs,w64,zt]at zz))<;>try dsimp only)
  simp(disch:=omega)only[w64];refine(hr d (by omega) l _ (n+1) k3 (by omega) (by omega) (by omega)).mono ?_;rintro _ rfl;exact ret1 (by omega)
theorem stp_if {i e:Nat}{l1 l2 l0:List Tr}{x1 x2 x:Int}(h:opAt b i=2)(he:i<e∧e<b.length)(hx:0≤x∧0≤x1∧0≤x2)(h1:Stp b l1 x1)(h2:Stp b l2 x2)(hr:StpL b (e+1) l0 x):StpL b i (.mk i l1 l2::l0) (1+max x1 x2+x):=by
  intro d hd l v n hl hn h0 h3;obtain⟨d,rfl⟩:∃d',d=d'+1:=⟨d-1,by omega⟩
  obtain⟨k1,k2,k3⟩:=drop_get hl;have hi:=opAt_in h (by omega);rw[opAt_lt hi]at h;refine Tq.succ ?_;show Tq _ (fun k q=>impl_stepsIn.step0 (cl k) k ..) _
  unfold impl_stepsIn.step0;rw[Int.toNat_natCast]
  repeat'((first|(refine Tq.some k2 ?_;dsimp only[Tr.n,Tr.b,Tr.o])|refine .ba h1 ?_|refine .ba h2 ?_|refine .t ?_|refine .u ?_|refine .some lg0 ?_|refine .some lg ?_|refine .some lgI ?_|(refine .bif (fun zz=>?_) (fun zz=>?_)<;>try simp(disch:=omega)only[zs,w64,zt]at zz))<;>try dsimp only)
  simp(disch:=omega)only[w64];refine(hr d (by omega) l _ (n+1) k3 (by omega) (by omega) (by omega)).mono ?_;rintro _ rfl;exact ret1 (by omega)
theorem stp_loop {i e:Nat}{l1 l0:List Tr}{x1 x:Int}(h:opAt b i=5)(he:i<e∧e<b.length)(hN:0≤NAt b i∧NAt b i≤4)(hx:0≤x∧0≤x1)(h1:Stp b l1 x1)(hr:StpL b (e+1) l0 x):StpL b i (.mk i l1 []::l0) (1+NAt b i*(1+x1)+x):=by
  intro d hd l v n hl hn h0 h3;obtain⟨d,rfl⟩:∃d',d=d'+1:=⟨d-1,by omega⟩
  obtain⟨k1,k2,k3⟩:=drop_get hl;have hi:=opAt_in h (by omega);have hN2:NAt b i=0∨NAt b i=1∨NAt b i=2∨NAt b i=3∨NAt b i=4:=by omega
  rw[NAt_lt hi]at*;rw[opAt_lt hi]at h;refine Tq.succ ?_;show Tq _ (fun k q=>impl_stepsIn.step0 (cl k) k ..) _
  unfold impl_stepsIn.step0;rw[Int.toNat_natCast]
  repeat'((first|(refine Tq.some k2 ?_;dsimp only[Tr.n,Tr.b,Tr.o])|refine .ba h1 ?_|refine .t ?_|refine .u ?_|refine .some lg0 ?_|refine .some lg ?_|refine .some lgI ?_|(refine .bif (fun zz=>?_) (fun zz=>?_)<;>try simp(disch:=omega)only[zs,w64,zt]at zz))<;>try dsimp only)
  rcases hN2 with e|e|e|e|e
  all_goals
    rw[e];simp(disch:=omega)only[w64];refine(hr d (by omega) l _ (n+1) k3 (by omega) (by omega) (by omega)).mono ?_;rintro _ rfl;exact ret1 (by omega)
theorem stp_try {i e:Nat}{l1 l2 l0:List Tr}{x1 x2 x:Int}(h:opAt b i=8)(he:i<e∧e<b.length)(hx:0≤x∧0≤x1∧0≤x2)(h1:Stp b l1 x1)(h2:Stp b l2 x2)(hr:StpL b (e+1) l0 x):StpL b i (.mk i l1 l2::l0) (1+x1+x2+x):=by
  intro d hd l v n hl hn h0 h3;obtain⟨d,rfl⟩:∃d',d=d'+1:=⟨d-1,by omega⟩
  obtain⟨k1,k2,k3⟩:=drop_get hl;have hi:=opAt_in h (by omega);rw[opAt_lt hi]at h;refine Tq.succ ?_;show Tq _ (fun k q=>impl_stepsIn.step0 (cl k) k ..) _
  unfold impl_stepsIn.step0;rw[Int.toNat_natCast]
  repeat'((first|(refine Tq.some k2 ?_;dsimp only[Tr.n,Tr.b,Tr.o])|refine .ba h1 ?_|refine .ba h2 ?_|refine .t ?_|refine .u ?_|refine .some lg0 ?_|refine .some lg ?_|refine .some lgI ?_|(refine .bif (fun zz=>?_) (fun zz=>?_)<;>try simp(disch:=omega)only[zs,w64,zt]at zz))<;>try dsimp only)
  simp(disch:=omega)only[w64];refine(hr d (by omega) l _ (n+1) k3 (by omega) (by omega) (by omega)).mono ?_;rintro _ rfl;exact ret1 (by omega)
theorem stp_seg(hN:LoopOk b){t:Fs}{i j:Nat}(h:Seg b t i j):StpL b i t.trs (t.steps b):=by
  induction h with
  |nil hi h=>exact stp_nil hb hi
  |leaf hi h hr ih=>exact stp_leaf hb hi (steps_bd hN hr).1 (by omega) ih
  | one h ht he hr ih1 ih2=>
    have h1:=ht.le;have h2:=opAt_in he (by omega);have b1:=(steps_bd hN ht).1;have b2:=(steps_bd hN hr).1;unfold Fs.steps;rcases h with h|h
    . rw[if_pos h];have:=stp_if hb h (by omega) ⟨b2,b1,Int.le_refl 0⟩ ih1.stp (stp_nil hb (Nat.le_refl _)).stp ih2;rw[Int.max_eq_left b1]at this;exact this
    . rw[if_neg (by omega)];exact stp_loop hb h (by omega) (hN _ h) ⟨b2,b1⟩ ih1.stp ih2
  | two h ht ho he hr ih1 ih2 ih3=>
    have h1:=ht.le;have h3:=ho.le;have h2:=opAt_in he (by omega);have b1:=(steps_bd hN ht).1;have b2:=(steps_bd hN ho).1;have b3:=(steps_bd hN hr).1;unfold Fs.steps;rcases h with h|h
    . rw[if_pos h.1];exact stp_if hb h.1 (by omega) ⟨b3,b1,b2⟩ ih1.stp ih2.stp ih3
    . rw[if_neg (by omega)];exact stp_try hb h.1 (by omega) ⟨b3,b1,b2⟩ ih1.stp ih2.stp ih3
end
end Go.Proofs.YtjgfofcgmcnblaaGreat.Pf
