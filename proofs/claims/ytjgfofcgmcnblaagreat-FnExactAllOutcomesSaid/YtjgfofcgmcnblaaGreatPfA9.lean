/- Starts and what is left behind a run: both sides answer the same. Its condition: no list is longer than a law looks at. -/
import Derived.Test.YtjgfofcgmcnblaaGreatPfA6
import Derived.Test.YtjgfofcgmcnblaaGreatPfA8
set_option maxHeartbeats 2000000
set_option linter.all false
namespace Go.Proofs.YtjgfofcgmcnblaaGreat.Pf
open Go Go.Pv
def WAt(l:List Int)(ins:List Ip)(i:Nat):Prop:=∀(h:i<l.length)(h2:i<ins.length),0≤l[i]∧l[i]≤ins[i].1
def WFrom(l:List Int)(ins:List Ip)(j:Nat):Prop:=∀i,j≤i→WAt l ins i
def Within(l:List Int)(ins:List Ip):Prop:=l.length=ins.length∧WFrom l ins 0
/-! ### Starts-/
def zer(n:Int):List Int:=List.replicate n.toNat 0
def startV(p:Pg)(l s:List Int):ET:=(l++s++zer p.2.2.2.1,p.2.2.2.2.1.map zer,())
theorem bbt {a:Int}{n c:Nat}(h0:0≤a)(h:n≤c):(decide (0≤a)&&decide (n≤c))=true:=by
  rw[decide_eq_true h0,decide_eq_true h];rfl
theorem by23:ti28.bytes=24:=rfl
theorem map_drop {a:List Int}{j:Nat}(hj:j<a.length):(a.drop j).map zer=zer a[j]::(a.drop (j+1)).map zer:=by
  rw[List.drop_eq_getElem_cons hj];rfl
theorem startAt_ans {p:Pg}(hp:Hd p){l s:List Int}(hl:l.length≤1048576)(hs:s.length≤1048576):Ans n_impl_startAt s_impl_startAt (p,l,s,()) ((startV p l s,()),()):=by
  have hb:=hp.b;have hr:=hp.r.2;refine Gv.ans (Gv.of (fun k=>impl_startAt.F_eq (cl k) k p l s) ?_);unfold impl_startAt.F impl_startAt.Fm;refine Tq.bt (apb (by rw[by2];omega)) (Tq.bt (apb (by rw[by2,List.nil_append];omega)) (Tq.bt (bbt (by omega) (by rw[by2,List.nil_append,List.length_append];omega)) ?_));have key:∀(d j:Nat)(acc:List (List Int)),p.2.2.2.2.1.length-j=d→acc.length=j→Tq (d+1) (fun k q=>impl_startAt.L0 (cl k) k p l s q (j:Int) acc) (· =(((l++s++zer p.2.2.2.1,acc++(p.2.2.2.2.1.drop j).map zer,()),()),())):=by
    intro d
    induction d with
    | zero=>
      intro j acc hd hj;refine Tq.succ ?_;show Tq _ (fun k q=>impl_startAt.step0 (cl k) k ..) _
      unfold impl_startAt.step0
      repeat'((first|refine .t ?_|refine .u ?_|refine .some lg0 ?_|refine .some lg ?_|refine .some lgI ?_|(refine .bif (fun zz=>?_) (fun zz=>?_)<;>try simp(disch:=omega)only[zs,w64,zt]at zz))<;>try dsimp only)
      rw[List.drop_of_length_le (by omega),List.map_nil,List.append_nil];exact Tq.ret rfl
    | succ d ih=>
      intro j acc hd hj;have hj2:j<p.2.2.2.2.1.length:=by omega
      have h6:=hr _ (List.getElem_mem hj2);refine Tq.succ ?_;show Tq _ (fun k q=>impl_startAt.step0 (cl k) k ..) _
      unfold impl_startAt.step0;refine Tq.bt (dlt hj2) (Tq.bt (dle0 _) (Tq.some (lg hj2) (Tq.bt (mkI (by omega) (by show _*8≤_;omega)) (Tq.bt (apb (by rw[by23];simp only[List.length_cons,List.length_nil];omega)) ?_))));rw[ws hj2 (by omega),map_drop hj2];have:=ih (j+1) (acc++[zer p.2.2.2.2.1[j]]) (by omega) (by simp[hj]);rw[List.append_assoc acc,List.singleton_append]at this;exact this
  have:=key _ 0 [] rfl rfl;rw[List.nil_append]at this;exact Tq.diag this
theorem start_env {p:Pg}(hp:Hd p){l s:List Int}(h1:Within l p.2.1)(h2:Within s p.2.2.1):EnvR p (startV p l s):=by
  have hb:=hp.b;have hr:=hp.r.2;have hi:=hp.i;refine⟨?_,by show(p.2.2.2.2.1.map zer).length=_;rw[List.length_map],?_,?_⟩
  . show(((l++s++zer p.2.2.2.1).length:Nat):Int)=_
    rw[List.length_append,List.length_append,h1.1,h2.1];unfold zer Vrs;rw[List.length_replicate];omega
  . intro x hx;rcases List.mem_append.1 hx with hx|hx
    . rcases List.mem_append.1 hx with hx|hx
      . obtain⟨i,h,rfl⟩:=List.getElem_of_mem hx;have a:=h1.2 i (Nat.zero_le _) h (by have:=h1.1;omega);have b:=hi.2.1 _ (List.getElem_mem (show i<p.2.1.length by have:=h1.1;omega));exact⟨a.1,by have:=b.2.1;omega⟩
      . obtain⟨i,h,rfl⟩:=List.getElem_of_mem hx;have a:=h2.2 i (Nat.zero_le _) h (by have:=h2.1;omega);have b:=hi.2.2.1 _ (List.getElem_mem (show i<p.2.2.1.length by have:=h2.1;omega));exact⟨a.1,by have:=b.2.1;omega⟩
    . rw[List.eq_of_mem_replicate hx];exact⟨Int.le_refl _,by omega⟩
  . intro i h h';have e:(startV p l s).2.1[i]=zer p.2.2.2.2.1[i]:=List.getElem_map _;rw[e];have:=hr _ (List.getElem_mem h');refine⟨by unfold zer;rw[List.length_replicate];omega,fun x hx=>?_⟩;rw[List.eq_of_mem_replicate hx];exact⟨Int.le_refl _,by omega⟩
end Go.Proofs.YtjgfofcgmcnblaaGreat.Pf
