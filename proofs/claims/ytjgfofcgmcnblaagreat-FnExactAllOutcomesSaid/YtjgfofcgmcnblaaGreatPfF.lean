/- Terms, expressions: both sides answer the same. No condition but bounds of lengths. -/
import Derived.Test.YtjgfofcgmcnblaaGreatPfB
import Derived.Test.YtjgfofcgmcnblaaGreatPfT1
set_option linter.all false
namespace Go.Proofs.YtjgfofcgmcnblaaGreat.Pf
open Go Go.Pv
/-! ### Yes or no of a statement-/
noncomputable def bo(P:Prop):Bool:=@decide P (Classical.propDecidable P)
theorem bo_true(P:Prop):(bo P=true)=P:=by
  unfold bo;exact propext (@decide_eq_true_iff P (Classical.propDecidable P))
theorem bo_false(P:Prop):(bo P=false)=¬P:=by
  unfold bo;exact propext (@decide_eq_false_iff_not P (Classical.propDecidable P))
theorem bo_t {P:Prop}(h:P):bo P=true:=by rw[bo_true];exact h
theorem bo_f {P:Prop}(h:¬P):bo P=false:=by rw[bo_false];exact h
theorem bo_congr {P Q:Prop}(h:P↔Q):bo P=bo Q:=by rw[propext h]
theorem bo_dec {P Q:Prop}[Decidable P](h:P↔Q):decide P=bo Q:=by
  by_cases hp:P
  . rw[decide_eq_true hp,bo_t (h.1 hp)]
  . rw[decide_eq_false hp,bo_f (fun e=>hp (h.2 e))]
theorem bo_beq {a b:Int}{Q:Prop}(h:a=b↔Q):(a==b)=bo Q:=by
  by_cases hp:a=b
  . rw[bo_t (h.1 hp)];exact beq_iff_eq.2 hp
  . rw[bo_f (fun e=>hp (h.2 e))];exact beq_eq_false_iff_ne.2 hp
theorem zs:(∀(p:Prop)[Decidable p],(decide p=true)=p)∧(∀(p:Prop)[Decidable p],(decide p=false)=¬p)∧(∀a b:Int,((a==b)=true)=(a=b))∧(∀a b:Int,((a==b)=false)=¬a=b)∧
    (∀a b:Int,((a !=b)=true)=¬a=b)∧(∀a b:Int,((a !=b)=false)=(a=b))∧(∀a b:Bool,((a&&b)=true)=(a=true∧b=true))∧(∀a b:Bool,((a&&b)=false)=¬(a=true∧b=true))∧
    (∀b:Bool,((!b)=true)=(b=false))∧(∀b:Bool,((!b)=false)=(b=true))∧(∀P,(bo P=true)=P)∧(∀P,(bo P=false)=¬P)∧(∀P:Prop,(¬¬P)=P)∧
    (∀a b:Int,(¬a<b)=(b≤a))∧(∀a b:Int,(¬a≤b)=(b<a))∧(∀a b:Int,(a>b)=(b<a))∧(∀a b:Int,(a≥b)=(b≤a))∧
    (∀(p:Prop)[Decidable p],((true==decide p)=true)=p)∧(∀(p:Prop)[Decidable p],((false==decide p)=true)=¬p)∧(∀(p:Prop)[Decidable p],((true==decide p)=false)=¬p)∧(∀(p:Prop)[Decidable p],((false==decide p)=false)=p):=by
  refine⟨fun p _=>decide_eq_true_eq,fun p _=>propext decide_eq_false_iff_not,fun a b=>propext beq_iff_eq,fun a b=>propext beq_eq_false_iff_ne,fun a b=>propext bne_iff_ne,fun a b=>propext bne_eq_false_iff_eq,
    fun a b=>Bool.and_eq_true a b,fun a b=>?_,fun b=>?_,fun b=>?_,bo_true,bo_false,fun P=>propext ⟨Classical.not_not.1,Classical.not_not.2⟩,fun a b=>propext Int.not_lt,fun a b=>propext Int.not_le,fun a b=>rfl,fun a b=>rfl,fun p _=>?_,fun p _=>?_,fun p _=>?_,fun p _=>?_⟩
  . cases a<;>cases b<;>simp
  . cases b<;>simp
  . cases b<;>simp
  . by_cases h:p<;>simp[h]
  . by_cases h:p<;>simp[h]
  . by_cases h:p<;>simp[h]
  . by_cases h:p<;>simp[h]
theorem lgI {α:Type}{xs:List α}{i:Int}(h0:0≤i:=by omega)(h:i<xs.length:=by omega):lget xs i.toNat=some (xs[i.toNat]'(by omega)):=by
  exact List.getElem?_eq_getElem (by omega)
theorem lg0 {α:Type}{xs:List α}(h:0<xs.length:=by omega):lget xs (Int.toNat 0)=some xs[0]:=List.getElem?_eq_getElem h
theorem zt(n:Nat):Int.toNat (n:Int)=n:=Int.toNat_natCast n
theorem Tq.ba {β:Type}{d g:Nat}{s:Sg}{l:s.A.den}{r:s.R.den}{K:Nat→Nat→s.R.den→Option β}{Q:β→Prop}(h:Ans g s l r)(hK:Tq d (fun k q=>K k q r) Q):Tq d (fun k q=>(cl k g s l).bind (K k q)) Q:=Tq.bind h.tq fun y hy=>by subst hy;exact hK
section
variable {α:Type}{d:Nat}{P:α→Prop}{c:Bool}{a b:Nat→Nat→Option α}
theorem Tq.t(ha:Tq d a P)(h:c=true:=by first|assumption|(simp(disch:=omega)only[zs,w64,zt];first|done|omega)):Tq d (fun k q=>bif c then a k q else b k q) P:=Tq.bt h ha
theorem Tq.u(hb:Tq d b P)(h:c=false:=by first|assumption|(simp(disch:=omega)only[zs,w64,zt];first|done|omega)):Tq d (fun k q=>bif c then a k q else b k q) P:=Tq.bf h hb
end
theorem apb {n:Nat}(h:n≤140737488355328):decide (n≤140737488355328)=true:=decide_eq_true h
/-! ### Terms-/
def takes(o:Int):Int:=if o=0∨o=1 then 0 else if 2≤o∧o≤4 then 1 else if 5≤o∧o≤16 then 2 else if o=17 then 3 else -1
theorem takes_le(o:Int):takes o≤3:=by unfold takes;split<;>(try split)<;>(try split)<;>(try split)<;>omega
theorem l1In_ans(a b c:Int):Ans n_spec_l1In s_spec_l1In (a,b,c,()) ((bo (b≤a∧a≤c),()),()):=by
  refine Gv.ans (Gv.of (fun k=>spec_l1In.F_eq (cl k) k a b c) ?_);unfold spec_l1In.F spec_l1In.Fm
  repeat'((first|refine .t ?_|refine .u ?_|refine .some lg0 ?_|refine .some lg ?_|refine .some lgI ?_|(refine .bif (fun zz=>?_) (fun zz=>?_)<;>try simp(disch:=omega)only[zs,w64,zt]at zz))<;>try dsimp only)
  . exact Tq.ret (by rw[bo_dec];omega)
  . exact Tq.ret (by rw[bo_f (by omega)])
theorem iTakes_ans(o:Int):Ans n_impl_TakesOf s_impl_TakesOf (o,()) ((takes o,()),()):=by
  refine Gv.ans (Gv.of (fun k=>impl_TakesOf.F_eq (cl k) k o) ?_);unfold impl_TakesOf.F impl_TakesOf.Fm
  repeat'((first|refine .t ?_|refine .u ?_|refine .some lg0 ?_|refine .some lg ?_|refine .some lgI ?_|(refine .bif (fun zz=>?_) (fun zz=>?_)<;>try simp(disch:=omega)only[zs,w64,zt]at zz))<;>try dsimp only)
  all_goals(refine Tq.ret ?_;unfold takes;(repeat' split)<;>first|rfl|omega)
theorem sTakes_ans(o:Int):Ans n_spec_TakesOf s_spec_TakesOf (o,()) ((takes o,()),()):=by
  refine Gv.ans (Gv.of (fun k=>spec_TakesOf.F_eq (cl k) k o) ?_);unfold spec_TakesOf.F spec_TakesOf.Fm;refine Tq.bind (l1In_ans _ _ _).tq ?_;intro y hy;subst hy;dsimp only;by_cases h:0≤o∧o≤17
  . obtain⟨n,rfl⟩:∃n:Nat,o=n:=⟨o.toNat,by omega⟩
    have hn:n≤17:=by omega
    rw[bo_t h];refine Tq.bf rfl (Tq.bt ?_ ?_)
    . exact idx_ok (n:=18) (by omega)
    rw[Int.toNat_natCast];have H:∀m:Fin 18,lget [(0:Int),(0:Int),(1:Int),(1:Int),(1:Int),(2:Int),(2:Int),(2:Int),(2:Int),(2:Int),(2:Int),(2:Int),(2:Int),(2:Int),(2:Int),(2:Int),(2:Int),(3:Int)] m.val=some (takes (m.val:Int)):=by decide
    exact Tq.some (H ⟨n,by omega⟩) (Tq.ret rfl)
  . rw[bo_f h];refine Tq.bt rfl (Tq.ret ?_);unfold takes;(repeat' split)<;>first|rfl|omega
/-! ### Expressions-/
def TmOk(n:Int)(t:Tm):Prop:=0≤takes t.1∧takes t.1≤n∧0≤t.2.1∧t.2.1≤255∧(2<t.1→t.2.1=0)
def okGo:Int→List Tm→Prop
  |n,[]=>n=1
  |n,t::l=>TmOk n t∧okGo (n+(1-takes t.1)) l
def ExpOk(e:List Tm):Prop:=e.length≤3000∧okGo 0 e
theorem okGo_drop {n:Int}{a:List Tm}{j:Nat}(hj:j<a.length):okGo n (a.drop j)↔TmOk n a[j]∧okGo (n+(1-takes a[j].1)) (a.drop (j+1)):=by
  rw[List.drop_eq_getElem_cons hj];rfl
theorem okGo_end {n:Int}{a:List Tm}{j:Nat}(hj:a.length≤j):okGo n (a.drop j)↔n=1:=by
  rw[List.drop_of_length_le hj];rfl
theorem iExpOk_loop(a:List Tm)(ha:a.length≤3000):∀(d j:Nat)(n:Int),a.length-j=d→0≤n→n≤j→
    Tq (d+1) (fun k q=>impl_ExpOk.L0 (cl k) k a q n (j:Int)) (· =((bo (okGo n (a.drop j)),()),())):=by
  intro d
  induction d with
  | zero=>
    intro j n hd h0 hn;refine Tq.succ ?_;show Tq _ (fun k q=>impl_ExpOk.step0 (cl k) k ..) _
    unfold impl_ExpOk.step0
    repeat'((first|refine .t ?_|refine .u ?_|refine .some lg0 ?_|refine .some lg ?_|refine .some lgI ?_|(refine .bif (fun zz=>?_) (fun zz=>?_)<;>try simp(disch:=omega)only[zs,w64,zt]at zz))<;>try dsimp only)
    rw[bo_congr (okGo_end (by omega))];exact Tq.ret (by rw[bo_beq Iff.rfl])
  | succ d ih=>
    intro j n hd h0 hn;have hj:j<a.length:=by omega
    rw[bo_congr (okGo_drop hj)];refine Tq.succ ?_;show Tq _ (fun k q=>impl_ExpOk.step0 (cl k) k ..) _
    unfold impl_ExpOk.step0;have:=takes_le a[j].1
    repeat'((first|refine .ba (iTakes_ans _) ?_|refine .t ?_|refine .u ?_|refine .some lg0 ?_|refine .some lg ?_|refine .some lgI ?_|(refine .bif (fun zz=>?_) (fun zz=>?_)<;>try simp(disch:=omega)only[zs,w64,zt]at zz))<;>try dsimp only)
    all_goals first
      |(refine Tq.ret ?_;rw[bo_f];rintro⟨⟨h1,h2,h3,h4,h5⟩,h6⟩;omega)
      | (simp(disch:=omega)only[w64]
         rw[bo_congr (and_iff_right ⟨by omega,by omega,by omega,by omega,by omega⟩)];exact ih (j+1) _ (by omega) (by omega) (by omega))
theorem iExpOk_ans(e:List Tm)(he:e.length≤1048576):Ans n_impl_ExpOk s_impl_ExpOk (e,()) ((bo (ExpOk e),()),()):=by
  refine Gv.ans (Gv.of (fun k=>impl_ExpOk.F_eq (cl k) k e) ?_);unfold impl_ExpOk.F impl_ExpOk.Fm
  repeat'((first|refine .t ?_|refine .u ?_|refine .some lg0 ?_|refine .some lg ?_|refine .some lgI ?_|(refine .bif (fun zz=>?_) (fun zz=>?_)<;>try simp(disch:=omega)only[zs,w64,zt]at zz))<;>try dsimp only)
  . refine Tq.ret ?_;rw[bo_f];rintro⟨_,h2⟩;obtain rfl:e=[]:=List.length_eq_zero_iff.1 (by omega);exact absurd (show(0:Int)=1 from h2) (by omega)
  . refine Tq.ret ?_;rw[bo_f];rintro⟨h1,h2⟩;omega
  . rw[show ExpOk e=okGo 0 e from propext (and_iff_right (by omega))];exact Tq.diag (iExpOk_loop e (by omega) e.length 0 0 rfl (by omega) (by omega))
theorem sExpOk_loop(a:List Tm)(ha:a.length≤3000):∀(d j:Nat)(n:Int),a.length-j=d→0≤n→n≤j→
    Tq (d+1) (fun k q=>spec_ExpOk.L0 (cl k) k a q n (j:Int)) (· =((bo (okGo n (a.drop j)),()),())):=by
  intro d
  induction d with
  | zero=>
    intro j n hd h0 hn;refine Tq.succ ?_;show Tq _ (fun k q=>spec_ExpOk.step0 (cl k) k ..) _
    unfold spec_ExpOk.step0
    repeat'((first|refine .t ?_|refine .u ?_|refine .some lg0 ?_|refine .some lg ?_|refine .some lgI ?_|(refine .bif (fun zz=>?_) (fun zz=>?_)<;>try simp(disch:=omega)only[zs,w64,zt]at zz))<;>try dsimp only)
    rw[bo_congr (okGo_end (by omega))];exact Tq.ret (by rw[bo_beq Iff.rfl])
  | succ d ih=>
    intro j n hd h0 hn;have hj:j<a.length:=by omega
    rw[bo_congr (okGo_drop hj)];refine Tq.succ ?_;show Tq _ (fun k q=>spec_ExpOk.step0 (cl k) k ..) _
    unfold spec_ExpOk.step0;have:=takes_le a[j].1
    repeat'((first|refine .ba (sTakes_ans _) ?_|refine .ba (l1In_ans _ _ _) ?_|refine .t ?_|refine .u ?_|refine .some lg0 ?_|refine .some lg ?_|refine .some lgI ?_|(refine .bif (fun zz=>?_) (fun zz=>?_)<;>try simp(disch:=omega)only[zs,w64,zt]at zz))<;>try dsimp only)
    all_goals first
      |(refine Tq.ret ?_;rw[bo_f];rintro⟨⟨h1,h2,h3,h4,h5⟩,h6⟩;omega)
      | (simp(disch:=omega)only[w64]
         rw[bo_congr (and_iff_right ⟨by omega,by omega,by omega,by omega,by omega⟩),show n+(1-takes a[j].1)=n-takes a[j].1+1 by omega];exact ih (j+1) _ (by omega) (by omega) (by omega))
theorem sExpOk_ans(e:List Tm)(he:e.length≤1048576):Ans n_spec_ExpOk s_spec_ExpOk (e,()) ((bo (ExpOk e),()),()):=by
  refine Gv.ans (Gv.of (fun k=>spec_ExpOk.F_eq (cl k) k e) ?_);unfold spec_ExpOk.F spec_ExpOk.Fm
  repeat'((first|refine .t ?_|refine .u ?_|refine .some lg0 ?_|refine .some lg ?_|refine .some lgI ?_|(refine .bif (fun zz=>?_) (fun zz=>?_)<;>try simp(disch:=omega)only[zs,w64,zt]at zz))<;>try dsimp only)
  . refine Tq.ret ?_;rw[bo_f];rintro⟨h1,h2⟩;omega
  . rw[show ExpOk e=okGo 0 e from propext (and_iff_right (by omega))];exact Tq.diag (sExpOk_loop e (by omega) e.length 0 0 rfl (by omega) (by omega))
end Go.Proofs.YtjgfofcgmcnblaaGreat.Pf
