/- Inputs and their numbers: both sides answer the same. Its condition: the program's head is right. -/
import Derived.Test.YtjgfofcgmcnblaaGreatPfH
import Derived.Test.YtjgfofcgmcnblaaGreatPfA9
import Derived.Test.YtjgfofcgmcnblaaGreatPfTA
set_option maxHeartbeats 2000000
set_option linter.all false
namespace Go.Proofs.YtjgfofcgmcnblaaGreat.Pf
open Go Go.Pv
/--The greatest values of the inputs. -/
def mx(p:Pg):List Int:=p.2.1.map (·.1)++p.2.2.1.map (·.1)
def cntF:List Int→Int
  |[]=>1
  |m::l=>(m+1)*cntF l
def atF:List Int→Int→List Int
  |[],_=>[]
  |m::l,n=>n.tmod (m+1)::atF l (n.tdiv (m+1))
/--Small numbers. -/
def Few(l:List Int):Prop:=∀x∈l,0≤x∧x≤255
theorem Few.drop {l:List Int}(h:Few l)(j:Nat):Few (l.drop j):=fun x hx=>h x (List.mem_of_mem_drop hx)
theorem cnt_pos:∀{l:List Int},Few l→1≤cntF l
  |[],_=>Int.le_refl _
  | m::l,h=>by
    have h1:=cnt_pos (l:=l) fun x hx=>h x (List.mem_cons_of_mem _ hx)
    have h2:=h m List.mem_cons_self;have h3:=Int.mul_le_mul (show(1:Int)≤m+1 by omega) h1 (by omega) (by omega);unfold cntF;omega
theorem cnt_app:∀(a b:List Int),cntF (a++b)=cntF a*cntF b
  |[],b=>(Int.one_mul _).symm
  | m::a,b=>by
    show(m+1)*cntF (a++b)=(m+1)*cntF a*cntF b
    rw[cnt_app a b,Int.mul_assoc]
theorem le_mul1 {a b:Int}(h0:0≤a)(h:1≤b):a≤a*b:=by
  have:=Int.mul_le_mul_of_nonneg_left h h0;omega
theorem bits_pow:∀(f:Nat)(n:Int),0≤n→n<2^f→n+1≤2^(bitsF f n).toNat
  | 0,n,h0,h=>by
    have:n<1:=h;unfold bitsF;show n+1≤2^0
    omega
  | f +1,n,h0,h=>by
    unfold bitsF;by_cases c:n>0
    . rw[if_pos c];have hq:n.tdiv 2=n/2:=Int.tdiv_eq_ediv_of_nonneg h0;have ih:=bits_pow f (n/2) (by omega) (by rw[Int.pow_succ]at h;omega);rw[hq];have hb:=bitsF_bd f (n/2);rw[show(1+bitsF f (n/2)).toNat=(bitsF f (n/2)).toNat+1 by omega,Int.pow_succ];omega
    . rw[if_neg c];show n+1≤2^0
      omega
theorem cnt_bits:∀{l:List Ip},(∀x∈l,0≤x.1∧x.1≤255)→0≤sumBits l∧cntF (l.map (·.1))≤2^(sumBits l).toNat
  |[],_=>⟨Int.le_refl _,Int.le_refl _⟩
  | x ::l,h=>by
    obtain⟨h1,h2⟩:=cnt_bits (l:=l) fun y hy=>h y (List.mem_cons_of_mem _ hy)
    have h3:=h x List.mem_cons_self;have h4:=bits_bd x.1;have h5:=bits_pow 63 x.1 h3.1 (by omega);have h6:1≤cntF (l.map (·.1)):=cnt_pos fun y hy=>by
      obtain⟨z,hz,rfl⟩:=List.mem_map.1 hy;exact h z (List.mem_cons_of_mem _ hz)
    refine⟨by show 0≤bits x.1+sumBits l;omega,?_⟩;show(x.1+1)*cntF (l.map (·.1))≤2^(bits x.1+sumBits l).toNat
    rw[show(bits x.1+sumBits l).toNat=(bits x.1).toNat+(sumBits l).toNat by omega,Int.pow_add];exact Int.mul_le_mul h5 h2 (by omega) (Int.le_of_lt (Int.pow_pos (by omega)))
theorem mx_len(p:Pg):(mx p).length=p.2.1.length+p.2.2.1.length:=by
  unfold mx;rw[List.length_append,List.length_map,List.length_map]
section
variable {p:Pg}(hp:Hd p)
include hp
theorem low_few:∀x∈p.2.1,0≤x.1∧x.1≤255:=fun x hx=>by
  have h1:=hp.i.2.1 x hx;have h2:=hp.b.2.2.2.2;exact⟨h1.1,by have:=h1.2.1;omega⟩
theorem sec_few:∀x∈p.2.2.1,0≤x.1∧x.1≤255:=fun x hx=>by
  have h1:=hp.i.2.2.1 x hx;have h2:=hp.b.2.2.2.2;exact⟨h1.1,by have:=h1.2.1;omega⟩
theorem mx_few:Few (mx p):=fun x hx=>by
  unfold mx at hx;rcases List.mem_append.1 hx with h|h<;>obtain⟨y,hy,rfl⟩:=List.mem_map.1 h
  . exact low_few hp y hy
  . exact sec_few hp y hy
theorem cnt_bd:1≤cntF (mx p)∧cntF (mx p)≤1024:=by
  refine⟨cnt_pos (mx_few hp),?_⟩;obtain⟨a1,a2⟩:=cnt_bits (low_few hp);obtain⟨b1,b2⟩:=cnt_bits (sec_few hp);have hs:=hp.i.2.2.2;have h1:1≤cntF (p.2.2.1.map (·.1)):=cnt_pos fun y hy=>by
    obtain⟨z,hz,rfl⟩:=List.mem_map.1 hy;exact sec_few hp z hz
  unfold mx;rw[cnt_app];have h2:=Int.mul_le_mul a2 b2 (by omega) (Int.le_of_lt (Int.pow_pos (by omega)));rw[←Int.pow_add]at h2;have h3:=Nat.pow_le_pow_right (n:=2) (by omega) (show(sumBits p.2.1).toNat+(sumBits p.2.2.1).toNat≤10 by omega);have h4:(2:Int)^((sumBits p.2.1).toNat+(sumBits p.2.2.1).toNat)=((2^((sumBits p.2.1).toNat+(sumBits p.2.2.1).toNat):Nat):Int):=by rw[Int.natCast_pow];rfl
  have h5:2^10=1024:=rfl;omega
end
theorem at_len:∀(l:List Int)(n:Int),(atF l n).length=l.length
  |[],_=>rfl
  |m::l,n=>congrArg Nat.succ (at_len l _)
theorem at_get:∀{l:List Int}{n:Int},Few l→0≤n→∀(i:Nat)(h:i<(atF l n).length)(h2:i<l.length),0≤(atF l n)[i]∧(atF l n)[i]≤l[i]
  |[],n,_,_,i,h,h2=>absurd h2 (by simp)
  | m::l,n,hl,h0,0,h,h2=>by
    have h3:=hl m List.mem_cons_self;show 0≤n.tmod (m+1)∧n.tmod (m+1)≤m
    have h4:=Int.tmod_lt_of_pos n (show 0<m+1 by omega);exact⟨Int.tmod_nonneg _ h0,by omega⟩
  | m::l,n,hl,h0,i+1,h,h2=>by
    have h3:=hl m List.mem_cons_self;exact at_get (l:=l) (n:=n.tdiv (m+1)) (fun x hx=>hl x (List.mem_cons_of_mem _ hx)) (Int.tdiv_nonneg h0 (by omega)) i (by simpa[atF]using h) (by simpa using h2)
/--Right inputs,lows and secrets together. -/
def Wi(p:Pg)(a:List Int):Prop:=Within (a.take p.2.1.length) p.2.1∧Within (a.drop p.2.1.length) p.2.2.1
theorem at_wi {p:Pg}(hp:Hd p){n:Int}(h0:0≤n):Wi p (atF (mx p) n):=by
  have hl:=at_len (mx p) n;rw[mx_len]at hl;have hg:=at_get (mx_few hp) h0;refine⟨⟨by rw[List.length_take];omega,fun i _ h1 h2=>?_⟩,⟨by rw[List.length_drop];omega,fun i _ h1 h2=>?_⟩⟩
  . rw[List.getElem_take];have h3:=hg i (by omega) (by rw[mx_len];omega);have h4:(mx p)[i]'(by rw[mx_len];omega)=p.2.1[i].1:=by
      unfold mx;rw[List.getElem_append_left (by rw[List.length_map];exact h2),List.getElem_map]
    rw[h4]at h3;exact h3
  . rw[List.length_drop]at h1;rw[List.getElem_drop];have h3:=hg (p.2.1.length+i) (by omega) (by rw[mx_len];omega);have h4:(mx p)[p.2.1.length+i]'(by rw[mx_len];omega)=p.2.2.1[i].1:=by
      unfold mx;rw[List.getElem_append_right (by rw[List.length_map];omega),List.getElem_map]
      congr 2
      rw[List.length_map];omega
    rw[h4]at h3;exact h3
/-! ### The reference-/
section
variable {p:Pg}(hp:Hd p)
include hp
theorem maxes_ans:Ans n_spec_l7Maxes s_spec_l7Maxes (p,()) ((mx p,()),()):=by
  have hb:=hp.b;have k1:∀(d j:Nat)(acc:List Int),p.2.2.1.length-j=d→acc.length+d≤6→Tq (d+1) (fun k q=>spec_l7Maxes.L1 (cl k) k p q (j:Int) acc) (· =((acc++(p.2.2.1.drop j).map (·.1),()),())):=by
    intro d
    induction d with
    | zero=>
      intro j acc hd hl;refine Tq.succ ?_;show Tq _ (fun k q=>spec_l7Maxes.step1 (cl k) k ..) _
      unfold spec_l7Maxes.step1
      repeat'((first|refine .t ?_|refine .u ?_|refine .some lg0 ?_|refine .some lg ?_|refine .some lgI ?_|(refine .bif (fun zz=>?_) (fun zz=>?_)<;>try simp(disch:=omega)only[zs,w64,zt]at zz))<;>try dsimp only)
      rw[List.drop_of_length_le (by omega),List.map_nil,List.append_nil];exact Tq.ret rfl
    | succ d ih=>
      intro j acc hd hl;have hj:j<p.2.2.1.length:=by omega
      refine Tq.succ ?_;show Tq _ (fun k q=>spec_l7Maxes.step1 (cl k) k ..) _
      unfold spec_l7Maxes.step1;refine Tq.bt (dlt hj) (Tq.bt (dle0 _) (Tq.some (lg hj) (Tq.bt (apb (by rw[by2];simp only[List.length_cons,List.length_nil];omega)) ?_)));rw[ws hj (by omega),List.drop_eq_getElem_cons hj];have:=ih (j+1) (acc++[p.2.2.1[j].1]) (by omega) (by simp;omega);rw[List.append_assoc acc,List.singleton_append]at this;exact this
  have k0:∀(d j:Nat)(acc:List Int),p.2.1.length-j=d→acc.length+d≤3→Tq (d+1) (fun k q=>spec_l7Maxes.L0 (cl k) k p q (j:Int) acc) (· =((acc++((p.2.1.drop j).map (·.1)++p.2.2.1.map (·.1)),()),())):=by
    intro d
    induction d with
    | zero=>
      intro j acc hd hl;refine Tq.succ ?_;show Tq _ (fun k q=>spec_l7Maxes.step0 (cl k) k ..) _
      unfold spec_l7Maxes.step0;refine Tq.bf (dnlt (by omega)) ?_;rw[List.drop_of_length_le (by omega),List.map_nil,List.nil_append];exact Tq.diag (k1 _ 0 acc rfl (by omega))
    | succ d ih=>
      intro j acc hd hl;have hj:j<p.2.1.length:=by omega
      refine Tq.succ ?_;show Tq _ (fun k q=>spec_l7Maxes.step0 (cl k) k ..) _
      unfold spec_l7Maxes.step0;refine Tq.bt (dlt hj) (Tq.bt (dle0 _) (Tq.some (lg hj) (Tq.bt (apb (by rw[by2];simp only[List.length_cons,List.length_nil];omega)) ?_)));rw[ws hj (by omega),List.drop_eq_getElem_cons hj];have:=ih (j+1) (acc++[p.2.1[j].1]) (by omega) (by simp;omega);rw[List.append_assoc acc,List.singleton_append]at this;exact this
  refine Gv.ans (Gv.of (fun k=>spec_l7Maxes.F_eq (cl k) k p) ?_);unfold spec_l7Maxes.F spec_l7Maxes.Fm;exact Tq.diag (k0 _ 0 [] rfl (by simp;omega))
omit hp in
theorem count_ans {l:List Int}(hl:Few l)(hn:l.length≤6)(hc:cntF l≤1024):Ans n_spec_l7Count s_spec_l7Count (l,()) ((cntF l,()),()):=by
  have key:∀(d j:Nat)(c:Int),l.length-j=d→1≤c→c*cntF (l.drop j)≤1024→Tq (d+1) (fun k q=>spec_l7Count.L0 (cl k) k l q c (j:Int)) (· =((c*cntF (l.drop j),()),())):=by
    intro d
    induction d with
    | zero=>
      intro j c hd h1 h2;refine Tq.succ ?_;show Tq _ (fun k q=>spec_l7Count.step0 (cl k) k ..) _
      unfold spec_l7Count.step0
      repeat'((first|refine .t ?_|refine .u ?_|refine .some lg0 ?_|refine .some lg ?_|refine .some lgI ?_|(refine .bif (fun zz=>?_) (fun zz=>?_)<;>try simp(disch:=omega)only[zs,w64,zt]at zz))<;>try dsimp only)
      rw[List.drop_of_length_le (by omega)];exact Tq.ret (by show _=((c*1,()),());rw[Int.mul_one])
    | succ d ih=>
      intro j c hd h1 h2;have hj:j<l.length:=by omega
      have hx:=hl _ (List.getElem_mem hj);have e:c*cntF (l.drop j)=c*(l[j]+1)*cntF (l.drop (j+1)):=by
        rw[List.drop_eq_getElem_cons hj,Int.mul_assoc];rfl
      rw[e]at h2⊢;have h3:=cnt_pos (hl.drop (j+1));have h5:=le_mul1 (a:=c) (by omega) (show 1≤l[j]+1 by omega);have h4:=le_mul1 (a:=c*(l[j]+1)) (by omega) h3;refine Tq.succ ?_;show Tq _ (fun k q=>spec_l7Count.step0 (cl k) k ..) _
      unfold spec_l7Count.step0;refine Tq.bt (dlt hj) (Tq.bt (dle0 _) (Tq.some (lg hj) ?_));rw[ws hj (by omega),w64 (x:=l[j]+1) (by omega) (by omega),w64 (by omega) (by omega)];exact ih (j+1) _ (by omega) (by omega) h2
  refine Gv.ans (Gv.of (fun k=>spec_l7Count.F_eq (cl k) k l) ?_);unfold spec_l7Count.F spec_l7Count.Fm;have:=key _ 0 1 rfl (Int.le_refl _) (by rw[Int.one_mul];exact hc);rw[Int.one_mul]at this;exact Tq.diag this
omit hp in
theorem at_ans {l:List Int}(hl:Few l)(hn:l.length≤6){n:Int}(h0:0≤n)(h1:n≤1024):Ans n_spec_l7At s_spec_l7At (l,n,()) ((atF l n,()),()):=by
  have key:∀(d j:Nat)(n:Int)(acc:List Int),l.length-j=d→0≤n→n≤1024→acc.length+d≤6→Tq (d+1) (fun k q=>spec_l7At.L0 (cl k) k l q n (j:Int) acc) (· =((acc++atF (l.drop j) n,()),())):=by
    intro d
    induction d with
    | zero=>
      intro j n acc hd h0 h1 h2;refine Tq.succ ?_;show Tq _ (fun k q=>spec_l7At.step0 (cl k) k ..) _
      unfold spec_l7At.step0
      repeat'((first|refine .t ?_|refine .u ?_|refine .some lg0 ?_|refine .some lg ?_|refine .some lgI ?_|(refine .bif (fun zz=>?_) (fun zz=>?_)<;>try simp(disch:=omega)only[zs,w64,zt]at zz))<;>try dsimp only)
      rw[List.drop_of_length_le (by omega)];exact Tq.ret (by rw[atF,List.append_nil])
    | succ d ih=>
      intro j n acc hd h0 h1 h2;have hj:j<l.length:=by omega
      have hx:=hl _ (List.getElem_mem hj);have q0:=Int.tdiv_nonneg h0 (show 0≤l[j]+1 by omega);have q1:=Int.tdiv_le_self (l[j]+1) h0;refine Tq.succ ?_;show Tq _ (fun k q=>spec_l7At.step0 (cl k) k ..) _
      unfold spec_l7At.step0;refine Tq.bt (dlt hj) (Tq.bt (dle0 _) (Tq.some (lg hj) ?_));rw[w64 (x:=l[j]+1) (by omega) (by omega)];refine Tq.bf (decide_eq_false (by omega)) (Tq.bt (apb (by rw[by2];simp only[List.length_cons,List.length_nil];omega)) (Tq.bt (dle0 _) (Tq.some (lg hj) ?_)));rw[w64 (x:=l[j]+1) (by omega) (by omega)];refine Tq.bf (decide_eq_false (by omega)) ?_;rw[ws hj (by omega),w64 (by omega) (by omega),List.drop_eq_getElem_cons hj];have:=ih (j+1) _ (acc++[n.tmod (l[j]+1)]) (by omega) q0 (by omega) (by simp;omega);rw[List.append_assoc acc,List.singleton_append]at this;exact this
  refine Gv.ans (Gv.of (fun k=>spec_l7At.F_eq (cl k) k l n) ?_);unfold spec_l7At.F spec_l7At.Fm;exact Tq.diag (key _ 0 n [] rfl h0 h1 (by simp;omega))
/-! ### The program-/
omit hp in
theorem ti_ip:ti59.bytes=16:=rfl
theorem allIn_ans:Ans n_impl_allInputs s_impl_allInputs (p,()) ((p.2.1++p.2.2.1,()),()):=by
  have hb:=hp.b;refine Gv.ans (Gv.of (fun k=>impl_allInputs.F_eq (cl k) k p) ?_);unfold impl_allInputs.F impl_allInputs.Fm;exact Tq.bt (apb (by rw[ti_ip];omega)) (Tq.bt (apb (by rw[ti_ip,List.nil_append];omega)) (Tq.ret rfl))
theorem many_ans:Ans n_impl_manyInputs s_impl_manyInputs (p,()) ((cntF (mx p),()),()):=by
  have hb:=hp.b;have hc:=cnt_bd hp;have e0:mx p=(p.2.1++p.2.2.1).map (·.1):=by unfold mx;rw[List.map_append]
  have hf:=mx_few hp;have hn:(p.2.1++p.2.2.1).length≤6:=by rw[List.length_append];omega
  have hA:=allIn_ans hp;refine Gv.ans (Gv.of (fun k=>impl_manyInputs.F_eq (cl k) k p) ?_);unfold impl_manyInputs.F impl_manyInputs.Fm;rw[e0]at hc hf⊢;generalize p.2.1++p.2.2.1=l at*;refine Tq.ba hA ?_;have key:∀(d j:Nat)(c:Int),l.length-j=d→1≤c→c*cntF ((l.drop j).map (·.1))≤1024→Tq (d+1) (fun k q=>impl_manyInputs.L0 (cl k) k ((l,()),()) q c (j:Int)) (· =((c*cntF ((l.drop j).map (·.1)),()),())):=by
    intro d
    induction d with
    | zero=>
      intro j c hd h1 h2;refine Tq.succ ?_;show Tq _ (fun k q=>impl_manyInputs.step0 (cl k) k ..) _
      unfold impl_manyInputs.step0
      repeat'((first|refine .t ?_|refine .u ?_|refine .some lg0 ?_|refine .some lg ?_|refine .some lgI ?_|(refine .bif (fun zz=>?_) (fun zz=>?_)<;>try simp(disch:=omega)only[zs,w64,zt]at zz))<;>try dsimp only)
      rw[List.drop_of_length_le (by omega)];exact Tq.ret (by show _=((c*1,()),());rw[Int.mul_one])
    | succ d ih=>
      intro j c hd h1 h2;have hj:j<l.length:=by omega
      have hx:=hf _ (List.mem_map.2 ⟨_,List.getElem_mem hj,rfl⟩);have e:c*cntF ((l.drop j).map (·.1))=c*(l[j].1+1)*cntF ((l.drop (j+1)).map (·.1)):=by
        rw[List.drop_eq_getElem_cons hj,Int.mul_assoc];rfl
      rw[e]at h2⊢;have h3:1≤cntF ((l.drop (j+1)).map (·.1)):=cnt_pos (by rw[List.map_drop];exact hf.drop _);have h5:=le_mul1 (a:=c) (by omega) (show 1≤l[j].1+1 by omega);have h4:=le_mul1 (a:=c*(l[j].1+1)) (by omega) h3;refine Tq.succ ?_;show Tq _ (fun k q=>impl_manyInputs.step0 (cl k) k ..) _
      unfold impl_manyInputs.step0;refine Tq.bt (dlt hj) (Tq.bt (idx_ok hj) (Tq.some (lg hj) ?_));rw[ws hj (by omega),w64 (x:=l[j].1+1) (by omega) (by omega),w64 (by omega) (by omega)];exact ih (j+1) _ (by omega) (by omega) h2
  have:=key _ 0 1 rfl (Int.le_refl _) (by rw[Int.one_mul];exact hc.2);rw[Int.one_mul]at this;exact Tq.diag this
end
end Go.Proofs.YtjgfofcgmcnblaaGreat.Pf
