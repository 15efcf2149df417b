/- Sizes, bits, inputs, room: both sides answer the same. No condition but bounds. -/
import Derived.Test.YtjgfofcgmcnblaaGreatPfF
set_option linter.all false
namespace Go.Proofs.YtjgfofcgmcnblaaGreat.Pf
open Go Go.Pv
theorem all_drop {α:Type}{P:α→Prop}{a:List α}{j:Nat}(hj:j<a.length):(∀x∈a.drop j,P x)↔P a[j]∧∀x∈a.drop (j+1),P x:=by
  rw[List.drop_eq_getElem_cons hj,List.forall_mem_cons]
theorem all_end {α:Type}{P:α→Prop}{a:List α}{j:Nat}(hj:a.length≤j):∀x∈a.drop j,P x:=by
  rw[List.drop_of_length_le hj];intro x hx;cases hx
/-! ### How many bits-/
def bitsF:Nat→Int→Int
  |0,_=>0
  |f+1,n=>if n>0 then 1+bitsF f (n.tdiv 2)else 0
def bits(n:Int):Int:=bitsF 63 n
theorem bitsF_bd:∀(f:Nat)(n:Int),0≤bitsF f n∧bitsF f n≤f
  |0,n=>by unfold bitsF;omega
  | f+1,n=>by
    unfold bitsF;have:=bitsF_bd f (n.tdiv 2);split<;>omega
theorem bits_bd(n:Int):0≤bits n∧bits n≤63:=bitsF_bd 63 n
theorem iBits_loop:∀(f:Nat)(n c:Int),n<2^f→n≤9223372036854775807→0≤c→c+f≤1000→Tq (f+1) (fun k q=>impl_bitsOf.L0 (cl k) k q n c) (· =((c+bitsF f n,()),())):=by
  intro f
  induction f with
  | zero=>
    intro n c hn hm h0 hc;refine Tq.succ ?_;show Tq _ (fun k q=>impl_bitsOf.step0 (cl k) k ..) _
    unfold impl_bitsOf.step0;have:n<1:=hn
    repeat'((first|refine .t ?_|refine .u ?_|refine .some lg0 ?_|refine .some lg ?_|refine .some lgI ?_|(refine .bif (fun zz=>?_) (fun zz=>?_)<;>try simp(disch:=omega)only[zs,w64,zt]at zz))<;>try dsimp only)
    exact Tq.ret (by unfold bitsF;rw[Int.add_zero])
  | succ f ih=>
    intro n c hn hm h0 hc;refine Tq.succ ?_;show Tq _ (fun k q=>impl_bitsOf.step0 (cl k) k ..) _
    unfold impl_bitsOf.step0
    repeat'((first|refine .t ?_|refine .u ?_|refine .some lg0 ?_|refine .some lg ?_|refine .some lgI ?_|(refine .bif (fun zz=>?_) (fun zz=>?_)<;>try simp(disch:=omega)only[zs,w64,zt]at zz))<;>try dsimp only)
    . rw[show bitsF (f+1) n=1+bitsF f (n.tdiv 2) by rw[bitsF];simp[*],←Int.add_assoc,Int.tdiv_eq_ediv_of_nonneg (by omega)];simp(disch:=omega)only[w64];exact ih _ _ (by rw[Int.pow_succ]at hn;omega) (by omega) (by omega) (by omega)
    . refine Tq.ret ?_;rw[show bitsF (f+1) n=0 by rw[bitsF,if_neg (by omega)],Int.add_zero]
theorem iBits_ans(n:Int)(hn:n≤9223372036854775807):Ans n_impl_bitsOf s_impl_bitsOf (n,()) ((bits n,()),()):=by
  refine Gv.ans (Gv.of (fun k=>impl_bitsOf.F_eq (cl k) k n) ?_);unfold impl_bitsOf.F impl_bitsOf.Fm;rw[show bits n=0+bitsF 63 n by unfold bits;omega];exact Tq.diag (iBits_loop 63 n 0 (by omega) hn (by omega) (by omega))
theorem sBits_loop:∀(f:Nat)(n c:Int),n<2^f→n≤9223372036854775807→0≤c→c+f≤1000→Tq (f+1) (fun k q=>spec_l3Bits.L0 (cl k) k q n c) (· =((c+bitsF f n,()),())):=by
  intro f
  induction f with
  | zero=>
    intro n c hn hm h0 hc;refine Tq.succ ?_;show Tq _ (fun k q=>spec_l3Bits.step0 (cl k) k ..) _
    unfold spec_l3Bits.step0;have:n<1:=hn
    repeat'((first|refine .t ?_|refine .u ?_|refine .some lg0 ?_|refine .some lg ?_|refine .some lgI ?_|(refine .bif (fun zz=>?_) (fun zz=>?_)<;>try simp(disch:=omega)only[zs,w64,zt]at zz))<;>try dsimp only)
    exact Tq.ret (by unfold bitsF;rw[Int.add_zero])
  | succ f ih=>
    intro n c hn hm h0 hc;refine Tq.succ ?_;show Tq _ (fun k q=>spec_l3Bits.step0 (cl k) k ..) _
    unfold spec_l3Bits.step0
    repeat'((first|refine .t ?_|refine .u ?_|refine .some lg0 ?_|refine .some lg ?_|refine .some lgI ?_|(refine .bif (fun zz=>?_) (fun zz=>?_)<;>try simp(disch:=omega)only[zs,w64,zt]at zz))<;>try dsimp only)
    . rw[show bitsF (f+1) n=1+bitsF f (n.tdiv 2) by rw[bitsF];simp[*],←Int.add_assoc,Int.tdiv_eq_ediv_of_nonneg (by omega)];simp(disch:=omega)only[w64];exact ih _ _ (by rw[Int.pow_succ]at hn;omega) (by omega) (by omega) (by omega)
    . refine Tq.ret ?_;rw[show bitsF (f+1) n=0 by rw[bitsF,if_neg (by omega)],Int.add_zero]
theorem sBits_ans(n:Int)(hn:n≤9223372036854775807):Ans n_spec_l3Bits s_spec_l3Bits (n,()) ((bits n,()),()):=by
  refine Gv.ans (Gv.of (fun k=>spec_l3Bits.F_eq (cl k) k n) ?_);unfold spec_l3Bits.F spec_l3Bits.Fm;rw[show bits n=0+bitsF 63 n by unfold bits;omega];exact Tq.diag (sBits_loop 63 n 0 (by omega) hn (by omega) (by omega))
/-! ### Sizes-/
def sz(w:Int):Int:=2^w.toNat
theorem w_cases {w:Int}(h:1≤w∧w≤8):w=1∨w=2∨w=3∨w=4∨w=5∨w=6∨w=7∨w=8:=by omega
theorem sz_bd {w:Int}(h:1≤w∧w≤8):2≤sz w∧sz w≤256:=by
  rcases w_cases h with rfl|rfl|rfl|rfl|rfl|rfl|rfl|rfl<;>decide
theorem great_ans(p:Pg)(h:1≤p.1∧p.1≤8):Ans n_impl_greatest s_impl_greatest (p,()) ((sz p.1-1,()),()):=by
  refine Gv.ans (Gv.of (fun k=>impl_greatest.F_eq (cl k) k p) ?_);unfold impl_greatest.F impl_greatest.Fm
  repeat'((first|refine .t ?_|refine .u ?_|refine .some lg0 ?_|refine .some lg ?_|refine .some lgI ?_|(refine .bif (fun zz=>?_) (fun zz=>?_)<;>try simp(disch:=omega)only[zs,w64,zt]at zz))<;>try dsimp only)
  refine Tq.ret ?_;have:IntKind.i64.wrap (shlI IntKind.i64 (1:Int) p.1-(1:Int))=sz p.1-1:=by
    rcases w_cases h with e|e|e|e|e|e|e|e<;>rw[e]<;>decide
  rw[this]
theorem size_loop(p:Pg)(h:1≤p.1∧p.1≤8):∀(d j:Nat),p.1.toNat-j=d→j≤p.1.toNat→
    Tq (d+1) (fun k q=>spec_l3Size.L0 (cl k) k p q ((2:Int)^j) (j:Int)) (· =((sz p.1,()),())):=by
  intro d
  induction d with
  | zero=>
    intro j hd hj;refine Tq.succ ?_;show Tq _ (fun k q=>spec_l3Size.step0 (cl k) k ..) _
    unfold spec_l3Size.step0
    repeat'((first|refine .t ?_|refine .u ?_|refine .some lg0 ?_|refine .some lg ?_|refine .some lgI ?_|(refine .bif (fun zz=>?_) (fun zz=>?_)<;>try simp(disch:=omega)only[zs,w64,zt]at zz))<;>try dsimp only)
    exact Tq.ret (by unfold sz;rw[show j=p.1.toNat by omega])
  | succ d ih=>
    intro j hd hj;refine Tq.succ ?_;show Tq _ (fun k q=>spec_l3Size.step0 (cl k) k ..) _
    unfold spec_l3Size.step0
    repeat'((first|refine .t ?_|refine .u ?_|refine .some lg0 ?_|refine .some lg ?_|refine .some lgI ?_|(refine .bif (fun zz=>?_) (fun zz=>?_)<;>try simp(disch:=omega)only[zs,w64,zt]at zz))<;>try dsimp only)
    have h1:(2:Int)^j≤128:=by
      have:j=0∨j=1∨j=2∨j=3∨j=4∨j=5∨j=6∨j=7:=by omega
      rcases this with rfl|rfl|rfl|rfl|rfl|rfl|rfl|rfl<;>decide
    have h2:(0:Int)<(2:Int)^j:=Int.pow_pos (by omega);simp(disch:=omega)only[w64];rw[←Int.pow_succ];exact ih (j+1) (by omega) (by omega)
theorem size_ans(p:Pg)(h:1≤p.1∧p.1≤8):Ans n_spec_l3Size s_spec_l3Size (p,()) ((sz p.1,()),()):=by
  refine Gv.ans (Gv.of (fun k=>spec_l3Size.F_eq (cl k) k p) ?_);unfold spec_l3Size.F spec_l3Size.Fm;exact Tq.diag (size_loop p h _ 0 rfl (by omega))
/-! ### Inputs-/
def LowOk(w:Int)(x:Ip):Prop:=0≤x.1∧x.1<sz w∧x.2.1=0
def SecOk(w:Int)(x:Ip):Prop:=0≤x.1∧x.1<sz w∧0≤x.2.1∧x.2.1≤99
def sumBits:List Ip→Int
  |[]=>0
  |x::l=>bits x.1+sumBits l
theorem sumBits_drop {a:List Ip}{j:Nat}(hj:j<a.length):sumBits (a.drop j)=bits a[j].1+sumBits (a.drop (j+1)):=by
  rw[List.drop_eq_getElem_cons hj];rfl
theorem sumBits_end {a:List Ip}{j:Nat}(hj:a.length≤j):sumBits (a.drop j)=0:=by
  rw[List.drop_of_length_le hj];rfl
def InsOk(p:Pg):Prop:=(p.2.1.length≤3∧p.2.2.1.length≤3)∧(∀x∈p.2.1,LowOk p.1 x)∧(∀x∈p.2.2.1,SecOk p.1 x)∧sumBits p.2.1+sumBits p.2.2.1≤10
theorem iIn_loop1(p:Pg)(h:1≤p.1∧p.1≤8)(hl:p.2.2.1.length≤3):∀(d j:Nat)(b:Int),p.2.2.1.length-j=d→0≤b→b+64*d≤1000→
    Tq (d+1) (fun k q=>impl_inputRight.L1 (cl k) k p q b (j:Int)) (· =((bo ((∀x∈p.2.2.1.drop j,SecOk p.1 x)∧b+sumBits (p.2.2.1.drop j)≤10),()),())):=by
  have hs:=sz_bd h;intro d
  induction d with
  | zero=>
    intro j b hd h0 hb;refine Tq.succ ?_;show Tq _ (fun k q=>impl_inputRight.step1 (cl k) k ..) _
    unfold impl_inputRight.step1
    repeat'((first|refine .t ?_|refine .u ?_|refine .some lg0 ?_|refine .some lg ?_|refine .some lgI ?_|(refine .bif (fun zz=>?_) (fun zz=>?_)<;>try simp(disch:=omega)only[zs,w64,zt]at zz))<;>try dsimp only)
    rw[sumBits_end (by omega),bo_congr (and_iff_right (all_end (by omega))),Int.add_zero];exact Tq.ret (by rw[bo_dec Iff.rfl])
  | succ d ih=>
    intro j b hd h0 hb;have hj:j<p.2.2.1.length:=by omega
    refine Tq.succ ?_;show Tq _ (fun k q=>impl_inputRight.step1 (cl k) k ..) _
    unfold impl_inputRight.step1;rw[bo_congr (and_congr_left' (all_drop hj)),sumBits_drop hj];have hb2:=bits_bd p.2.2.1[j].1
    repeat'((first|refine .ba (great_ans p h) ?_|refine .ba (iBits_ans _ (by omega)) ?_|refine .t ?_|refine .u ?_|refine .some lg0 ?_|refine .some lg ?_|refine .some lgI ?_|(refine .bif (fun zz=>?_) (fun zz=>?_)<;>try simp(disch:=omega)only[zs,w64,zt]at zz))<;>try dsimp only)
    all_goals first
      |(refine Tq.ret ?_;rw[bo_f];rintro⟨⟨⟨h1,h2,h3,h4⟩,h5⟩,h6⟩;omega)
      | (simp(disch:=omega)only[w64]
         rw[bo_congr (and_congr_left' (and_iff_right ⟨by omega,by omega,by omega,by omega⟩)),←Int.add_assoc];exact ih (j+1) _ (by omega) (by omega) (by omega))
theorem iIn_loop0(p:Pg)(h:1≤p.1∧p.1≤8)(hl0:p.2.1.length≤3)(hl:p.2.2.1.length≤3):∀(d j:Nat)(b:Int),p.2.1.length-j=d→0≤b→b+64*d≤500→
    Tq (d+1) (fun k q=>impl_inputRight.L0 (cl k) k p q b (j:Int)) (· =((bo ((∀x∈p.2.1.drop j,LowOk p.1 x)∧(∀x∈p.2.2.1,SecOk p.1 x)∧b+sumBits (p.2.1.drop j)+sumBits p.2.2.1≤10),()),())):=by
  have hs:=sz_bd h;intro d
  induction d with
  | zero=>
    intro j b hd h0 hb;refine Tq.succ ?_;show Tq _ (fun k q=>impl_inputRight.step0 (cl k) k ..) _
    unfold impl_inputRight.step0
    repeat'((first|refine .t ?_|refine .u ?_|refine .some lg0 ?_|refine .some lg ?_|refine .some lgI ?_|(refine .bif (fun zz=>?_) (fun zz=>?_)<;>try simp(disch:=omega)only[zs,w64,zt]at zz))<;>try dsimp only)
    rw[sumBits_end (by omega),bo_congr (and_iff_right (all_end (by omega))),Int.add_zero];exact Tq.diag (iIn_loop1 p h hl _ 0 b rfl (by omega) (by omega))
  | succ d ih=>
    intro j b hd h0 hb;have hj:j<p.2.1.length:=by omega
    refine Tq.succ ?_;show Tq _ (fun k q=>impl_inputRight.step0 (cl k) k ..) _
    unfold impl_inputRight.step0;rw[bo_congr (and_congr_left' (all_drop hj)),sumBits_drop hj];have hb2:=bits_bd p.2.1[j].1
    repeat'((first|refine .ba (great_ans p h) ?_|refine .ba (iBits_ans _ (by omega)) ?_|refine .t ?_|refine .u ?_|refine .some lg0 ?_|refine .some lg ?_|refine .some lgI ?_|(refine .bif (fun zz=>?_) (fun zz=>?_)<;>try simp(disch:=omega)only[zs,w64,zt]at zz))<;>try dsimp only)
    all_goals first
      |(refine Tq.ret ?_;rw[bo_f];rintro⟨⟨⟨h1,h2,h3⟩,h5⟩,h6⟩;omega)
      | (simp(disch:=omega)only[w64]
         rw[bo_congr (and_congr_left' (and_iff_right ⟨by omega,by omega,by omega⟩)),←Int.add_assoc];exact ih (j+1) _ (by omega) (by omega) (by omega))
theorem iIn_ans(p:Pg)(h:1≤p.1∧p.1≤8):Ans n_impl_inputRight s_impl_inputRight (p,()) ((bo (InsOk p),()),()):=by
  refine Gv.ans (Gv.of (fun k=>impl_inputRight.F_eq (cl k) k p) ?_);unfold impl_inputRight.F impl_inputRight.Fm
  repeat'((first|refine .t ?_|refine .u ?_|refine .some lg0 ?_|refine .some lg ?_|refine .some lgI ?_|(refine .bif (fun zz=>?_) (fun zz=>?_)<;>try simp(disch:=omega)only[zs,w64,zt]at zz))<;>try dsimp only)
  . refine Tq.ret ?_;rw[bo_f];rintro⟨⟨h1,h2⟩,_⟩;omega
  . refine Tq.ret ?_;rw[bo_f];rintro⟨⟨h1,h2⟩,_⟩;omega
  . unfold InsOk;rw[bo_congr (and_iff_right ⟨by omega,by omega⟩),show sumBits p.2.1=0+sumBits p.2.1 by omega];exact Tq.diag (iIn_loop0 p h (by omega) (by omega) _ 0 0 rfl (by omega) (by omega))
def LwOk(low:Bool)(x:Ip):Prop:=low=true→x.2.1=0
theorem sIn_loop(p:Pg)(h:1≤p.1∧p.1≤8)(a:List Ip)(ha:a.length≤1048576)(low:Bool):∀(d j:Nat),a.length-j=d→
    Tq (d+1) (fun k q=>spec_l3Inputs.L0 (cl k) k p a low q (j:Int)) (· =((bo ((∀x∈a.drop j,SecOk p.1 x∧LwOk low x)∧a.length≤3),()),())):=by
  have hs:=sz_bd h;intro d
  induction d with
  | zero=>
    intro j hd;refine Tq.succ ?_;show Tq _ (fun k q=>spec_l3Inputs.step0 (cl k) k ..) _
    unfold spec_l3Inputs.step0
    repeat'((first|refine .t ?_|refine .u ?_|refine .some lg0 ?_|refine .some lg ?_|refine .some lgI ?_|(refine .bif (fun zz=>?_) (fun zz=>?_)<;>try simp(disch:=omega)only[zs,w64,zt]at zz))<;>try dsimp only)
    rw[bo_congr (and_iff_right (all_end (by omega)))];exact Tq.ret (by rw[bo_dec (Q:=a.length≤3) (by omega)])
  | succ d ih=>
    intro j hd;have hj:j<a.length:=by omega
    refine Tq.succ ?_;show Tq _ (fun k q=>spec_l3Inputs.step0 (cl k) k ..) _
    unfold spec_l3Inputs.step0;rw[bo_congr (and_congr_left' (all_drop hj))];cases low
    all_goals repeat'((first|refine .ba (size_ans p h) ?_|refine .ba (l1In_ans _ _ _) ?_|refine .t ?_|refine .u ?_|refine .some lg0 ?_|refine .some lg ?_|refine .some lgI ?_|(refine .bif (fun zz=>?_) (fun zz=>?_)<;>try simp(disch:=omega)only[zs,w64,zt]at zz))<;>try dsimp only)
    all_goals first
      |(refine Tq.ret ?_;rw[bo_f];rintro⟨⟨⟨⟨h1,h2,h3,h4⟩,h6⟩,h5⟩,h7⟩;first|omega|exact absurd (h6 rfl) (by omega))
      | (simp(disch:=omega)only[w64]
         rw[bo_congr (and_congr_left' (and_iff_right ⟨⟨by omega,by omega,by omega,by omega⟩,fun e=>by first|omega|exact absurd e (by decide)⟩))];exact ih (j+1) (by omega))
theorem sIn_ans(p:Pg)(h:1≤p.1∧p.1≤8)(a:List Ip)(ha:a.length≤1048576)(low:Bool):Ans n_spec_l3Inputs s_spec_l3Inputs (p,a,low,()) ((bo ((∀x∈a,SecOk p.1 x∧LwOk low x)∧a.length≤3),()),()):=by
  refine Gv.ans (Gv.of (fun k=>spec_l3Inputs.F_eq (cl k) k p a low) ?_);unfold spec_l3Inputs.F spec_l3Inputs.Fm;exact Tq.diag (sIn_loop p h a ha low _ 0 rfl)
theorem sAll_loop1(p:Pg)(hv:∀x∈p.2.2.1,x.1≤9223372036854775807)(hl:p.2.2.1.length≤3):∀(d j:Nat)(b:Int),p.2.2.1.length-j=d→0≤b→b+64*d≤1000→
    Tq (d+1) (fun k q=>spec_l3AllBits.L1 (cl k) k p q b (j:Int)) (· =((b+sumBits (p.2.2.1.drop j),()),())):=by
  intro d
  induction d with
  | zero=>
    intro j b hd h0 hb;refine Tq.succ ?_;show Tq _ (fun k q=>spec_l3AllBits.step1 (cl k) k ..) _
    unfold spec_l3AllBits.step1
    repeat'((first|refine .t ?_|refine .u ?_|refine .some lg0 ?_|refine .some lg ?_|refine .some lgI ?_|(refine .bif (fun zz=>?_) (fun zz=>?_)<;>try simp(disch:=omega)only[zs,w64,zt]at zz))<;>try dsimp only)
    rw[sumBits_end (by omega),Int.add_zero];exact Tq.ret rfl
  | succ d ih=>
    intro j b hd h0 hb;have hj:j<p.2.2.1.length:=by omega
    refine Tq.succ ?_;show Tq _ (fun k q=>spec_l3AllBits.step1 (cl k) k ..) _
    unfold spec_l3AllBits.step1;rw[sumBits_drop hj];have hb2:=bits_bd p.2.2.1[j].1;have hv2:=hv _ (List.getElem_mem hj)
    repeat'((first|refine .ba (sBits_ans _ (by omega)) ?_|refine .t ?_|refine .u ?_|refine .some lg0 ?_|refine .some lg ?_|refine .some lgI ?_|(refine .bif (fun zz=>?_) (fun zz=>?_)<;>try simp(disch:=omega)only[zs,w64,zt]at zz))<;>try dsimp only)
    simp(disch:=omega)only[w64];rw[←Int.add_assoc];exact ih (j+1) _ (by omega) (by omega) (by omega)
theorem sAll_loop0(p:Pg)(hv0:∀x∈p.2.1,x.1≤9223372036854775807)(hv:∀x∈p.2.2.1,x.1≤9223372036854775807)(hl0:p.2.1.length≤3)(hl:p.2.2.1.length≤3):∀(d j:Nat)(b:Int),p.2.1.length-j=d→0≤b→b+64*d≤500→
    Tq (d+1) (fun k q=>spec_l3AllBits.L0 (cl k) k p q b (j:Int)) (· =((b+sumBits (p.2.1.drop j)+sumBits p.2.2.1,()),())):=by
  intro d
  induction d with
  | zero=>
    intro j b hd h0 hb;refine Tq.succ ?_;show Tq _ (fun k q=>spec_l3AllBits.step0 (cl k) k ..) _
    unfold spec_l3AllBits.step0
    repeat'((first|refine .t ?_|refine .u ?_|refine .some lg0 ?_|refine .some lg ?_|refine .some lgI ?_|(refine .bif (fun zz=>?_) (fun zz=>?_)<;>try simp(disch:=omega)only[zs,w64,zt]at zz))<;>try dsimp only)
    rw[sumBits_end (by omega),Int.add_zero];exact Tq.diag (sAll_loop1 p hv hl _ 0 b rfl (by omega) (by omega))
  | succ d ih=>
    intro j b hd h0 hb;have hj:j<p.2.1.length:=by omega
    refine Tq.succ ?_;show Tq _ (fun k q=>spec_l3AllBits.step0 (cl k) k ..) _
    unfold spec_l3AllBits.step0;rw[sumBits_drop hj];have hb2:=bits_bd p.2.1[j].1;have hv2:=hv0 _ (List.getElem_mem hj)
    repeat'((first|refine .ba (sBits_ans _ (by omega)) ?_|refine .t ?_|refine .u ?_|refine .some lg0 ?_|refine .some lg ?_|refine .some lgI ?_|(refine .bif (fun zz=>?_) (fun zz=>?_)<;>try simp(disch:=omega)only[zs,w64,zt]at zz))<;>try dsimp only)
    simp(disch:=omega)only[w64];rw[←Int.add_assoc];exact ih (j+1) _ (by omega) (by omega) (by omega)
theorem sAll_ans(p:Pg)(hv0:∀x∈p.2.1,x.1≤9223372036854775807)(hv:∀x∈p.2.2.1,x.1≤9223372036854775807)(hl0:p.2.1.length≤3)(hl:p.2.2.1.length≤3):Ans n_spec_l3AllBits s_spec_l3AllBits (p,()) ((sumBits p.2.1+sumBits p.2.2.1,()),()):=by
  refine Gv.ans (Gv.of (fun k=>spec_l3AllBits.F_eq (cl k) k p) ?_);unfold spec_l3AllBits.F spec_l3AllBits.Fm;rw[show sumBits p.2.1=0+sumBits p.2.1 by omega];exact Tq.diag (sAll_loop0 p hv0 hv hl0 hl _ 0 0 rfl (by omega) (by omega))
/-! ### Room-/
def RoomOk(p:Pg):Prop:=(0≤p.2.2.2.1∧p.2.2.2.1≤6∧p.2.2.2.2.1.length≤2∧p.2.2.2.2.2.1.length≤40)∧∀n∈p.2.2.2.2.1,1≤n∧n≤6
theorem iRoom_loop(p:Pg)(hl:p.2.2.2.2.1.length≤2):∀(d j:Nat),p.2.2.2.2.1.length-j=d→
    Tq (d+1) (fun k q=>impl_roomRight.L0 (cl k) k p q (j:Int)) (· =((bo (∀n∈p.2.2.2.2.1.drop j,1≤n∧n≤6),()),())):=by
  intro d
  induction d with
  | zero=>
    intro j hd;refine Tq.succ ?_;show Tq _ (fun k q=>impl_roomRight.step0 (cl k) k ..) _
    unfold impl_roomRight.step0
    repeat'((first|refine .t ?_|refine .u ?_|refine .some lg0 ?_|refine .some lg ?_|refine .some lgI ?_|(refine .bif (fun zz=>?_) (fun zz=>?_)<;>try simp(disch:=omega)only[zs,w64,zt]at zz))<;>try dsimp only)
    rw[bo_t (all_end (by omega))];exact Tq.ret rfl
  | succ d ih=>
    intro j hd;have hj:j<p.2.2.2.2.1.length:=by omega
    refine Tq.succ ?_;show Tq _ (fun k q=>impl_roomRight.step0 (cl k) k ..) _
    unfold impl_roomRight.step0;rw[bo_congr (all_drop hj)]
    repeat'((first|refine .t ?_|refine .u ?_|refine .some lg0 ?_|refine .some lg ?_|refine .some lgI ?_|(refine .bif (fun zz=>?_) (fun zz=>?_)<;>try simp(disch:=omega)only[zs,w64,zt]at zz))<;>try dsimp only)
    all_goals first
      |(refine Tq.ret ?_;rw[bo_f];rintro⟨⟨h1,h2⟩,h3⟩;omega)
      | (simp(disch:=omega)only[w64]
         rw[bo_congr (and_iff_right ⟨by omega,by omega⟩)];exact ih (j+1) (by omega))
theorem iRoom_ans(p:Pg):Ans n_impl_roomRight s_impl_roomRight (p,()) ((bo (RoomOk p),()),()):=by
  refine Gv.ans (Gv.of (fun k=>impl_roomRight.F_eq (cl k) k p) ?_);unfold impl_roomRight.F impl_roomRight.Fm
  repeat'((first|refine .t ?_|refine .u ?_|refine .some lg0 ?_|refine .some lg ?_|refine .some lgI ?_|(refine .bif (fun zz=>?_) (fun zz=>?_)<;>try simp(disch:=omega)only[zs,w64,zt]at zz))<;>try dsimp only)
  all_goals first
    |(refine Tq.ret ?_;rw[bo_f];rintro⟨⟨h1,h2,h3,h4⟩,h5⟩;omega)
    | (unfold RoomOk
       rw[bo_congr (and_iff_right ⟨by omega,by omega,by omega,by omega⟩)];exact Tq.diag (iRoom_loop p (by omega) _ 0 rfl))
theorem sRoom_loop(p:Pg)(hl:p.2.2.2.2.1.length≤2):∀(d j:Nat),p.2.2.2.2.1.length-j=d→
    Tq (d+1) (fun k q=>spec_l3Room.L0 (cl k) k p q (j:Int)) (· =((bo (∀n∈p.2.2.2.2.1.drop j,1≤n∧n≤6),()),())):=by
  intro d
  induction d with
  | zero=>
    intro j hd;refine Tq.succ ?_;show Tq _ (fun k q=>spec_l3Room.step0 (cl k) k ..) _
    unfold spec_l3Room.step0
    repeat'((first|refine .t ?_|refine .u ?_|refine .some lg0 ?_|refine .some lg ?_|refine .some lgI ?_|(refine .bif (fun zz=>?_) (fun zz=>?_)<;>try simp(disch:=omega)only[zs,w64,zt]at zz))<;>try dsimp only)
    rw[bo_t (all_end (by omega))];exact Tq.ret rfl
  | succ d ih=>
    intro j hd;have hj:j<p.2.2.2.2.1.length:=by omega
    refine Tq.succ ?_;show Tq _ (fun k q=>spec_l3Room.step0 (cl k) k ..) _
    unfold spec_l3Room.step0;rw[bo_congr (all_drop hj)]
    repeat'((first|refine .ba (l1In_ans _ _ _) ?_|refine .t ?_|refine .u ?_|refine .some lg0 ?_|refine .some lg ?_|refine .some lgI ?_|(refine .bif (fun zz=>?_) (fun zz=>?_)<;>try simp(disch:=omega)only[zs,w64,zt]at zz))<;>try dsimp only)
    all_goals first
      |(refine Tq.ret ?_;rw[bo_f];rintro⟨⟨h1,h2⟩,h3⟩;omega)
      | (simp(disch:=omega)only[w64]
         rw[bo_congr (and_iff_right ⟨by omega,by omega⟩)];exact ih (j+1) (by omega))
theorem sRoom_ans(p:Pg):Ans n_spec_l3Room s_spec_l3Room (p,()) ((bo (RoomOk p),()),()):=by
  refine Gv.ans (Gv.of (fun k=>spec_l3Room.F_eq (cl k) k p) ?_);unfold spec_l3Room.F spec_l3Room.Fm
  repeat'((first|refine .ba (l1In_ans _ _ _) ?_|refine .t ?_|refine .u ?_|refine .some lg0 ?_|refine .some lg ?_|refine .some lgI ?_|(refine .bif (fun zz=>?_) (fun zz=>?_)<;>try simp(disch:=omega)only[zs,w64,zt]at zz))<;>try dsimp only)
  all_goals first
    |(refine Tq.ret ?_;rw[bo_f];rintro⟨⟨h1,h2,h3,h4⟩,h5⟩;omega)
    | (unfold RoomOk
       rw[bo_congr (and_iff_right ⟨by omega,by omega,by omega,by omega⟩)];exact Tq.diag (sRoom_loop p (by omega) _ 0 rfl))
end Go.Proofs.YtjgfofcgmcnblaaGreat.Pf
