/- Well nested bodies: what both sides make of them. Its condition: the body is no longer than a law looks at. -/
import Derived.Test.YtjgfofcgmcnblaaGreatPfH
import Derived.Test.YtjgfofcgmcnblaaGreatPfT2
set_option maxHeartbeats 2000000
set_option linter.all false
namespace Go.Proofs.YtjgfofcgmcnblaaGreat.Pf
open Go Go.Pv
/--A well nested part:plain statements,those with one inner part,those with two. -/
inductive Fs where
  |nil
  |leaf (i:Nat) (r:Fs)
  |one (i e:Nat) (t r:Fs)
  |two (i m e:Nat) (t o r:Fs)
def Fs.trs:Fs→List Tr
  |.nil=>[]
  |.leaf i r=>.mk i [] []::r.trs
  |.one i _ t r=>.mk i t.trs []::r.trs
  |.two i _ _ t o r=>.mk i t.trs o.trs::r.trs
def opAt(b:List Sm)(i:Nat):Int:=if h:i<b.length then b[i].1 else -1
theorem opAt_lt {b:List Sm}{i:Nat}(h:i<b.length):opAt b i=b[i].1:=dif_pos h
theorem opAt_ge {b:List Sm}{i:Nat}(h:¬i<b.length):opAt b i= -1:=dif_neg h
theorem opAt_in {b:List Sm}{i:Nat}{o:Int}(h:opAt b i=o)(ho:o≠-1):i<b.length:=by
  rcases Nat.lt_or_ge i b.length with h1|h1
  . exact h1
  . rw[opAt_ge (by omega)]at h;omega
inductive Seg (b:List Sm):Fs→Nat→Nat→Prop
  |nil {i:Nat} (hi:i≤b.length) (h:i=b.length∨opAt b i=3∨opAt b i=4∨opAt b i=9):Seg b .nil i i
  |leaf {r:Fs} {i j:Nat} (hi:i<b.length) (h:opAt b i≠2∧opAt b i≠3∧opAt b i≠4∧opAt b i≠5∧opAt b i≠8∧opAt b i≠9) (hr:Seg b r (i+1) j):Seg b (.leaf i r) i j
  |one {t r:Fs} {i e j:Nat} (h:opAt b i=2∨opAt b i=5) (ht:Seg b t (i+1) e) (he:opAt b e=4) (hr:Seg b r (e+1) j):Seg b (.one i e t r) i j
  |two {t o r:Fs} {i m e j:Nat} (h:(opAt b i=2∧opAt b m=3)∨(opAt b i=8∧opAt b m=9)) (ht:Seg b t (i+1) m) (ho:Seg b o (m+1) e) (he:opAt b e=4) (hr:Seg b r (e+1) j):Seg b (.two i m e t o r) i j
theorem Seg.le {b:List Sm}{t:Fs}{i j:Nat}(h:Seg b t i j):i≤j∧j≤b.length:=by
  induction h with
  |nil hi h=>omega
  |leaf hi h hr ih=>omega
  |one h ht he hr ih1 ih2=>omega
  |two h ht ho he hr ih1 ih2 ih3=>omega
/-! ### The reference-/
theorem is_ans(b:List Sm)(hb:b.length≤1048576)(x:Int)(o:Int)(ho:o≠-1):Ans n_spec_l3Is s_spec_l3Is (b,x,o,()) ((bo (0≤x∧opAt b x.toNat=o),()),()):=by
  refine Gv.ans (Gv.of (fun k=>spec_l3Is.F_eq (cl k) k b x o) ?_);unfold spec_l3Is.F spec_l3Is.Fm
  repeat'((first|refine .ba (l1In_ans _ _ _) ?_|refine .t ?_|refine .u ?_|refine .some lg0 ?_|refine .some lg ?_|refine .some lgI ?_|(refine .bif (fun zz=>?_) (fun zz=>?_)<;>try simp(disch:=omega)only[zs,w64,zt]at zz))<;>try dsimp only)
  . refine Tq.ret ?_;rw[bo_beq (Q:=0≤x∧opAt b x.toNat=o)];rw[opAt_lt (by omega)];constructor
    . exact fun h=>⟨by omega,h⟩
    . exact fun h=>h.2
  . refine Tq.ret ?_;rw[bo_f];rintro⟨h1,h2⟩;have:=opAt_in h2 ho;omega
def BlkL(b:List Sm)(i:Nat)(x:Int):Prop:=∀d,b.length-i<d→Tq d (fun k q=>spec_l3Block.L0 (cl k) k b q (i:Int)) (· =((x,()),()))
def Blk(b:List Sm)(i:Nat)(x:Int):Prop:=Ans n_spec_l3Block s_spec_l3Block (b,(i:Int),()) ((x,()),())
def End(b:List Sm)(i:Nat)(x y:Int):Prop:=Ans n_spec_l3End s_spec_l3End (b,(i:Int),()) ((x,y,()),())
theorem BlkL.blk {b:List Sm}{i:Nat}{x:Int}(h:BlkL b i x):Blk b i x:=by
  refine Gv.ans (Gv.of (fun k=>spec_l3Block.F_eq (cl k) k b i) ?_);unfold spec_l3Block.F spec_l3Block.Fm;exact Tq.diag (h (b.length-i+1) (by omega))
section
variable {b:List Sm}(hb:b.length≤1048576)
include hb
theorem end_leaf {i:Nat}(hi:i<b.length)(h:opAt b i≠2∧opAt b i≠5∧opAt b i≠8){x:Int}(h1:Blk b (i+1) x):End b i (-1) (-1):=by
  rw[opAt_lt hi]at h;refine Gv.ans (Gv.of (fun k=>spec_l3End.F_eq (cl k) k b i) ?_);unfold spec_l3End.F spec_l3End.Fm;rw[ws hi (by omega)]
  repeat'((first|refine .ba h1 ?_|refine .ba (is_ans b hb _ _ (by omega)) ?_|refine .t ?_|refine .u ?_|refine .some lg0 ?_|refine .some lg ?_|refine .some lgI ?_|(refine .bif (fun zz=>?_) (fun zz=>?_)<;>try simp(disch:=omega)only[zs,w64,zt]at zz))<;>try dsimp only)
  all_goals exact Tq.ret rfl
theorem end_one {i e:Nat}(h:opAt b i=2∨opAt b i=5)(h1:Blk b (i+1) e)(he:opAt b e=4):End b i (-1) e:=by
  have hi:i<b.length:=by rcases h with h|h<;>exact opAt_in h (by omega)
  rw[opAt_lt hi]at h;refine Gv.ans (Gv.of (fun k=>spec_l3End.F_eq (cl k) k b i) ?_);unfold spec_l3End.F spec_l3End.Fm;rw[ws hi (by omega)]
  repeat'((first|refine .ba h1 ?_|refine .ba (is_ans b hb _ _ (by omega)) ?_|refine .t ?_|refine .u ?_|refine .some lg0 ?_|refine .some lg ?_|refine .some lgI ?_|(refine .bif (fun zz=>?_) (fun zz=>?_)<;>try simp(disch:=omega)only[zs,w64,zt]at zz))<;>try dsimp only)
  all_goals exact Tq.ret rfl
theorem end_two {i m e:Nat}(h:(opAt b i=2∧opAt b m=3)∨(opAt b i=8∧opAt b m=9))(h1:Blk b (i+1) m)(h2:Blk b (m+1) e)(he:opAt b e=4):End b i m e:=by
  have hi:i<b.length:=by rcases h with h|h<;>exact opAt_in h.1 (by omega)
  have hm:m<b.length:=by rcases h with h|h<;>exact opAt_in h.2 (by omega)
  rw[opAt_lt hi]at h;refine Gv.ans (Gv.of (fun k=>spec_l3End.F_eq (cl k) k b i) ?_);unfold spec_l3End.F spec_l3End.Fm;rw[ws hi (by omega)];have h2:Ans n_spec_l3Block s_spec_l3Block (b,IntKind.i64.wrap ((m:Int)+1),()) (((e:Int),()),()):=by rw[ws hm (by omega)];exact h2
  repeat'((first|refine .ba h1 ?_|refine .ba (is_ans b hb _ _ (by omega)) ?_|refine .ba h2 ?_|refine .t ?_|refine .u ?_|refine .some lg0 ?_|refine .some lg ?_|refine .some lgI ?_|(refine .bif (fun zz=>?_) (fun zz=>?_)<;>try simp(disch:=omega)only[zs,w64,zt]at zz))<;>try dsimp only)
  all_goals exact Tq.ret rfl
/--Where no inner part ends. -/
theorem end_f1 {i:Nat}(hi:i<b.length)(h1:Blk b (i+1) (-1)):End b i (-1) (-1):=by
  refine Gv.ans (Gv.of (fun k=>spec_l3End.F_eq (cl k) k b i) ?_);unfold spec_l3End.F spec_l3End.Fm;rw[ws hi (by omega)]
  repeat'((first|refine .ba h1 ?_|refine .ba (is_ans b hb _ _ (by omega)) ?_|refine .t ?_|refine .u ?_|refine .some lg0 ?_|refine .some lg ?_|refine .some lgI ?_|(refine .bif (fun zz=>?_) (fun zz=>?_)<;>try simp(disch:=omega)only[zs,w64,zt]at zz))<;>try dsimp only)
  all_goals exact Tq.ret rfl
theorem end_f2 {i m:Nat}(hi:i<b.length)(h1:Blk b (i+1) m)(h:¬((opAt b i=2∧opAt b m=3)∨(opAt b i=8∧opAt b m=9)))(h2:¬(opAt b m=4∧opAt b i≠8)):End b i (-1) (-1):=by
  rw[opAt_lt hi]at h h2;refine Gv.ans (Gv.of (fun k=>spec_l3End.F_eq (cl k) k b i) ?_);unfold spec_l3End.F spec_l3End.Fm;rw[ws hi (by omega)]
  repeat'((first|refine .ba h1 ?_|refine .ba (is_ans b hb _ _ (by omega)) ?_|refine .t ?_|refine .u ?_|refine .some lg0 ?_|refine .some lg ?_|refine .some lgI ?_|(refine .bif (fun zz=>?_) (fun zz=>?_)<;>try simp(disch:=omega)only[zs,w64,zt]at zz))<;>try dsimp only)
  all_goals exact Tq.ret rfl
theorem end_f3 {i m:Nat}(h:(opAt b i=2∧opAt b m=3)∨(opAt b i=8∧opAt b m=9))(h1:Blk b (i+1) m){x:Int}(h2:Blk b (m+1) x)(hx:x<0∨opAt b x.toNat≠4):End b i (-1) (-1):=by
  have hi:i<b.length:=by rcases h with h|h<;>exact opAt_in h.1 (by omega)
  have hm:m<b.length:=by rcases h with h|h<;>exact opAt_in h.2 (by omega)
  rw[opAt_lt hi]at h;refine Gv.ans (Gv.of (fun k=>spec_l3End.F_eq (cl k) k b i) ?_);unfold spec_l3End.F spec_l3End.Fm;rw[ws hi (by omega)];have h2:Ans n_spec_l3Block s_spec_l3Block (b,IntKind.i64.wrap ((m:Int)+1),()) ((x,()),()):=by rw[ws hm (by omega)];exact h2
  repeat'((first|refine .ba h1 ?_|refine .ba (is_ans b hb _ _ (by omega)) ?_|refine .ba h2 ?_|refine .t ?_|refine .u ?_|refine .some lg0 ?_|refine .some lg ?_|refine .some lgI ?_|(refine .bif (fun zz=>?_) (fun zz=>?_)<;>try simp(disch:=omega)only[zs,w64,zt]at zz))<;>try dsimp only)
  all_goals exact Tq.ret rfl
/-! #### blocks,step by step-/
theorem blk_nil {i:Nat}(h:i=b.length∨opAt b i=3∨opAt b i=4∨opAt b i=9):BlkL b i i:=by
  intro d hd;obtain⟨d,rfl⟩:∃d',d=d'+1:=⟨d-1,by omega⟩
  refine Tq.succ ?_;show Tq _ (fun k q=>spec_l3Block.step0 (cl k) k ..) _
  unfold spec_l3Block.step0;by_cases hi:i<b.length
  . rw[opAt_lt hi]at h
    repeat'((first|refine .t ?_|refine .u ?_|refine .some lg0 ?_|refine .some lg ?_|refine .some lgI ?_|(refine .bif (fun zz=>?_) (fun zz=>?_)<;>try simp(disch:=omega)only[zs,w64,zt]at zz))<;>try dsimp only)
    all_goals exact Tq.ret rfl
  . repeat'((first|refine .t ?_|refine .u ?_|refine .some lg0 ?_|refine .some lg ?_|refine .some lgI ?_|(refine .bif (fun zz=>?_) (fun zz=>?_)<;>try simp(disch:=omega)only[zs,w64,zt]at zz))<;>try dsimp only)
    all_goals exact Tq.ret rfl
theorem blk_leaf {i:Nat}{x:Int}(hi:i<b.length)(h:opAt b i≠2∧opAt b i≠3∧opAt b i≠4∧opAt b i≠5∧opAt b i≠8∧opAt b i≠9)(hr:BlkL b (i+1) x):BlkL b i x:=by
  intro d hd;obtain⟨d,rfl⟩:∃d',d=d'+1:=⟨d-1,by omega⟩
  refine Tq.succ ?_;show Tq _ (fun k q=>spec_l3Block.step0 (cl k) k ..) _
  unfold spec_l3Block.step0;rw[opAt_lt hi]at h
  repeat'((first|refine .t ?_|refine .u ?_|refine .some lg0 ?_|refine .some lg ?_|refine .some lgI ?_|(refine .bif (fun zz=>?_) (fun zz=>?_)<;>try simp(disch:=omega)only[zs,w64,zt]at zz))<;>try dsimp only)
  rw[ws hi (by omega)];exact hr d (by omega)
theorem blk_node {i e:Nat}{x y:Int}(h:opAt b i=2∨opAt b i=5∨opAt b i=8)(he:i<e∧e<b.length)(hn:End b i y e)(hr:BlkL b (e+1) x):BlkL b i x:=by
  have hi:i<b.length:=by omega
  intro d hd;obtain⟨d,rfl⟩:∃d',d=d'+1:=⟨d-1,by omega⟩
  refine Tq.succ ?_;show Tq _ (fun k q=>spec_l3Block.step0 (cl k) k ..) _
  unfold spec_l3Block.step0;rw[opAt_lt hi]at h
  repeat'((first|refine .ba hn ?_|refine .t ?_|refine .u ?_|refine .some lg0 ?_|refine .some lg ?_|refine .some lgI ?_|(refine .bif (fun zz=>?_) (fun zz=>?_)<;>try simp(disch:=omega)only[zs,w64,zt]at zz))<;>try dsimp only)
  all_goals
    rw[ws he.2 (by omega)];exact hr d (by omega)
theorem blk_fail {i:Nat}(h:opAt b i=2∨opAt b i=5∨opAt b i=8)(hn:End b i (-1) (-1)):BlkL b i (-1):=by
  have hi:i<b.length:=by rcases h with h|h|h<;>exact opAt_in h (by omega)
  intro d hd;obtain⟨d,rfl⟩:∃d',d=d'+1:=⟨d-1,by omega⟩
  refine Tq.succ ?_;show Tq _ (fun k q=>spec_l3Block.step0 (cl k) k ..) _
  unfold spec_l3Block.step0;rw[opAt_lt hi]at h
  repeat'((first|refine .ba hn ?_|refine .t ?_|refine .u ?_|refine .some lg0 ?_|refine .some lg ?_|refine .some lgI ?_|(refine .bif (fun zz=>?_) (fun zz=>?_)<;>try simp(disch:=omega)only[zs,w64,zt]at zz))<;>try dsimp only)
  all_goals exact Tq.ret rfl
theorem blk_seg {t:Fs}{i j:Nat}(h:Seg b t i j):BlkL b i j:=by
  induction h with
  |nil hi h=>exact blk_nil hb h
  |leaf hi h hr ih=>exact blk_leaf hb hi h ih
  | one h ht he hr ih1 ih2=>
    have h1:=ht.le;have h2:=opAt_in he (by omega);exact blk_node hb (by omega) (by omega) (end_one hb h ih1.blk he) ih2
  | two h ht ho he hr ih1 ih2 ih3=>
    have h1:=ht.le;have h3:=ho.le;have h2:=opAt_in he (by omega);exact blk_node hb (by omega) (by omega) (end_two hb h ih1.blk ih2.blk he) ih3
end
end Go.Proofs.YtjgfofcgmcnblaaGreat.Pf
