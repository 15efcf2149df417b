/- Rounds of the flow: what the reference makes of all places. Its condition: the program is right, labels are below 8. -/
import Derived.Test.YtafgkoelefpacaaPfP
set_option maxHeartbeats 2000000
set_option linter.all false
namespace Go.Proofs.Ytafgkoelefpacaa.Pf
open Go Go.Pv
/-- All places, with the ifs around. -/
def Fs.fl (b : List Sm) : Fs → List Sm → List Gd
  | .nil, _ => []
  | .leaf i r, c => (smAt b i, c, ()) :: r.fl b c
  | .one i e t r, c => (smAt b i, c, ()) :: (t.fl b (inn b i c) ++ ((smAt b e, c, ()) :: r.fl b c))
  | .two i m e t o r, c => (smAt b i, c, ()) :: (t.fl b (inn b i c) ++ ((smAt b m, inn b i c, ()) :: (o.fl b (inn b i c) ++ ((smAt b e, c, ()) :: r.fl b c))))
section
variable {p : Pg} {f : FT} (h : Inv p f) (hs : StsOk p) (hb : p.2.2.2.2.2.1.length ≤ 40)
/-- For a place, the loop over those ahead has come so far, with these ifs around. -/
def Pre (p : Pg) (f : FT) (x k : Nat) (c : List Sm) : Prop := ∀ (d : Nat) (P : (Int × Unit) × Unit → Prop),
  Tq d (fun k' q => spec_l9Around.L0 (cl k') k' p.2.2.2.2.2.1 f (x : Int) q (arnd f.1 f.2.1 0 c) (k : Int)) P → Tq (d + k) (fun k' q => spec_l9Around.L0 (cl k') k' p.2.2.2.2.2.1 f (x : Int) q 0 0) P
theorem pre_zero {x : Nat} : Pre p f x 0 [] := fun d P H => H
include hb
theorem pre_skip {x k : Nat} {c : List Sm} (hk : k < x) (hx : x ≤ p.2.2.2.2.2.1.length) (ho : opAt p.2.2.2.2.2.1 k ≠ 2) (H : Pre p f x k c) : Pre p f x (k + 1) c := by
  intro d P HT
  have hk2 : k < p.2.2.2.2.2.1.length := by omega
  rw [opAt_lt hk2] at ho
  rw [show d + (k + 1) = (d + 1) + k by omega]
  refine H (d + 1) P (Tq.succ ?_)
  show Tq d (fun k' q => spec_l9Around.step0 (cl k') k' p.2.2.2.2.2.1 f (x : Int) (spec_l9Around.L0 (cl k') k' p.2.2.2.2.2.1 f (x : Int) q) (arnd f.1 f.2.1 0 c) (k : Int)) _
  unfold spec_l9Around.step0
  repeat' ((first
   | refine .bt (by first | assumption | (simp (disch := omega) only [zs, w64, zt]; first | done | omega)) ?_
   | refine .bf (by first | assumption | (simp (disch := omega) only [zs, w64, zt]; first | done | omega)) ?_
   | refine .some (lg0 (by omega)) ?_
   | refine .some (lg (by omega)) ?_
   | refine .some (lgI (by omega) (by omega)) ?_
   | (refine .bif (fun zz => ?_) (fun zz => ?_) <;> try simp (disch := omega) only [zs, w64, zt] at zz)) <;> try dsimp only)
  rw [ws hk2 (by omega)]
  exact HT
theorem pre_out {x k : Nat} {y e : Int} {c : List Sm} (hk : k < x) (hx : x ≤ p.2.2.2.2.2.1.length) (ho : opAt p.2.2.2.2.2.1 k = 2) (hE : End p.2.2.2.2.2.1 k y e) (he : e ≤ x) (H : Pre p f x k c) : Pre p f x (k + 1) c := by
  intro d P HT
  have hk2 : k < p.2.2.2.2.2.1.length := by omega
  rw [opAt_lt hk2] at ho
  rw [show d + (k + 1) = (d + 1) + k by omega]
  refine H (d + 1) P (Tq.succ ?_)
  show Tq d (fun k' q => spec_l9Around.step0 (cl k') k' p.2.2.2.2.2.1 f (x : Int) (spec_l9Around.L0 (cl k') k' p.2.2.2.2.2.1 f (x : Int) q) (arnd f.1 f.2.1 0 c) (k : Int)) _
  unfold spec_l9Around.step0
  repeat' ((first
   | refine .ba (hE) ?_
   | refine .bt (by first | assumption | (simp (disch := omega) only [zs, w64, zt]; first | done | omega)) ?_
   | refine .bf (by first | assumption | (simp (disch := omega) only [zs, w64, zt]; first | done | omega)) ?_
   | refine .some (lg0 (by omega)) ?_
   | refine .some (lg (by omega)) ?_
   | refine .some (lgI (by omega) (by omega)) ?_
   | (refine .bif (fun zz => ?_) (fun zz => ?_) <;> try simp (disch := omega) only [zs, w64, zt] at zz)) <;> try dsimp only)
  rw [ws hk2 (by omega)]
  exact HT
include h hs in
theorem pre_in {x k : Nat} {y e : Int} {c : List Sm} (hk : k < x) (hx : x ≤ p.2.2.2.2.2.1.length) (ho : opAt p.2.2.2.2.2.1 k = 2) (hE : End p.2.2.2.2.2.1 k y e) (he : x < e) (H : Pre p f x k c) : Pre p f x (k + 1) (c ++ [smAt p.2.2.2.2.2.1 k]) := by
  intro d P HT
  have hk2 : k < p.2.2.2.2.2.1.length := by omega
  rw [opAt_lt hk2] at ho
  rw [show d + (k + 1) = (d + 1) + k by omega]
  refine H (d + 1) P (Tq.succ ?_)
  show Tq d (fun k' q => spec_l9Around.step0 (cl k') k' p.2.2.2.2.2.1 f (x : Int) (spec_l9Around.L0 (cl k') k' p.2.2.2.2.2.1 f (x : Int) q) (arnd f.1 f.2.1 0 c) (k : Int)) _
  unfold spec_l9Around.step0
  obtain ⟨h1, h2, h3, h4, h5, h6, h7⟩ := h
  obtain ⟨V, A, E, K, _⟩ := f
  dsimp only at *
  have hq := sLab_ans V A E K h3 h4 p.2.2.2.2.2.1[k].2.2.2.1 ((hs _ (List.getElem_mem hk2)).sub.2.idx h1 h2)
  have hu := unite_ans (arnd_lb h3 h4 c lb0) (lab_lb h3 h4 p.2.2.2.2.2.1[k].2.2.2.1)
  repeat' ((first
   | refine .ba (hE) ?_
   | refine .ba (hq) ?_
   | refine .ba (hu) ?_
   | refine .bt (by first | assumption | (simp (disch := omega) only [zs, w64, zt]; first | done | omega)) ?_
   | refine .bf (by first | assumption | (simp (disch := omega) only [zs, w64, zt]; first | done | omega)) ?_
   | refine .some (lg0 (by omega)) ?_
   | refine .some (lg (by omega)) ?_
   | refine .some (lgI (by omega) (by omega)) ?_
   | (refine .bif (fun zz => ?_) (fun zz => ?_) <;> try simp (disch := omega) only [zs, w64, zt] at zz)) <;> try dsimp only)
  rw [ws hk2 (by omega)]
  rw [arnd_app, smAt_lt hk2] at HT
  exact HT
theorem pre_seg {t : Fs} {i j : Nat} (hg : Seg p.2.2.2.2.2.1 t i j) : ∀ {x : Nat} {c : List Sm}, j ≤ x → x ≤ p.2.2.2.2.2.1.length → Pre p f x i c → Pre p f x j c := by
  have hb2 : p.2.2.2.2.2.1.length ≤ 1048576 := by omega
  induction hg with
  | nil => intro x c _ _ H; exact H
  | leaf hi ho hr ih =>
    intro x c hx hx2 H
    have := hr.le
    exact ih hx hx2 (pre_skip hb (by omega) hx2 (by omega) H)
  | @one t r i e j ho ht he hr ih1 ih2 =>
    intro x c hx hx2 H
    have h1 := ht.le
    have h2 := hr.le
    have hE := end_one hb2 ho (blk_seg hb2 ht).blk he
    have H1 : Pre p f x (i + 1) c := by
      rcases ho with ho | ho
      · exact pre_out hb (by omega) hx2 ho hE (by omega) H
      · exact pre_skip hb (by omega) hx2 (by omega) H
    exact ih2 hx hx2 (pre_skip hb (by omega) hx2 (by omega) (ih1 (by omega) hx2 H1))
  | @two t o r i m e j ho ht hot he hr ih1 ih2 ih3 =>
    intro x c hx hx2 H
    have h1 := ht.le
    have h2 := hr.le
    have h3 := hot.le
    have hE := end_two hb2 ho (blk_seg hb2 ht).blk (blk_seg hb2 hot).blk he
    have H1 : Pre p f x (i + 1) c := by
      rcases ho with ho | ho
      · exact pre_out hb (by omega) hx2 ho.1 hE (by omega) H
      · exact pre_skip hb (by omega) hx2 (by omega) H
    exact ih3 hx hx2 (pre_skip hb (by omega) hx2 (by omega) (ih2 (by omega) hx2 (pre_skip hb (by omega) hx2 (by omega) (ih1 (by omega) hx2 H1))))
theorem around_ans {x : Nat} {c : List Sm} (H : Pre p f x x c) : Ans n_spec_l9Around s_spec_l9Around (p.2.2.2.2.2.1, f, (x : Int), ()) ((arnd f.1 f.2.1 0 c, ()), ()) := by
  refine Gv.ans (Gv.of (fun k => spec_l9Around.F_eq (cl k) k p.2.2.2.2.2.1 f x) ?_)
  unfold spec_l9Around.F spec_l9Around.Fm
  refine Tq.diag (H 1 _ (Tq.succ ?_))
  show Tq 0 (fun k' q => spec_l9Around.step0 (cl k') k' p.2.2.2.2.2.1 f (x : Int) (spec_l9Around.L0 (cl k') k' p.2.2.2.2.2.1 f (x : Int) q) (arnd f.1 f.2.1 0 c) (x : Int)) _
  unfold spec_l9Around.step0
  repeat' ((first
   | refine .bt (by first | assumption | (simp (disch := omega) only [zs, w64, zt]; first | done | omega)) ?_
   | refine .bf (by first | assumption | (simp (disch := omega) only [zs, w64, zt]; first | done | omega)) ?_
   | refine .some (lg0 (by omega)) ?_
   | refine .some (lg (by omega)) ?_
   | refine .some (lgI (by omega) (by omega)) ?_
   | (refine .bif (fun zz => ?_) (fun zz => ?_) <;> try simp (disch := omega) only [zs, w64, zt] at zz)) <;> try dsimp only)
  exact Tq.ret rfl
end
theorem own_eq {a b c d : Int} : un (un a b) (un c d) = un (un d c) (un a b) := by rw [un_comm (un a b), un_comm c d]
/-- One place. -/
theorem round_step {p : Pg} (hp : Hd p) (hs : StsOk p) {f : FT} (h : Inv p f) {x : Nat} (hx : x < p.2.2.2.2.2.1.length) {c : List Sm} (H : Pre p f x x c) {P : (FT × Unit) × Unit → Prop} {d : Nat}
    (HT : Tq d (fun k q => spec_l9Round.L0 (cl k) k p q ((x + 1 : Nat) : Int) (stF p f (smAt p.2.2.2.2.2.1 x, c, ())).2.1 (stF p f (smAt p.2.2.2.2.2.1 x, c, ())).1 (stF p f (smAt p.2.2.2.2.2.1 x, c, ())).2.2.1 (stF p f (smAt p.2.2.2.2.2.1 x, c, ())).2.2.2.1) P) :
    Tq (d + 1) (fun k q => spec_l9Round.L0 (cl k) k p q (x : Int) f.2.1 f.1 f.2.2.1 f.2.2.2.1) P := by
  have hb := hp.b
  have hS := hs _ (List.getElem_mem hx)
  have ha := around_ans (by omega) H
  rw [smAt_lt hx] at HT
  obtain ⟨h1, h2, h3, h4, h5, h6, h7⟩ := h
  obtain ⟨V, A, E, K, _⟩ := f
  have hN := hS.2.1
  have hv : Vrs p = Ins p + p.2.2.2.1 := rfl
  have hi : Ins p = (p.2.1.length : Int) + (p.2.2.1.length : Int) := rfl
  unfold NOk at hN
  dsimp only at *
  have x1 := sLab_ans V A E K h3 h4 p.2.2.2.2.2.1[x].2.2.2.1 (hS.sub.2.idx h1 h2)
  have x2 := sLab_ans V A E K h3 h4 p.2.2.2.2.2.1[x].2.2.1 (hS.sub.1.idx h1 h2)
  have b1 := lab_lb h3 h4 p.2.2.2.2.2.1[x].2.2.2.1
  have b2 := lab_lb h3 h4 p.2.2.2.2.2.1[x].2.2.1
  have b3 := arnd_lb h3 h4 c lb0
  have x3 := sSTrap_ans p hp _ hS
  have e1 : arnd V A E c = un E (arnd V A 0 c) := by
    have := arnd_un V A c 0 E
    rw [un_zero h5.1] at this
    exact this
  refine Tq.succ ?_
  show Tq d (fun k q => spec_l9Round.step0 (cl k) k p (spec_l9Round.L0 (cl k) k p q) (x : Int) A V E K) _
  unfold spec_l9Round.step0
  refine Tq.bt (dlt hx) (Tq.bt (dle0 _) (Tq.some (lg hx) (Tq.bind ha.tq ?_)))
  rintro y rfl
  dsimp only
  refine Tq.bind (unite_ans h5 b3).tq ?_
  rintro y rfl
  dsimp only
  refine Tq.bind x2.tq ?_
  rintro y rfl
  dsimp only
  refine Tq.bind x1.tq ?_
  rintro y rfl
  dsimp only
  refine Tq.bind (unite_ans b2 b1).tq ?_
  rintro y rfl
  dsimp only
  refine Tq.bind (unite_ans (un_lb h5 b3) (un_lb b2 b1)).tq ?_
  rintro y rfl
  dsimp only
  unfold stF at HT
  dsimp only at HT
  rw [ws hx (by omega)]
  rw [← e1] at *
  have b4 : Lb (arnd V A E c) := arnd_lb h3 h4 c h5
  rw [show un (arnd V A E c) (un (lab V A p.2.2.2.2.2.1[x].2.2.1) (lab V A p.2.2.2.2.2.1[x].2.2.2.1)) = un (un (lab V A p.2.2.2.2.2.1[x].2.2.2.1) (lab V A p.2.2.2.2.2.1[x].2.2.1)) (arnd V A E c) by rw [un_comm, un_comm (lab V A p.2.2.2.2.2.1[x].2.2.1)]]
  have b5 : Lb (un (un (lab V A p.2.2.2.2.2.1[x].2.2.2.1) (lab V A p.2.2.2.2.2.1[x].2.2.1)) (arnd V A E c)) := un_lb (un_lb b1 b2) b4
  generalize un (un (lab V A p.2.2.2.2.2.1[x].2.2.2.1) (lab V A p.2.2.2.2.2.1[x].2.2.1)) (arnd V A E c) = own at *
  generalize arnd V A E c = ctx at *
  by_cases c0 : p.2.2.2.2.2.1[x].1 = 0
  · rw [if_pos c0, if_neg (by omega), if_neg (by omega), if_neg (by omega)] at HT
    repeat' ((first
     | refine .ba (x3) ?_
     | refine .ba (unite_ans h5 b5) ?_
     | refine .ba (unite_ans h6 h5) ?_
     | refine .ba (unite_ans h6 (un_lb h5 b5)) ?_
     | refine .ba (unite_ans (a := V[p.2.2.2.2.2.1[x].2.1.toNat]'(by omega)) (h3 _ (List.getElem_mem _)) b5) ?_
     | refine .bt (by first | assumption | (simp (disch := omega) only [zs, w64, zt]; first | done | omega)) ?_
     | refine .bf (by first | assumption | (simp (disch := omega) only [zs, w64, zt]; first | done | omega)) ?_
     | refine .some (lg0 (by omega)) ?_
     | refine .some (lg (by omega)) ?_
     | refine .some (lgI (by omega) (by omega)) ?_
     | (refine .bif (fun zz => ?_) (fun zz => ?_) <;> try simp (disch := omega) only [zs, w64, zt] at zz)) <;> try dsimp only)
    · rw [bo_t (by assumption), geti_lt (l := V) (n := p.2.2.2.2.2.1[x].2.1) (by omega)] at HT
      exact HT
    · rw [bo_f (by assumption), geti_lt (l := V) (n := p.2.2.2.2.2.1[x].2.1) (by omega)] at HT
      exact HT
  by_cases c1 : p.2.2.2.2.2.1[x].1 = 1
  · rw [if_neg c0, if_pos c1, if_neg (by omega), if_neg (by omega)] at HT
    repeat' ((first
     | refine .ba (x3) ?_
     | refine .ba (unite_ans h5 b5) ?_
     | refine .ba (unite_ans h6 h5) ?_
     | refine .ba (unite_ans h6 (un_lb h5 b5)) ?_
     | refine .ba (unite_ans (a := A[p.2.2.2.2.2.1[x].2.1.toNat]'(by omega)) (h4 _ (List.getElem_mem _)) b5) ?_
     | refine .bt (by first | assumption | (simp (disch := omega) only [zs, w64, zt]; first | done | omega)) ?_
     | refine .bf (by first | assumption | (simp (disch := omega) only [zs, w64, zt]; first | done | omega)) ?_
     | refine .some (lg0 (by omega)) ?_
     | refine .some (lg (by omega)) ?_
     | refine .some (lgI (by omega) (by omega)) ?_
     | (refine .bif (fun zz => ?_) (fun zz => ?_) <;> try simp (disch := omega) only [zs, w64, zt] at zz)) <;> try dsimp only)
    · rw [bo_t (by assumption), geti_lt (l := A) (n := p.2.2.2.2.2.1[x].2.1) (by omega)] at HT
      exact HT
    · rw [bo_f (by assumption), geti_lt (l := A) (n := p.2.2.2.2.2.1[x].2.1) (by omega)] at HT
      exact HT
  by_cases c6 : p.2.2.2.2.2.1[x].1 = 6
  · rw [if_neg c0, if_neg c1, if_pos c6, if_neg (by omega)] at HT
    repeat' ((first
     | refine .ba (x3) ?_
     | refine .ba (unite_ans h5 b5) ?_
     | refine .ba (unite_ans h6 b5) ?_
     | refine .ba (unite_ans (un_lb h6 b5) h5) ?_
     | refine .ba (unite_ans (un_lb h6 b5) (un_lb h5 b5)) ?_
     | refine .bt (by first | assumption | (simp (disch := omega) only [zs, w64, zt]; first | done | omega)) ?_
     | refine .bf (by first | assumption | (simp (disch := omega) only [zs, w64, zt]; first | done | omega)) ?_
     | refine .some (lg0 (by omega)) ?_
     | refine .some (lg (by omega)) ?_
     | refine .some (lgI (by omega) (by omega)) ?_
     | (refine .bif (fun zz => ?_) (fun zz => ?_) <;> try simp (disch := omega) only [zs, w64, zt] at zz)) <;> try dsimp only)
    · rw [bo_t (by assumption)] at HT
      exact HT
    · rw [bo_f (by assumption)] at HT
      exact HT
  by_cases c7 : p.2.2.2.2.2.1[x].1 = 7
  · rw [if_neg c0, if_neg c1, if_neg c6, if_pos c7] at HT
    repeat' ((first
     | refine .ba (x3) ?_
     | refine .ba (unite_ans h5 b4) ?_
     | refine .ba (unite_ans (un_lb h5 b4) b5) ?_
     | refine .ba (unite_ans h6 (un_lb h5 b4)) ?_
     | refine .ba (unite_ans h6 (un_lb (un_lb h5 b4) b5)) ?_
     | refine .bt (by first | assumption | (simp (disch := omega) only [zs, w64, zt]; first | done | omega)) ?_
     | refine .bf (by first | assumption | (simp (disch := omega) only [zs, w64, zt]; first | done | omega)) ?_
     | refine .some (lg0 (by omega)) ?_
     | refine .some (lg (by omega)) ?_
     | refine .some (lgI (by omega) (by omega)) ?_
     | (refine .bif (fun zz => ?_) (fun zz => ?_) <;> try simp (disch := omega) only [zs, w64, zt] at zz)) <;> try dsimp only)
    · rw [bo_t (by assumption)] at HT
      exact HT
    · rw [bo_f (by assumption)] at HT
      exact HT
  · rw [if_neg c0, if_neg c1, if_neg c6, if_neg c7] at HT
    repeat' ((first
     | refine .ba (x3) ?_
     | refine .ba (unite_ans h5 b5) ?_
     | refine .ba (unite_ans h6 h5) ?_
     | refine .ba (unite_ans h6 (un_lb h5 b5)) ?_
     | refine .bt (by first | assumption | (simp (disch := omega) only [zs, w64, zt]; first | done | omega)) ?_
     | refine .bf (by first | assumption | (simp (disch := omega) only [zs, w64, zt]; first | done | omega)) ?_
     | refine .some (lg0 (by omega)) ?_
     | refine .some (lg (by omega)) ?_
     | refine .some (lgI (by omega) (by omega)) ?_
     | (refine .bif (fun zz => ?_) (fun zz => ?_) <;> try simp (disch := omega) only [zs, w64, zt] at zz)) <;> try dsimp only)
    · rw [bo_t (by assumption)] at HT
      exact HT
    · rw [bo_f (by assumption)] at HT
      exact HT
end Go.Proofs.Ytafgkoelefpacaa.Pf
