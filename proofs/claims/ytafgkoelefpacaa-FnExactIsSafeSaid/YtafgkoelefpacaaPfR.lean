/- Rounds of the flow are alike, and come to rest. Its condition: the program is right, labels are below 8. -/
import Derived.Test.YtafgkoelefpacaaPfQ
set_option maxHeartbeats 2000000
set_option linter.all false
namespace Go.Proofs.Ytafgkoelefpacaa.Pf
open Go Go.Pv
noncomputable def fold (p : Pg) (f : FT) (l : List Gd) : FT := l.foldl (stF p) f
theorem fold_app (p : Pg) (f : FT) (l m : List Gd) : fold p f (l ++ m) = fold p (fold p f l) m := List.foldl_append
theorem fold_cons (p : Pg) (f : FT) (g : Gd) (l : List Gd) : fold p f (g :: l) = fold p (stF p f g) l := rfl
theorem fold_inv {p : Pg} : ∀ (l : List Gd) {f : FT}, Inv p f → Inv p (fold p f l)
  | [], f, h => h
  | g :: l, f, h => fold_inv l (stF_inv h)
theorem round_seg {p : Pg} (hp : Hd p) (hs : StsOk p) {t : Fs} {i j : Nat} (hg : Seg p.2.2.2.2.2.1 t i j) : ∀ {c : List Sm}, (∀ f, Inv p f → ∀ x, i ≤ x → x < j → Pre p f x i c) → ∀ f, Inv p f → ∀ (d : Nat) (P : (FT × Unit) × Unit → Prop),
    Tq d (fun k q => spec_l9Round.L0 (cl k) k p q (j : Int) (fold p f (t.fl p.2.2.2.2.2.1 c)).2.1 (fold p f (t.fl p.2.2.2.2.2.1 c)).1 (fold p f (t.fl p.2.2.2.2.2.1 c)).2.2.1 (fold p f (t.fl p.2.2.2.2.2.1 c)).2.2.2.1) P →
    Tq (d + (j - i)) (fun k q => spec_l9Round.L0 (cl k) k p q (i : Int) f.2.1 f.1 f.2.2.1 f.2.2.2.1) P := by
  have hb := hp.b.2.2.2.1
  have hb2 : p.2.2.2.2.2.1.length ≤ 1048576 := by omega
  induction hg with
  | @nil i =>
    intro c _ f _ d P H
    rw [Nat.sub_self]
    exact H
  | @leaf r i j hi ho hr ih =>
    intro c C f hf d P H
    have h1 := hr.le
    rw [show d + (j - i) = d + (j - (i + 1)) + 1 by omega]
    refine round_step hp hs hf hi (C f hf i (by omega) (by omega)) (ih (fun g hg x hx1 hx2 => pre_skip hb (by omega) (by omega) (by omega) (C g hg x (by omega) (by omega))) _ (stF_inv hf) d P ?_)
    exact H
  | @one t r i e j ho ht he hr ih1 ih2 =>
    intro c C f hf d P H
    have h1 := ht.le
    have h2 := hr.le
    have h3 := opAt_in he (by omega)
    have hE := end_one hb2 ho (blk_seg hb2 ht).blk he
    have C1 : ∀ f, Inv p f → ∀ x, i + 1 ≤ x → x < e → Pre p f x (i + 1) (inn p.2.2.2.2.2.1 i c) := by
      intro f hf x hx1 hx2
      unfold inn
      rcases ho with ho | ho
      · rw [if_pos ho]
        exact pre_in hf hs hb (by omega) (by omega) ho hE (by omega) (C f hf x (by omega) (by omega))
      · rw [if_neg (by omega)]
        exact pre_skip hb (by omega) (by omega) (by omega) (C f hf x (by omega) (by omega))
    have C2 : ∀ f, Inv p f → ∀ x, e ≤ x → x < j → Pre p f x e c := by
      intro f hf x hx1 hx2
      refine pre_seg hb ht (by omega) (by omega) ?_
      rcases ho with ho | ho
      · exact pre_out hb (by omega) (by omega) ho hE (by omega) (C f hf x (by omega) (by omega))
      · exact pre_skip hb (by omega) (by omega) (by omega) (C f hf x (by omega) (by omega))
    simp only [Fs.fl, fold_cons, fold_app] at H
    have i1 := stF_inv (g := (smAt p.2.2.2.2.2.1 i, c, ())) hf
    have i2 := fold_inv (t.fl p.2.2.2.2.2.1 (inn p.2.2.2.2.2.1 i c)) i1
    rw [show d + (j - i) = d + (j - (e + 1)) + 1 + (e - (i + 1)) + 1 by omega]
    refine round_step hp hs hf (by omega) (C f hf i (by omega) (by omega)) (ih1 C1 _ i1 _ P (round_step hp hs i2 h3 (C2 _ i2 e (by omega) (by omega)) (ih2 (fun g hg x hx1 hx2 => pre_skip hb (by omega) (by omega) (by omega) (C2 g hg x (by omega) (by omega))) _ (stF_inv i2) d P ?_)))
    exact H
  | @two t o r i m e j ho ht hot he hr ih1 ih2 ih3 =>
    intro c C f hf d P H
    have h1 := ht.le
    have h2 := hr.le
    have h4 := hot.le
    have h3 := opAt_in he (by omega)
    have hE := end_two hb2 ho (blk_seg hb2 ht).blk (blk_seg hb2 hot).blk he
    have C1 : ∀ f, Inv p f → ∀ x, i + 1 ≤ x → x < e → Pre p f x (i + 1) (inn p.2.2.2.2.2.1 i c) := by
      intro f hf x hx1 hx2
      unfold inn
      rcases ho with ho | ho
      · rw [if_pos ho.1]
        exact pre_in hf hs hb (by omega) (by omega) ho.1 hE (by omega) (C f hf x (by omega) (by omega))
      · rw [if_neg (by omega)]
        exact pre_skip hb (by omega) (by omega) (by omega) (C f hf x (by omega) (by omega))
    have C3 : ∀ f, Inv p f → ∀ x, m ≤ x → x < e → Pre p f x m (inn p.2.2.2.2.2.1 i c) := fun f hf x hx1 hx2 => pre_seg hb ht (by omega) (by omega) (C1 f hf x (by omega) (by omega))
    have C2 : ∀ f, Inv p f → ∀ x, e ≤ x → x < j → Pre p f x e c := by
      intro f hf x hx1 hx2
      refine pre_seg hb hot (by omega) (by omega) (pre_skip hb (by omega) (by omega) (by omega) (pre_seg hb ht (by omega) (by omega) ?_))
      rcases ho with ho | ho
      · exact pre_out hb (by omega) (by omega) ho.1 hE (by omega) (C f hf x (by omega) (by omega))
      · exact pre_skip hb (by omega) (by omega) (by omega) (C f hf x (by omega) (by omega))
    simp only [Fs.fl, fold_cons, fold_app] at H
    have i1 := stF_inv (g := (smAt p.2.2.2.2.2.1 i, c, ())) hf
    have i2 := fold_inv (t.fl p.2.2.2.2.2.1 (inn p.2.2.2.2.2.1 i c)) i1
    have i3 := stF_inv (g := (smAt p.2.2.2.2.2.1 m, inn p.2.2.2.2.2.1 i c, ())) i2
    have i4 := fold_inv (o.fl p.2.2.2.2.2.1 (inn p.2.2.2.2.2.1 i c)) i3
    rw [show d + (j - i) = d + (j - (e + 1)) + 1 + (e - (m + 1)) + 1 + (m - (i + 1)) + 1 by omega]
    refine round_step hp hs hf (by omega) (C f hf i (by omega) (by omega)) (ih1 (fun g hg x hx1 hx2 => C1 g hg x (by omega) (by omega)) _ i1 _ P (round_step hp hs i2 (by omega) (C3 _ i2 m (by omega) (by omega))
      (ih2 (fun g hg x hx1 hx2 => pre_skip hb (by omega) (by omega) (by omega) (C3 g hg x (by omega) (by omega))) _ i3 _ P (round_step hp hs i4 h3 (C2 _ i4 e (by omega) (by omega)) (ih3 (fun g hg x hx1 hx2 => pre_skip hb (by omega) (by omega) (by omega) (C2 g hg x (by omega) (by omega))) _ (stF_inv i4) d P ?_)))))
    exact H
theorem by2 : ti2.bytes = 8 := rfl
theorem sRound_ans {p : Pg} (hp : Hd p) (hs : StsOk p) {t : Fs} (hg : Seg p.2.2.2.2.2.1 t 0 p.2.2.2.2.2.1.length) {f : FT} (hf : Inv p f) : Ans n_spec_l9Round s_spec_l9Round (p, f, ()) ((fold p f (t.fl p.2.2.2.2.2.1 []), ()), ()) := by
  have hb := hp.b
  have hv : Vrs p = (p.2.1.length : Int) + (p.2.2.1.length : Int) + p.2.2.2.1 := rfl
  have h1 := hf.lv
  have h2 := hf.la
  refine Gv.ans (Gv.of (fun k => spec_l9Round.F_eq (cl k) k p f) ?_)
  unfold spec_l9Round.F spec_l9Round.Fm
  refine Tq.bt (apb (by rw [by2]; omega)) (Tq.bt (apb (by rw [by2]; omega)) (Tq.diag (round_seg hp hs hg (c := []) (fun g hg x _ _ => pre_zero) f hf 1 _ (Tq.succ ?_))))
  show Tq 0 (fun k q => spec_l9Round.step0 (cl k) k p (spec_l9Round.L0 (cl k) k p q) (p.2.2.2.2.2.1.length : Int) (fold p f (t.fl p.2.2.2.2.2.1 [])).2.1 (fold p f (t.fl p.2.2.2.2.2.1 [])).1 (fold p f (t.fl p.2.2.2.2.2.1 [])).2.2.1 (fold p f (t.fl p.2.2.2.2.2.1 [])).2.2.2.1) _
  unfold spec_l9Round.step0
  exact Tq.bf (dnlt (Nat.le_refl _)) (Tq.ret rfl)
/-! ### Places that are no statements by themselves change nothing -/
theorem idle {p : Pg} (hs : StsOk p) {f : FT} (hf : Inv p f) {x : Nat} {c : List Sm} (ho : opAt p.2.2.2.2.2.1 x = 3 ∨ opAt p.2.2.2.2.2.1 x = 4 ∨ opAt p.2.2.2.2.2.1 x = 9) : stF p f (smAt p.2.2.2.2.2.1 x, c, ()) = f := by
  have hx : x < p.2.2.2.2.2.1.length := by rcases ho with h | h | h <;> exact opAt_in h (by omega)
  have hS := hs _ (List.getElem_mem hx)
  rw [opAt_lt hx] at ho
  have h1 : p.2.2.2.2.2.1[x].2.2.1.length = 0 := hS.2.2.1.2 (by omega)
  have h2 : p.2.2.2.2.2.1[x].2.2.2.1.length = 0 := hS.2.2.2.2 (by omega)
  have h3 : ¬ STrap p p.2.2.2.2.2.1[x] := by
    rintro (h | h | h)
    · exact trap_end (by omega) h
    · exact trap_end (by omega) h
    · omega
  have h4 := hf.ek
  obtain ⟨V, A, E, K, _⟩ := f
  unfold stF
  rw [smAt_lt hx]
  dsimp only at *
  rw [if_neg (by omega), if_neg (by omega), if_neg (by omega), if_neg (by omega), bo_f h3, cond_false, h4]
theorem fl_gl {p : Pg} (hs : StsOk p) {t : Fs} {i j : Nat} (hg : Seg p.2.2.2.2.2.1 t i j) : ∀ (c : List Sm) (f : FT), Inv p f → fold p f (t.fl p.2.2.2.2.2.1 c) = fold p f (t.gl p.2.2.2.2.2.1 c) := by
  induction hg with
  | nil => intro c f _; rfl
  | leaf hi ho hr ih => intro c f hf; exact ih c _ (stF_inv hf)
  | @one t r i e j ho ht he hr ih1 ih2 =>
    intro c f hf
    simp only [Fs.fl, Fs.gl, fold_cons, fold_app]
    have i1 := stF_inv (g := (smAt p.2.2.2.2.2.1 i, c, ())) hf
    rw [ih1 _ _ i1]
    have i2 := fold_inv (t.gl p.2.2.2.2.2.1 (inn p.2.2.2.2.2.1 i c)) i1
    rw [idle hs i2 (by omega), ih2 _ _ i2]
  | @two t o r i m e j ho ht hot he hr ih1 ih2 ih3 =>
    intro c f hf
    simp only [Fs.fl, Fs.gl, fold_cons, fold_app]
    have i1 := stF_inv (g := (smAt p.2.2.2.2.2.1 i, c, ())) hf
    rw [ih1 _ _ i1]
    have i2 := fold_inv (t.gl p.2.2.2.2.2.1 (inn p.2.2.2.2.2.1 i c)) i1
    rw [idle hs i2 (by omega), ih2 _ _ i2]
    have i3 := fold_inv (o.gl p.2.2.2.2.2.1 (inn p.2.2.2.2.2.1 i c)) i2
    rw [idle hs i3 (by omega), ih3 _ _ i3]
theorem inn_ok {p : Pg} (hs : StsOk p) {i : Nat} (hi : i < p.2.2.2.2.2.1.length) {c : List Sm} (hc : ∀ s ∈ c, StOk p s) : ∀ s ∈ inn p.2.2.2.2.2.1 i c, StOk p s := by
  unfold inn
  split
  · intro s h
    rcases List.mem_append.1 h with h | h
    · exact hc s h
    · rw [List.mem_singleton.1 h, smAt_lt hi]; exact hs _ (List.getElem_mem hi)
  · exact hc
theorem gl_ok {p : Pg} (hs : StsOk p) (hb : p.2.2.2.2.2.1.length ≤ 40) {t : Fs} {i j : Nat} (hg : Seg p.2.2.2.2.2.1 t i j) : ∀ (c : List Sm), c.length ≤ i → (∀ s ∈ c, StOk p s) → ∀ g ∈ t.gl p.2.2.2.2.2.1 c, GOk p g := by
  have own : ∀ {i : Nat} {c : List Sm}, i < p.2.2.2.2.2.1.length → c.length ≤ i → (∀ s ∈ c, StOk p s) → GOk p (smAt p.2.2.2.2.2.1 i, c, ()) := by
    intro i c hi hc h
    exact ⟨by rw [smAt_lt hi]; exact hs _ (List.getElem_mem hi), h, by show c.length ≤ 1000; omega⟩
  induction hg with
  | nil => intro c _ _ g hg; cases hg
  | leaf hi ho hr ih =>
    intro c hc hc2 g hg
    rcases List.mem_cons.1 hg with rfl | hg
    · exact own hi hc hc2
    · exact ih c (by omega) hc2 g hg
  | @one t r i e j ho ht he hr ih1 ih2 =>
    intro c hc hc2 g hg
    have h1 := ht.le
    have h3 := opAt_in he (by omega)
    have h4 := inn_len p.2.2.2.2.2.1 i c
    rcases List.mem_cons.1 hg with rfl | hg
    · exact own (by omega) hc hc2
    · rcases List.mem_append.1 hg with hg | hg
      · exact ih1 _ (by omega) (inn_ok hs (by omega) hc2) g hg
      · exact ih2 c (by omega) hc2 g hg
  | @two t o r i m e j ho ht hot he hr ih1 ih2 ih3 =>
    intro c hc hc2 g hg
    have h1 := ht.le
    have h2 := hot.le
    have h3 := opAt_in he (by omega)
    have h4 := inn_len p.2.2.2.2.2.1 i c
    rcases List.mem_cons.1 hg with rfl | hg
    · exact own (by omega) hc hc2
    · rcases List.mem_append.1 hg with hg | hg
      · rcases List.mem_append.1 hg with hg | hg
        · exact ih1 _ (by omega) (inn_ok hs (by omega) hc2) g hg
        · exact ih2 _ (by omega) (inn_ok hs (by omega) hc2) g hg
      · exact ih3 c (by omega) hc2 g hg
/-! ### Labels only grow -/
def pc (a : Int) : Int := a % 2 + a / 2 % 2 + a / 4 % 2
def Gr (a b : Int) : Prop := ∃ x, Lb x ∧ b = un a x
theorem Gr.refl {a : Int} (h : Lb a) : Gr a a := ⟨0, lb0, (un_zero h.1).symm⟩
theorem Gr.up {a x : Int} (h : Lb x) : Gr a (un a x) := ⟨x, h, rfl⟩
theorem Gr.trans {a b c : Int} (h1 : Gr a b) (h2 : Gr b c) : Gr a c := by
  obtain ⟨x, hx, rfl⟩ := h1
  obtain ⟨y, hy, rfl⟩ := h2
  exact ⟨un x y, un_lb hx hy, un_assoc a x y⟩
theorem pc_fin : ∀ a x : Fin 8, (a.val : Int) ≤ un a.val x.val ∧ pc a.val ≤ pc (un a.val x.val) ∧ (un (a.val : Int) (x.val : Int) = a.val ∨ ((a.val : Int) < un a.val x.val ∧ pc a.val < pc (un a.val x.val))) := by
  unfold un pc
  decide
theorem pc_bd (a : Int) : 0 ≤ pc a ∧ pc a ≤ 3 := by unfold pc; omega
theorem Gr.pc {a b : Int} (ha : Lb a) (h : Gr a b) : a ≤ b ∧ pc a ≤ pc b ∧ (b = a ∨ (a < b ∧ Pf.pc a < Pf.pc b)) := by
  obtain ⟨x, hx, rfl⟩ := h
  obtain ⟨n, rfl⟩ : ∃ n : Nat, a = n := ⟨a.toNat, by have := ha.1; omega⟩
  obtain ⟨m, rfl⟩ : ∃ m : Nat, x = m := ⟨x.toNat, by have := hx.1; omega⟩
  exact pc_fin ⟨n, by have := ha.2; omega⟩ ⟨m, by have := hx.2; omega⟩
def GrL : List Int → List Int → Prop
  | [], [] => True
  | a :: l, b :: m => Gr a b ∧ GrL l m
  | _, _ => False
theorem GrL.refl : ∀ {l : List Int}, Lbs l → GrL l l
  | [], _ => trivial
  | a :: l, h => ⟨.refl (h a List.mem_cons_self), GrL.refl fun x hx => h x (List.mem_cons_of_mem _ hx)⟩
theorem GrL.trans : ∀ {l m n : List Int}, GrL l m → GrL m n → GrL l n
  | [], [], [], _, _ => trivial
  | _ :: _, _ :: _, _ :: _, h1, h2 => ⟨h1.1.trans h2.1, GrL.trans h1.2 h2.2⟩
  | [], [], _ :: _, _, h => h.elim
  | [], _ :: _, _, h, _ => h.elim
  | _ :: _, [], _, h, _ => h.elim
  | _ :: _, _ :: _, [], _, h => h.elim
theorem GrL.set : ∀ {l : List Int} (n : Nat) {x : Int} (_ : Lbs l) (h : n < l.length), Lb x → GrL l (l.set n (un l[n] x))
  | a :: l, 0, x, hl, h, hx => ⟨.up hx, .refl fun y hy => hl y (List.mem_cons_of_mem _ hy)⟩
  | a :: l, n + 1, x, hl, h, hx => ⟨.refl (hl a List.mem_cons_self), GrL.set n (fun y hy => hl y (List.mem_cons_of_mem _ hy)) (Nat.lt_of_succ_lt_succ h) hx⟩
def sumI (l : List Int) : Int := l.foldr (· + ·) 0
def sumP (l : List Int) : Int := l.foldr (fun a n => pc a + n) 0
theorem GrL.sum : ∀ {l m : List Int}, Lbs l → GrL l m → sumI l ≤ sumI m ∧ sumP l ≤ sumP m ∧ (m = l ∨ (sumI l < sumI m ∧ sumP l < sumP m))
  | [], [], _, _ => ⟨Int.le_refl _, Int.le_refl _, .inl rfl⟩
  | a :: l, b :: m, hl, h => by
    have h1 := h.1.pc (hl a List.mem_cons_self)
    have h2 := GrL.sum (fun y hy => hl y (List.mem_cons_of_mem _ hy)) h.2
    show a + sumI l ≤ b + sumI m ∧ pc a + sumP l ≤ pc b + sumP m ∧ (b :: m = a :: l ∨ (a + sumI l < b + sumI m ∧ pc a + sumP l < pc b + sumP m))
    refine ⟨by omega, by omega, ?_⟩
    rcases h1.2.2 with e1 | e1
    · rcases h2.2.2 with e2 | e2
      · exact .inl (by rw [e1, e2])
      · exact .inr ⟨by omega, by omega⟩
    · exact .inr ⟨by omega, by omega⟩
  | [], _ :: _, _, h => h.elim
  | _ :: _, [], _, h => h.elim
theorem sumP_bd : ∀ l : List Int, 0 ≤ sumP l ∧ sumP l ≤ 3 * l.length
  | [] => ⟨Int.le_refl _, Int.le_refl _⟩
  | a :: l => by
    have := sumP_bd l
    have := pc_bd a
    show 0 ≤ pc a + sumP l ∧ pc a + sumP l ≤ 3 * ((l.length + 1 : Nat) : Int)
    omega
theorem sumI_bd : ∀ {l : List Int}, Lbs l → 0 ≤ sumI l ∧ sumI l ≤ 8 * l.length
  | [], _ => ⟨Int.le_refl _, Int.le_refl _⟩
  | a :: l, h => by
    have := sumI_bd (fun y hy => h y (List.mem_cons_of_mem _ hy))
    have := h a List.mem_cons_self
    unfold Lb at this
    show 0 ≤ a + sumI l ∧ a + sumI l ≤ 8 * ((l.length + 1 : Nat) : Int)
    omega
structure GrF (f g : FT) : Prop where
  v : GrL f.1 g.1
  a : GrL f.2.1 g.2.1
  e : Gr f.2.2.1 g.2.2.1
  k : Gr f.2.2.2.1 g.2.2.2.1
def sumF (f : FT) : Int := f.2.2.1 + f.2.2.2.1 + sumI f.1 + sumI f.2.1
def potF (f : FT) : Int := pc f.2.2.1 + pc f.2.2.2.1 + sumP f.1 + sumP f.2.1
theorem GrF.refl {p : Pg} {f : FT} (h : Inv p f) : GrF f f := ⟨.refl h.v, .refl h.a, .refl h.e, .refl h.k⟩
theorem GrF.trans {f g h : FT} (h1 : GrF f g) (h2 : GrF g h) : GrF f h := ⟨h1.v.trans h2.v, h1.a.trans h2.a, h1.e.trans h2.e, h1.k.trans h2.k⟩
theorem GrF.sum {p : Pg} {f g : FT} (hf : Inv p f) (h : GrF f g) : g = f ∨ (sumF f < sumF g ∧ potF f < potF g) := by
  have h1 := h.v.sum hf.v
  have h2 := h.a.sum hf.a
  have h3 := h.e.pc hf.e
  have h4 := h.k.pc hf.k
  obtain ⟨V, A, E, K, _⟩ := f
  obtain ⟨V', A', E', K', _⟩ := g
  unfold sumF potF
  dsimp only at *
  rcases h1.2.2 with rfl | e1
  · rcases h2.2.2 with rfl | e2
    · rcases h3.2.2 with rfl | e3
      · rcases h4.2.2 with rfl | e4
        · exact .inl rfl
        · exact .inr ⟨by omega, by omega⟩
      · exact .inr ⟨by omega, by omega⟩
    · exact .inr ⟨by omega, by omega⟩
  · exact .inr ⟨by omega, by omega⟩
theorem stF_gr {p : Pg} (hp : Hd p) {f : FT} {g : Gd} (h : Inv p f) (hg : GOk p g) : GrF f (stF p f g) := by
  have hb := hp.b
  obtain ⟨h1, h2, h3, h4, h5, h6, h7⟩ := h
  have hN := hg.s.2.1
  have hv : Vrs p = Ins p + p.2.2.2.1 := rfl
  have hi : Ins p = (p.2.1.length : Int) + (p.2.2.1.length : Int) := rfl
  unfold NOk at hN
  have c1 := arnd_lb h3 h4 g.2.1 h5
  have c2 := un_lb (un_lb (lab_lb h3 h4 g.1.2.2.2.1) (lab_lb h3 h4 g.1.2.2.1)) c1
  have g1 : Gr f.2.2.1 (if g.1.1 = 7 then un f.2.2.1 (arnd f.1 f.2.1 f.2.2.1 g.2.1) else f.2.2.1) := by
    split
    · exact .up c1
    · exact .refl h5
  have c3 : Lb (if g.1.1 = 7 then un f.2.2.1 (arnd f.1 f.2.1 f.2.2.1 g.2.1) else f.2.2.1) := by
    split
    · exact un_lb h5 c1
    · exact h5
  have g2 : Gr f.2.2.1 (stF p f g).2.2.1 := by
    show Gr f.2.2.1 (bif bo (STrap p g.1) then _ else _)
    cases bo (STrap p g.1)
    · exact g1
    · exact g1.trans (.up c2)
  have c4 : Lb (stF p f g).2.2.1 := (stF_inv ⟨h1, h2, h3, h4, h5, h6, h7⟩).e
  refine ⟨?_, ?_, g2, ?_⟩
  · show GrL f.1 (if g.1.1 = 0 then _ else _)
    split
    · have : g.1.2.1.toNat < f.1.length := by omega
      rw [geti_lt this]
      exact .set _ h3 this c2
    · exact .refl h3
  · show GrL f.2.1 (if g.1.1 = 1 then _ else _)
    split
    · have : g.1.2.1.toNat < f.2.1.length := by omega
      rw [geti_lt this]
      exact .set _ h4 this c2
    · exact .refl h4
  · show Gr f.2.2.2.1 (un (if g.1.1 = 6 then _ else _) (stF p f g).2.2.1)
    split
    · exact (Gr.up c2).trans (.up c4)
    · exact .up c4
theorem fold_gr {p : Pg} (hp : Hd p) : ∀ (l : List Gd), (∀ g ∈ l, GOk p g) → ∀ {f : FT}, Inv p f → GrF f (fold p f l)
  | [], _, f, h => .refl h
  | g :: l, hl, f, h => (stF_gr hp h (hl g List.mem_cons_self)).trans (fold_gr hp l (fun x hx => hl x (List.mem_cons_of_mem _ hx)) (stF_inv h))
end Go.Proofs.Ytafgkoelefpacaa.Pf
