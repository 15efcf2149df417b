/- Rounds of the flow: what the program makes of a list of guarded statements. Its condition: the program is right, labels are below 8. -/
import Derived.Test.YtafgkoelefpacaaPfO
set_option maxHeartbeats 2000000
set_option linter.all false
namespace Go.Proofs.Ytafgkoelefpacaa.Pf
open Go Go.Pv
abbrev Gd := Sm × (List Sm × Unit)
abbrev FT := List Int × (List Int × (Int × (Int × Unit)))
def smAt (b : List Sm) (i : Nat) : Sm := if h : i < b.length then b[i] else (0, 0, [], [], ())
theorem smAt_lt {b : List Sm} {i : Nat} (h : i < b.length) : smAt b i = b[i] := dif_pos h
theorem opAt_sm {b : List Sm} {i : Nat} (h : i < b.length) : opAt b i = (smAt b i).1 := by rw [opAt_lt h, smAt_lt h]
def inn (b : List Sm) (i : Nat) (c : List Sm) : List Sm := if opAt b i = 2 then c ++ [smAt b i] else c
/-- All statements that stand by themselves, with the ifs around. -/
def Fs.gl (b : List Sm) : Fs → List Sm → List Gd
  | .nil, _ => []
  | .leaf i r, c => (smAt b i, c, ()) :: r.gl b c
  | .one i _ t r, c => (smAt b i, c, ()) :: (t.gl b (inn b i c) ++ r.gl b c)
  | .two i _ _ t o r, c => (smAt b i, c, ()) :: (t.gl b (inn b i c) ++ o.gl b (inn b i c) ++ r.gl b c)
theorem gl_len {b : List Sm} {t : Fs} {i j : Nat} (h : Seg b t i j) : ∀ c, (t.gl b c).length ≤ j - i := by
  induction h with
  | nil => intro c; exact Nat.zero_le _
  | leaf hi h hr ih =>
    intro c
    have := ih c
    have := hr.le
    simp only [Fs.gl, List.length_cons]
    omega
  | @one t r i e j h ht he hr ih1 ih2 =>
    intro c
    have := ih1 (inn b i c)
    have := ih2 c
    have := hr.le
    have := ht.le
    simp only [Fs.gl, List.length_cons, List.length_append]
    omega
  | @two t o r i m e j h ht ho he hr ih1 ih2 ih3 =>
    intro c
    have := ih1 (inn b i c)
    have := ih2 (inn b i c)
    have := ih3 c
    have := hr.le
    have := ho.le
    have := ht.le
    simp only [Fs.gl, List.length_cons, List.length_append]
    omega
theorem by117 : ti117.bytes = 32 := rfl
theorem by109 : ti109.bytes = 8 := rfl
theorem inn_len (b : List Sm) (i : Nat) (c : List Sm) : (inn b i c).length ≤ c.length + 1 := by
  unfold inn; split <;> simp
def GdL (p : Pg) (i : Nat) (l0 : List Tr) (c : List Sm) (g : List Gd) : Prop := ∀ d, p.2.2.2.2.2.1.length - i < d → ∀ (l : List Tr) (n : Nat) (acc : List Gd), l.drop n = l0 → n ≤ i → acc.length + g.length ≤ 1000 →
  Tq d (fun k q => impl_guardedIn.L0 (cl k) k p l c q (n : Int) acc) (· = ((acc ++ g, ()), ()))
def GdA (p : Pg) (l0 : List Tr) (c : List Sm) (g : List Gd) : Prop := Ans n_impl_guardedIn s_impl_guardedIn (p, l0, c, ()) ((g, ()), ())
theorem GdL.a {p : Pg} {i : Nat} {l0 : List Tr} {c : List Sm} {g : List Gd} (h : GdL p i l0 c g) (hg : g.length ≤ 1000) : GdA p l0 c g := by
  refine Gv.ans (Gv.of (fun k => impl_guardedIn.F_eq (cl k) k p l0 c) ?_)
  unfold impl_guardedIn.F impl_guardedIn.Fm
  exact Tq.diag (h (p.2.2.2.2.2.1.length - i + 1) (by omega) l0 0 [] rfl (by omega) (by simpa using hg))
theorem gd_nil {p : Pg} {i : Nat} {c : List Sm} : GdL p i [] c [] := by
  intro d hd l n acc hl hn hacc
  obtain ⟨d, rfl⟩ : ∃ d', d = d' + 1 := ⟨d - 1, by omega⟩
  have := drop_nil hl
  refine Tq.succ ?_
  show Tq d (fun k q => impl_guardedIn.step0 (cl k) k p l c (impl_guardedIn.L0 (cl k) k p l c q) (n : Int) acc) _
  unfold impl_guardedIn.step0
  repeat' ((first
   | refine .bt (by first | assumption | (simp (disch := omega) only [zs, w64, zt]; first | done | omega)) ?_
   | refine .bf (by first | assumption | (simp (disch := omega) only [zs, w64, zt]; first | done | omega)) ?_
   | refine .some (lg0 (by omega)) ?_
   | refine .some (lg (by omega)) ?_
   | refine .some (lgI (by omega) (by omega)) ?_
   | (refine .bif (fun zz => ?_) (fun zz => ?_) <;> try simp (disch := omega) only [zs, w64, zt] at zz)) <;> try dsimp only)
  exact Tq.ret (by rw [List.append_nil])
theorem gd_cons {p : Pg} {i i2 : Nat} {l1 l2 l0 : List Tr} {c : List Sm} {g1 g2 g : List Gd} (hb : p.2.2.2.2.2.1.length ≤ 40) (hi : i < p.2.2.2.2.2.1.length) (h2 : i < i2) (hc : c.length ≤ 100) (hg : g1.length ≤ 100 ∧ g2.length ≤ 100 ∧ g.length ≤ 100)
    (h1 : GdA p l1 (inn p.2.2.2.2.2.1 i c) g1) (h3 : GdA p l2 (inn p.2.2.2.2.2.1 i c) g2) (hr : GdL p i2 l0 c g) : GdL p i (.mk i l1 l2 :: l0) c ((smAt p.2.2.2.2.2.1 i, c, ()) :: (g1 ++ g2 ++ g)) := by
  intro d hd l n acc hl hn hacc
  obtain ⟨d, rfl⟩ : ∃ d', d = d' + 1 := ⟨d - 1, by omega⟩
  obtain ⟨k1, k2, k3⟩ := drop_get hl
  simp only [List.length_cons, List.length_append] at hacc
  refine Tq.succ ?_
  show Tq d (fun k q => impl_guardedIn.step0 (cl k) k p l c (impl_guardedIn.L0 (cl k) k p l c q) (n : Int) acc) _
  unfold impl_guardedIn.step0
  rw [Int.toNat_natCast, smAt_lt hi]
  have hr' := hr d (by omega) l (n + 1) (acc ++ ((p.2.2.2.2.2.1[i], c, ()) :: (g1 ++ g2))) k3 (by omega) (by simp; omega)
  rw [show acc ++ (p.2.2.2.2.2.1[i], c, ()) :: (g1 ++ g2) ++ g = acc ++ (p.2.2.2.2.2.1[i], c, ()) :: (g1 ++ g2 ++ g) by simp] at hr'
  by_cases ho : p.2.2.2.2.2.1[i].1 = 2
  · have e1 : inn p.2.2.2.2.2.1 i c = [] ++ c ++ [p.2.2.2.2.2.1[i]] := by unfold inn; rw [opAt_lt hi, if_pos ho, smAt_lt hi]; rfl
    rw [e1] at h1 h3
    repeat' ((first
     | (refine Tq.some k2 ?_; dsimp only [Tr.n, Tr.b, Tr.o])
     | (refine Tq.bt (apb (by simp only [by117, by109, List.length_append, List.length_cons, List.length_nil]; omega)) ?_)
     | refine .ba (h1) ?_
     | refine .ba (h3) ?_
     | refine .bt (by first | assumption | (simp (disch := omega) only [zs, w64, zt]; first | done | omega)) ?_
     | refine .bf (by first | assumption | (simp (disch := omega) only [zs, w64, zt]; first | done | omega)) ?_
     | refine .some (lg0 (by omega)) ?_
     | refine .some (lg (by omega)) ?_
     | refine .some (lgI (by omega) (by omega)) ?_
     | (refine .bif (fun zz => ?_) (fun zz => ?_) <;> try simp (disch := omega) only [zs, w64, zt] at zz)) <;> try dsimp only)
    rw [ws (n := n + 1) (Nat.lt_succ_self n) (by omega)]
    rw [show acc ++ [(p.2.2.2.2.2.1[i], c, ())] ++ g1 ++ g2 = acc ++ (p.2.2.2.2.2.1[i], c, ()) :: (g1 ++ g2) by simp]
    exact hr'
  · have e1 : inn p.2.2.2.2.2.1 i c = c := by unfold inn; rw [opAt_lt hi, if_neg ho]
    rw [e1] at h1 h3
    repeat' ((first
     | (refine Tq.some k2 ?_; dsimp only [Tr.n, Tr.b, Tr.o])
     | (refine Tq.bt (apb (by simp only [by117, by109, List.length_append, List.length_cons, List.length_nil]; omega)) ?_)
     | refine .ba (h1) ?_
     | refine .ba (h3) ?_
     | refine .bt (by first | assumption | (simp (disch := omega) only [zs, w64, zt]; first | done | omega)) ?_
     | refine .bf (by first | assumption | (simp (disch := omega) only [zs, w64, zt]; first | done | omega)) ?_
     | refine .some (lg0 (by omega)) ?_
     | refine .some (lg (by omega)) ?_
     | refine .some (lgI (by omega) (by omega)) ?_
     | (refine .bif (fun zz => ?_) (fun zz => ?_) <;> try simp (disch := omega) only [zs, w64, zt] at zz)) <;> try dsimp only)
    rw [ws (n := n + 1) (Nat.lt_succ_self n) (by omega)]
    rw [show acc ++ [(p.2.2.2.2.2.1[i], c, ())] ++ g1 ++ g2 = acc ++ (p.2.2.2.2.2.1[i], c, ()) :: (g1 ++ g2) by simp]
    exact hr'
theorem gd_seg {p : Pg} (hb : p.2.2.2.2.2.1.length ≤ 40) {t : Fs} {i j : Nat} (h : Seg p.2.2.2.2.2.1 t i j) : ∀ c, c.length ≤ i → GdL p i t.trs c (t.gl p.2.2.2.2.2.1 c) := by
  induction h with
  | nil => intro c _; exact gd_nil
  | @leaf r i j hi h hr ih =>
    intro c hc
    have := hr.le
    have g := gl_len hr c
    exact gd_cons (g1 := []) (g2 := []) hb hi (Nat.lt_succ_self i) (by omega) ⟨by simp, by simp, by omega⟩ ((gd_nil (i := 0)).a (by simp)) ((gd_nil (i := 0)).a (by simp)) (ih c (by omega))
  | @one t r i e j h ht he hr ih1 ih2 =>
    intro c hc
    have h1 := ht.le
    have h2 := opAt_in he (by omega)
    have h0 := hr.le
    have g1 := gl_len ht (inn p.2.2.2.2.2.1 i c)
    have g2 := gl_len hr c
    have g3 := inn_len p.2.2.2.2.2.1 i c
    have := gd_cons (g2 := []) hb (by omega) (show i < e + 1 by omega) (by omega) ⟨by omega, by simp, by omega⟩ ((ih1 (inn p.2.2.2.2.2.1 i c) (by omega)).a (by omega)) ((gd_nil (i := 0)).a (by simp)) (ih2 c (by omega))
    rw [List.append_nil] at this
    exact this
  | @two t o r i m e j h ht ho he hr ih1 ih2 ih3 =>
    intro c hc
    have h1 := ht.le
    have h3 := ho.le
    have h2 := opAt_in he (by omega)
    have h0 := hr.le
    have g1 := gl_len ht (inn p.2.2.2.2.2.1 i c)
    have g2 := gl_len ho (inn p.2.2.2.2.2.1 i c)
    have g3 := gl_len hr c
    have g4 := inn_len p.2.2.2.2.2.1 i c
    exact gd_cons hb (by omega) (show i < e + 1 by omega) (by omega) ⟨by omega, by omega, by omega⟩ ((ih1 (inn p.2.2.2.2.2.1 i c) (by omega)).a (by omega)) ((ih2 (inn p.2.2.2.2.2.1 i c) (by omega)).a (by omega)) (ih3 c (by omega))
/-! ### What a statement wants in the labels -/
def arnd (V A : List Int) (n : Int) (l : List Sm) : Int := l.foldl (fun n s => un n (lab V A s.2.2.2.1)) n
theorem arnd_lb {V A : List Int} (hV : Lbs V) (hA : Lbs A) : ∀ (l : List Sm) {n : Int}, Lb n → Lb (arnd V A n l)
  | [], n, hn => hn
  | s :: l, n, hn => arnd_lb hV hA l (un_lb hn (lab_lb hV hA _))
theorem arnd_app (V A : List Int) (n : Int) (l m : List Sm) : arnd V A n (l ++ m) = arnd V A (arnd V A n l) m := List.foldl_append
theorem arnd_un (V A : List Int) : ∀ (l : List Sm) (n x : Int), arnd V A (un x n) l = un x (arnd V A n l)
  | [], n, x => rfl
  | s :: l, n, x => by
    show arnd V A (un (un x n) _) l = un x (arnd V A (un n _) l)
    rw [un_assoc, arnd_un V A l]
noncomputable def stF (p : Pg) (f : FT) (g : Gd) : FT :=
  let ctx := arnd f.1 f.2.1 f.2.2.1 g.2.1
  let own := un (un (lab f.1 f.2.1 g.1.2.2.2.1) (lab f.1 f.2.1 g.1.2.2.1)) ctx
  let V := if g.1.1 = 0 then f.1.set g.1.2.1.toNat (un (geti f.1 g.1.2.1) own) else f.1
  let A := if g.1.1 = 1 then f.2.1.set g.1.2.1.toNat (un (geti f.2.1 g.1.2.1) own) else f.2.1
  let K := if g.1.1 = 6 then un f.2.2.2.1 own else f.2.2.2.1
  let E := if g.1.1 = 7 then un f.2.2.1 ctx else f.2.2.1
  let E2 := bif bo (STrap p g.1) then un E own else E
  (V, A, E2, un K E2, ())
structure Inv (p : Pg) (f : FT) : Prop where
  lv : (f.1.length : Int) = Vrs p
  la : f.2.1.length = p.2.2.2.2.1.length
  v : Lbs f.1
  a : Lbs f.2.1
  e : Lb f.2.2.1
  k : Lb f.2.2.2.1
  ek : un f.2.2.2.1 f.2.2.1 = f.2.2.2.1
structure GOk (p : Pg) (g : Gd) : Prop where
  s : StOk p g.1
  c : ∀ s ∈ g.2.1, StOk p s
  l : g.2.1.length ≤ 1000
theorem Lbs.set {l : List Int} (h : Lbs l) (n : Nat) {x : Int} (hx : Lb x) : Lbs (l.set n x) := by
  intro y hy
  rcases List.mem_or_eq_of_mem_set hy with h1 | rfl
  · exact h y h1
  · exact hx
theorem stF_inv {p : Pg} {f : FT} {g : Gd} (h : Inv p f) : Inv p (stF p f g) := by
  obtain ⟨h1, h2, h3, h4, h5, h6, h7⟩ := h
  have c1 := arnd_lb h3 h4 g.2.1 h5
  have c2 := un_lb (un_lb (lab_lb h3 h4 g.1.2.2.2.1) (lab_lb h3 h4 g.1.2.2.1)) c1
  unfold stF
  dsimp only
  generalize hE : (bif bo (STrap p g.1) then un (if g.1.1 = 7 then un f.2.2.1 (arnd f.1 f.2.1 f.2.2.1 g.2.1) else f.2.2.1) (un (un (lab f.1 f.2.1 g.1.2.2.2.1) (lab f.1 f.2.1 g.1.2.2.1)) (arnd f.1 f.2.1 f.2.2.1 g.2.1)) else (if g.1.1 = 7 then un f.2.2.1 (arnd f.1 f.2.1 f.2.2.1 g.2.1) else f.2.2.1)) = E2
  generalize hK : (if g.1.1 = 6 then un f.2.2.2.1 (un (un (lab f.1 f.2.1 g.1.2.2.2.1) (lab f.1 f.2.1 g.1.2.2.1)) (arnd f.1 f.2.1 f.2.2.1 g.2.1)) else f.2.2.2.1) = K
  have c3 : Lb (if g.1.1 = 7 then un f.2.2.1 (arnd f.1 f.2.1 f.2.2.1 g.2.1) else f.2.2.1) := by
    split
    · exact un_lb h5 c1
    · exact h5
  have c4 : Lb E2 := by
    rw [← hE]
    cases bo (STrap p g.1)
    · exact c3
    · exact un_lb c3 c2
  have c5 : Lb K := by
    rw [← hK]
    split
    · exact un_lb h6 c2
    · exact h6
  refine ⟨?_, ?_, ?_, ?_, c4, un_lb c5 c4, ?_⟩
  · show (List.length (if g.1.1 = 0 then _ else _) : Int) = _
    split
    · rw [List.length_set]; exact h1
    · exact h1
  · show List.length (if g.1.1 = 1 then _ else _) = _
    split
    · rw [List.length_set]; exact h2
    · exact h2
  · show Lbs (if g.1.1 = 0 then _ else _)
    split
    · exact h3.set _ (un_lb (geti_lb h3 _) c2)
    · exact h3
  · show Lbs (if g.1.1 = 1 then _ else _)
    split
    · exact h4.set _ (un_lb (geti_lb h4 _) c2)
    · exact h4
  · show un (un K E2) E2 = un K E2
    rw [un_assoc, un_self c4.1]
theorem iRound_loop {p : Pg} {f : FT} {g : Gd} (h : Inv p f) (hg : GOk p g) {P : Unit × (FT × Unit) → Prop} {d0 : Nat}
    (H : Tq d0 (fun k q => impl_Flow_round.L0 (cl k) k p g q (arnd f.1 f.2.1 f.2.2.1 g.2.1) (g.2.1.length : Int) f.2.1 f.1 f.2.2.1 f.2.2.2.1) P) :
    ∀ (d j : Nat) (n : Int), g.2.1.length - j = d → j ≤ g.2.1.length → Lb n → arnd f.1 f.2.1 n (g.2.1.drop j) = arnd f.1 f.2.1 f.2.2.1 g.2.1 →
      Tq (d0 + d) (fun k q => impl_Flow_round.L0 (cl k) k p g q n (j : Int) f.2.1 f.1 f.2.2.1 f.2.2.2.1) P := by
  obtain ⟨h1, h2, h3, h4, h5, h6, h7⟩ := h
  obtain ⟨V, A, E, K, _⟩ := f
  have hl := hg.l
  intro d
  induction d with
  | zero =>
    intro j n hd hj hn he
    obtain rfl : j = g.2.1.length := by omega
    rw [List.drop_of_length_le (Nat.le_refl _)] at he
    rw [show n = arnd V A E g.2.1 from he]
    exact H
  | succ d ih =>
    intro j n hd hj hn he
    have hj : j < g.2.1.length := by omega
    have h8 := hg.c _ (List.getElem_mem hj)
    have hx := iLab_ans V A E K h3 h4 g.2.1[j].2.2.2.1 (h8.sub.2.idx h1 h2)
    refine Tq.succ ?_
    show Tq (d0 + d) (fun k q => impl_Flow_round.step0 (cl k) k p g (impl_Flow_round.L0 (cl k) k p g q) n (j : Int) A V E K) _
    unfold impl_Flow_round.step0
    refine Tq.bt (dlt hj) (Tq.bt (dle0 _) (Tq.some (lg hj) (Tq.bind hx.tq ?_)))
    rintro y rfl
    dsimp only
    have h9 := lab_lb h3 h4 g.2.1[j].2.2.2.1
    rw [or_lb hn h9, ws hj (by omega)]
    refine ih (j + 1) _ (by omega) (by omega) (un_lb hn h9) ?_
    rw [List.drop_eq_getElem_cons hj] at he
    exact he
theorem iRound_ans {p : Pg} (hp : Hd p) {f : FT} {g : Gd} (h : Inv p f) (hg : GOk p g) : Ans n_impl_Flow_round s_impl_Flow_round (f, p, g, ()) ((), stF p f g, ()) := by
  refine Gv.ans (Gv.of (fun k => impl_Flow_round.F_eq (cl k) k f p g) ?_)
  unfold impl_Flow_round.F impl_Flow_round.Fm
  refine Tq.diag (iRound_loop h hg (d0 := 1) ?_ _ 0 f.2.2.1 rfl (Nat.zero_le _) h.e rfl)
  have hb := hp.b
  obtain ⟨h1, h2, h3, h4, h5, h6, h7⟩ := h
  obtain ⟨V, A, E, K, _⟩ := f
  have hN := hg.s.2.1
  have hv : Vrs p = Ins p + p.2.2.2.1 := rfl
  have hi : Ins p = (p.2.1.length : Int) + (p.2.2.1.length : Int) := rfl
  unfold NOk at hN
  dsimp only at *
  have x1 := iLab_ans V A E K h3 h4 g.1.2.2.2.1 (hg.s.sub.2.idx h1 h2)
  have x2 := iLab_ans V A E K h3 h4 g.1.2.2.1 (hg.s.sub.1.idx h1 h2)
  have b1 := lab_lb h3 h4 g.1.2.2.2.1
  have b2 := lab_lb h3 h4 g.1.2.2.1
  have b3 := arnd_lb h3 h4 g.2.1 h5
  have x3 := iSTrap_ans p hp g.1 hg.s
  have b4 := un_lb b1 b2
  have b5 := un_lb b4 b3
  refine Tq.succ (d := 0) ?_
  show Tq 0 (fun k q => impl_Flow_round.step0 (cl k) k p g (impl_Flow_round.L0 (cl k) k p g q) (arnd V A E g.2.1) (g.2.1.length : Int) A V E K) _
  unfold impl_Flow_round.step0
  refine Tq.bf (decide_eq_false (by omega)) (Tq.bind x1.tq ?_)
  rintro y rfl
  dsimp only
  refine Tq.bind x2.tq ?_
  rintro y rfl
  dsimp only
  unfold stF
  dsimp only
  rw [or_lb b1 b2, or_lb b4 b3]
  have q1 : ∀ (n : Int) (x : Int), 0 ≤ n → n < V.length → Lb x → bitsI .or .i64 (geti V n) x = un (geti V n) x := fun n x _ _ hx => or_lb (geti_lb h3 n) hx
  have q2 : ∀ (n : Int) (x : Int), 0 ≤ n → n < A.length → Lb x → bitsI .or .i64 (geti A n) x = un (geti A n) x := fun n x _ _ hx => or_lb (geti_lb h4 n) hx
  by_cases c0 : g.1.1 = 0
  · repeat' ((first
   | refine .ba (x3) ?_
   | refine .bt (by first | assumption | (simp (disch := omega) only [zs, w64, zt]; first | done | omega)) ?_
   | refine .bf (by first | assumption | (simp (disch := omega) only [zs, w64, zt]; first | done | omega)) ?_
   | refine .some (lg0 (by omega)) ?_
   | refine .some (lg (by omega)) ?_
   | refine .some (lgI (by omega) (by omega)) ?_
   | (refine .bif (fun zz => ?_) (fun zz => ?_) <;> try simp (disch := omega) only [zs, w64, zt] at zz)) <;> try dsimp only)
    all_goals
      rw [if_pos c0, if_neg (by omega), if_neg (by omega), if_neg (by omega), ← geti_lt (l := V) (n := g.1.2.1) (by omega), or_lb (geti_lb h3 _) b5]
    · rw [bo_t (by assumption), or_lb h5 b5, or_lb h6 (un_lb h5 b5)]
      exact Tq.ret rfl
    · rw [bo_f (by assumption), or_lb h6 h5]
      exact Tq.ret rfl
  by_cases c1 : g.1.1 = 1
  · repeat' ((first
   | refine .ba (x3) ?_
   | refine .bt (by first | assumption | (simp (disch := omega) only [zs, w64, zt]; first | done | omega)) ?_
   | refine .bf (by first | assumption | (simp (disch := omega) only [zs, w64, zt]; first | done | omega)) ?_
   | refine .some (lg0 (by omega)) ?_
   | refine .some (lg (by omega)) ?_
   | refine .some (lgI (by omega) (by omega)) ?_
   | (refine .bif (fun zz => ?_) (fun zz => ?_) <;> try simp (disch := omega) only [zs, w64, zt] at zz)) <;> try dsimp only)
    all_goals
      rw [if_neg c0, if_pos c1, if_neg (by omega), if_neg (by omega), ← geti_lt (l := A) (n := g.1.2.1) (by omega), or_lb (geti_lb h4 _) b5]
    · rw [bo_t (by assumption), or_lb h5 b5, or_lb h6 (un_lb h5 b5)]
      exact Tq.ret rfl
    · rw [bo_f (by assumption), or_lb h6 h5]
      exact Tq.ret rfl
  by_cases c6 : g.1.1 = 6
  · repeat' ((first
   | refine .ba (x3) ?_
   | refine .bt (by first | assumption | (simp (disch := omega) only [zs, w64, zt]; first | done | omega)) ?_
   | refine .bf (by first | assumption | (simp (disch := omega) only [zs, w64, zt]; first | done | omega)) ?_
   | refine .some (lg0 (by omega)) ?_
   | refine .some (lg (by omega)) ?_
   | refine .some (lgI (by omega) (by omega)) ?_
   | (refine .bif (fun zz => ?_) (fun zz => ?_) <;> try simp (disch := omega) only [zs, w64, zt] at zz)) <;> try dsimp only)
    all_goals
      rw [if_neg c0, if_neg c1, if_pos c6, if_neg (by omega), or_lb h6 b5]
    · rw [bo_t (by assumption), or_lb h5 b5, or_lb (un_lb h6 b5) (un_lb h5 b5)]
      exact Tq.ret rfl
    · rw [bo_f (by assumption), or_lb (un_lb h6 b5) h5]
      exact Tq.ret rfl
  by_cases c7 : g.1.1 = 7
  · repeat' ((first
   | refine .ba (x3) ?_
   | refine .bt (by first | assumption | (simp (disch := omega) only [zs, w64, zt]; first | done | omega)) ?_
   | refine .bf (by first | assumption | (simp (disch := omega) only [zs, w64, zt]; first | done | omega)) ?_
   | refine .some (lg0 (by omega)) ?_
   | refine .some (lg (by omega)) ?_
   | refine .some (lgI (by omega) (by omega)) ?_
   | (refine .bif (fun zz => ?_) (fun zz => ?_) <;> try simp (disch := omega) only [zs, w64, zt] at zz)) <;> try dsimp only)
    all_goals
      rw [if_neg c0, if_neg c1, if_neg c6, if_pos c7, or_lb h5 b3]
    · rw [bo_t (by assumption), or_lb (un_lb h5 b3) b5, or_lb h6 (un_lb (un_lb h5 b3) b5)]
      exact Tq.ret rfl
    · rw [bo_f (by assumption), or_lb h6 (un_lb h5 b3)]
      exact Tq.ret rfl
  · repeat' ((first
   | refine .ba (x3) ?_
   | refine .bt (by first | assumption | (simp (disch := omega) only [zs, w64, zt]; first | done | omega)) ?_
   | refine .bf (by first | assumption | (simp (disch := omega) only [zs, w64, zt]; first | done | omega)) ?_
   | refine .some (lg0 (by omega)) ?_
   | refine .some (lg (by omega)) ?_
   | refine .some (lgI (by omega) (by omega)) ?_
   | (refine .bif (fun zz => ?_) (fun zz => ?_) <;> try simp (disch := omega) only [zs, w64, zt] at zz)) <;> try dsimp only)
    all_goals
      rw [if_neg c0, if_neg c1, if_neg c6, if_neg c7]
    · rw [bo_t (by assumption), or_lb h5 b5, or_lb h6 (un_lb h5 b5)]
      exact Tq.ret rfl
    · rw [bo_f (by assumption), or_lb h6 h5]
      exact Tq.ret rfl
end Go.Proofs.Ytafgkoelefpacaa.Pf
