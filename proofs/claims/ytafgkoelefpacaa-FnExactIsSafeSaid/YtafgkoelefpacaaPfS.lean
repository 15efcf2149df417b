/- The flow of a program, and whether a secret is quiet: both sides answer the same. Its condition: no list is longer than a law looks at. -/
import Derived.Test.YtafgkoelefpacaaPfR
set_option maxHeartbeats 2000000
set_option linter.all false
namespace Go.Proofs.Ytafgkoelefpacaa.Pf
open Go Go.Pv
theorem mkI {x b : Int} (h0 : 0 ≤ x) (h : x * b ≤ 281474976710656) : (decide (x = x) && decide (0 ≤ x) && decide (x * b ≤ 281474976710656)) = true := by
  rw [decide_eq_true rfl, decide_eq_true h0, decide_eq_true h]; rfl
theorem sumI_drop {a : List Int} {j : Nat} (hj : j < a.length) : sumI (a.drop j) = a[j] + sumI (a.drop (j + 1)) := by
  rw [List.drop_eq_getElem_cons hj]; rfl
theorem sumI_end {a : List Int} {j : Nat} (hj : a.length ≤ j) : sumI (a.drop j) = 0 := by
  rw [List.drop_of_length_le hj]; rfl
theorem sum_loop1 (f : FT) (h : Lbs f.2.1) (hl : f.2.1.length ≤ 20) : ∀ (d j : Nat) (n : Int), f.2.1.length - j = d → 0 ≤ n → n + 8 * d ≤ 1000 →
    Tq (d + 1) (fun k q => impl_Flow_sum.L1 (cl k) k f q n (j : Int)) (· = ((n + sumI (f.2.1.drop j), ()), f, ())) := by
  intro d
  induction d with
  | zero =>
    intro j n hd h0 hn
    refine Tq.succ ?_
    show Tq 0 (fun k q => impl_Flow_sum.step1 (cl k) k f (impl_Flow_sum.L1 (cl k) k f q) n (j : Int)) _
    unfold impl_Flow_sum.step1
    repeat' ((first
     | refine .bt (by first | assumption | (simp (disch := omega) only [zs, w64, zt]; first | done | omega)) ?_
     | refine .bf (by first | assumption | (simp (disch := omega) only [zs, w64, zt]; first | done | omega)) ?_
     | refine .some (lg0 (by omega)) ?_
     | refine .some (lg (by omega)) ?_
     | refine .some (lgI (by omega) (by omega)) ?_
     | (refine .bif (fun zz => ?_) (fun zz => ?_) <;> try simp (disch := omega) only [zs, w64, zt] at zz)) <;> try dsimp only)
    rw [sumI_end (by omega), Int.add_zero]
    exact Tq.ret rfl
  | succ d ih =>
    intro j n hd h0 hn
    have hj : j < f.2.1.length := by omega
    have h1 := h _ (List.getElem_mem hj)
    unfold Lb at h1
    refine Tq.succ ?_
    show Tq (d + 1) (fun k q => impl_Flow_sum.step1 (cl k) k f (impl_Flow_sum.L1 (cl k) k f q) n (j : Int)) _
    unfold impl_Flow_sum.step1
    rw [sumI_drop hj, ← Int.add_assoc]
    repeat' ((first
     | refine .bt (by first | assumption | (simp (disch := omega) only [zs, w64, zt]; first | done | omega)) ?_
     | refine .bf (by first | assumption | (simp (disch := omega) only [zs, w64, zt]; first | done | omega)) ?_
     | refine .some (lg0 (by omega)) ?_
     | refine .some (lg (by omega)) ?_
     | refine .some (lgI (by omega) (by omega)) ?_
     | (refine .bif (fun zz => ?_) (fun zz => ?_) <;> try simp (disch := omega) only [zs, w64, zt] at zz)) <;> try dsimp only)
    rw [ws hj (by omega), w64 (by omega) (by omega)]
    exact ih (j + 1) _ (by omega) (by omega) (by omega)
theorem sum_loop0 (f : FT) (h0 : Lbs f.1) (hl0 : f.1.length ≤ 20) (h : Lbs f.2.1) (hl : f.2.1.length ≤ 20) : ∀ (d j : Nat) (n : Int), f.1.length - j = d → 0 ≤ n → n + 8 * d ≤ 500 →
    Tq (d + 1) (fun k q => impl_Flow_sum.L0 (cl k) k f q n (j : Int)) (· = ((n + sumI (f.1.drop j) + sumI f.2.1, ()), f, ())) := by
  intro d
  induction d with
  | zero =>
    intro j n hd h1 hn
    refine Tq.succ ?_
    show Tq 0 (fun k q => impl_Flow_sum.step0 (cl k) k f (fun a0_ v1_0_ v1_2_ => impl_Flow_sum.L1 (cl k) k a0_ k v1_0_ v1_2_) (impl_Flow_sum.L0 (cl k) k f q) n (j : Int)) _
    unfold impl_Flow_sum.step0
    repeat' ((first
     | refine .bt (by first | assumption | (simp (disch := omega) only [zs, w64, zt]; first | done | omega)) ?_
     | refine .bf (by first | assumption | (simp (disch := omega) only [zs, w64, zt]; first | done | omega)) ?_
     | refine .some (lg0 (by omega)) ?_
     | refine .some (lg (by omega)) ?_
     | refine .some (lgI (by omega) (by omega)) ?_
     | (refine .bif (fun zz => ?_) (fun zz => ?_) <;> try simp (disch := omega) only [zs, w64, zt] at zz)) <;> try dsimp only)
    rw [sumI_end (by omega), Int.add_zero]
    exact Tq.diag (sum_loop1 f h hl _ 0 n rfl (by omega) (by omega))
  | succ d ih =>
    intro j n hd h1 hn
    have hj : j < f.1.length := by omega
    have h2 := h0 _ (List.getElem_mem hj)
    unfold Lb at h2
    refine Tq.succ ?_
    show Tq (d + 1) (fun k q => impl_Flow_sum.step0 (cl k) k f (fun a0_ v1_0_ v1_2_ => impl_Flow_sum.L1 (cl k) k a0_ k v1_0_ v1_2_) (impl_Flow_sum.L0 (cl k) k f q) n (j : Int)) _
    unfold impl_Flow_sum.step0
    rw [sumI_drop hj, ← Int.add_assoc]
    repeat' ((first
     | refine .bt (by first | assumption | (simp (disch := omega) only [zs, w64, zt]; first | done | omega)) ?_
     | refine .bf (by first | assumption | (simp (disch := omega) only [zs, w64, zt]; first | done | omega)) ?_
     | refine .some (lg0 (by omega)) ?_
     | refine .some (lg (by omega)) ?_
     | refine .some (lgI (by omega) (by omega)) ?_
     | (refine .bif (fun zz => ?_) (fun zz => ?_) <;> try simp (disch := omega) only [zs, w64, zt] at zz)) <;> try dsimp only)
    rw [ws hj (by omega), w64 (by omega) (by omega)]
    exact ih (j + 1) _ (by omega) (by omega) (by omega)
theorem Inv.bd {p : Pg} (hp : Hd p) {f : FT} (h : Inv p f) : f.1.length ≤ 12 ∧ f.2.1.length ≤ 2 := by
  have hb := hp.b
  have h1 := h.lv
  have h2 := h.la
  have hv : Vrs p = (p.2.1.length : Int) + (p.2.2.1.length : Int) + p.2.2.2.1 := rfl
  omega
theorem sum_ans {p : Pg} (hp : Hd p) {f : FT} (h : Inv p f) : Ans n_impl_Flow_sum s_impl_Flow_sum (f, ()) ((sumF f, ()), f, ()) := by
  have hb := h.bd hp
  have h1 := h.e
  have h2 := h.k
  unfold Lb at h1 h2
  refine Gv.ans (Gv.of (fun k => impl_Flow_sum.F_eq (cl k) k f) ?_)
  unfold impl_Flow_sum.F impl_Flow_sum.Fm
  rw [w64 (by omega) (by omega)]
  exact Tq.diag (sum_loop0 f h.v (by omega) h.a (by omega) _ 0 _ rfl (by omega) (by omega))
/-! ### Rounds, one after the other -/
noncomputable def rnd (p : Pg) (t : Fs) (f : FT) : FT := fold p f (t.gl p.2.2.2.2.2.1 [])
noncomputable def itr (p : Pg) (t : Fs) : Nat → FT → FT
  | 0, f => f
  | n + 1, f => itr p t n (rnd p t f)
theorem itr_inv {p : Pg} {t : Fs} : ∀ (n : Nat) {f : FT}, Inv p f → Inv p (itr p t n f)
  | 0, f, h => h
  | n + 1, f, h => itr_inv n (fold_inv _ h)
theorem itr_add (p : Pg) (t : Fs) : ∀ (a b : Nat) (f : FT), itr p t (a + b) f = itr p t b (itr p t a f)
  | 0, b, f => by rw [Nat.zero_add]; rfl
  | a + 1, b, f => by
    rw [show a + 1 + b = (a + b) + 1 by omega]
    exact itr_add p t a b (rnd p t f)
theorem itr_fix {p : Pg} {t : Fs} {g : FT} (h : rnd p t g = g) : ∀ n, itr p t n g = g
  | 0 => rfl
  | n + 1 => by
    show itr p t n (rnd p t g) = g
    rw [h]; exact itr_fix h n
/-- One pass of the program over its list. -/
theorem pass {p : Pg} (hp : Hd p) (y4 : (List Gd × Unit) × Unit) (y6 : (Int × Unit) × (FT × Unit)) (hl : y4.1.1.length ≤ 100) (hg : ∀ g ∈ y4.1.1, GOk p g) {α : Type} {d : Nat} {P : (FT × Unit) × Unit → Prop}
    (r1 : Nat → Nat → Int → List Int → List Int → Int → Int → Option ((FT × Unit) × Unit)) : ∀ (c j : Nat) (f : FT), y4.1.1.length - j = c → Inv p f →
    (∀ f', f' = fold p f (y4.1.1.drop j) → Tq d (fun k q => r1 k q y6.1.1 f'.2.1 f'.1 f'.2.2.1 f'.2.2.2.1) P) → ∀ (m : Nat → Nat) (N : Nat), (∀ k, N ≤ k → c + 1 ≤ m k) →
    Tq d (fun k q => impl_FlowOf.L2 (cl k) k p y4 y6 (r1 k q) (m k) (j : Int) f.2.1 f.1 f.2.2.1 f.2.2.2.1) P := by
  intro c
  induction c with
  | zero =>
    intro j f hc hf H m N hm
    refine Tq.evEq (g := fun k q => impl_FlowOf.step2 (cl k) k p y4 y6 (r1 k q) (impl_FlowOf.L2 (cl k) k p y4 y6 (r1 k q) (m k - 1)) (j : Int) f.2.1 f.1 f.2.2.1 f.2.2.2.1) ⟨N, fun k hk q _ => ?_⟩ ?_
    · have := hm k hk
      obtain ⟨x, hx⟩ : ∃ x, m k = x + 1 := ⟨m k - 1, by omega⟩
      rw [hx]; rfl
    unfold impl_FlowOf.step2
    repeat' ((first
     | refine .bt (by first | assumption | (simp (disch := omega) only [zs, w64, zt]; first | done | omega)) ?_
     | refine .bf (by first | assumption | (simp (disch := omega) only [zs, w64, zt]; first | done | omega)) ?_
     | refine .some (lg0 (by omega)) ?_
     | refine .some (lg (by omega)) ?_
     | refine .some (lgI (by omega) (by omega)) ?_
     | (refine .bif (fun zz => ?_) (fun zz => ?_) <;> try simp (disch := omega) only [zs, w64, zt] at zz)) <;> try dsimp only)
    have := H f (by rw [List.drop_of_length_le (by omega)]; rfl)
    exact this
  | succ c ih =>
    intro j f hc hf H m N hm
    have hj : j < y4.1.1.length := by omega
    refine Tq.evEq (g := fun k q => impl_FlowOf.step2 (cl k) k p y4 y6 (r1 k q) (impl_FlowOf.L2 (cl k) k p y4 y6 (r1 k q) (m k - 1)) (j : Int) f.2.1 f.1 f.2.2.1 f.2.2.2.1) ⟨N, fun k hk q _ => ?_⟩ ?_
    · have := hm k hk
      obtain ⟨x, hx⟩ : ∃ x, m k = x + 1 := ⟨m k - 1, by omega⟩
      rw [hx]; rfl
    unfold impl_FlowOf.step2
    have hr := iRound_ans hp hf (hg _ (List.getElem_mem hj))
    have hr : Ans n_impl_Flow_round s_impl_Flow_round ((f.1, f.2.1, f.2.2.1, f.2.2.2.1, ()), p, y4.1.1[j], ()) ((), stF p f y4.1.1[j], ()) := hr
    repeat' ((first
     | refine .ba (hr) ?_
     | refine .bt (by first | assumption | (simp (disch := omega) only [zs, w64, zt]; first | done | omega)) ?_
     | refine .bf (by first | assumption | (simp (disch := omega) only [zs, w64, zt]; first | done | omega)) ?_
     | refine .some (lg0 (by omega)) ?_
     | refine .some (lg (by omega)) ?_
     | refine .some (lgI (by omega) (by omega)) ?_
     | (refine .bif (fun zz => ?_) (fun zz => ?_) <;> try simp (disch := omega) only [zs, w64, zt] at zz)) <;> try dsimp only)
    rw [ws hj (by omega)]
    refine ih (j + 1) (stF p f y4.1.1[j]) (by omega) (stF_inv hf) (fun f' hf' => H f' ?_) (fun k => m k - 1) N (fun k hk => by have := hm k hk; show c + 1 ≤ m k - 1; omega)
    rw [List.drop_eq_getElem_cons hj]
    exact hf'
theorem potF_bd {p : Pg} {f : FT} (h : Inv p f) : 0 ≤ potF f ∧ potF f ≤ 3 * (Vrs p + p.2.2.2.2.1.length + 2) := by
  have h1 := h.lv
  have h2 := h.la
  have := sumP_bd f.1
  have := sumP_bd f.2.1
  have := pc_bd f.2.2.1
  have := pc_bd f.2.2.2.1
  unfold potF
  omega
section
variable {p : Pg} (hp : Hd p) (hs : StsOk p) {t : Fs} (hg : Seg p.2.2.2.2.2.1 t 0 p.2.2.2.2.2.1.length)
include hp hs hg
theorem rnd_gr {f : FT} (h : Inv p f) : GrF f (rnd p t f) := fold_gr hp _ (gl_ok hs hp.b.2.2.2.1 hg [] (Nat.zero_le _) (fun s h => by cases h)) h
omit hs hg in
theorem flow_stop {f : FT} (h : Inv p f) (y4 : (List Gd × Unit) × Unit) (d : Nat) : Tq (d + 1) (fun k q => impl_FlowOf.L1 (cl k) k p y4 q (sumF f) f.2.1 f.1 f.2.2.1 f.2.2.2.1) (· = ((f, ()), ())) := by
  have hx : Ans n_impl_Flow_sum s_impl_Flow_sum ((f.1, f.2.1, f.2.2.1, f.2.2.2.1, ()), ()) ((sumF f, ()), f, ()) := sum_ans hp h
  refine Tq.succ ?_
  show Tq d (fun k q => impl_FlowOf.step1 (cl k) k p y4 (fun a0_ y4_ y6_ v2_3_ v2_5_ v2_6_ v2_7_ v2_8_ => impl_FlowOf.L2 (cl k) k a0_ y4_ y6_ (impl_FlowOf.L1 (cl k) k p y4 q) k v2_3_ v2_5_ v2_6_ v2_7_ v2_8_) (impl_FlowOf.L1 (cl k) k p y4 q) (sumF f) f.2.1 f.1 f.2.2.1 f.2.2.2.1) _
  unfold impl_FlowOf.step1
  repeat' ((first
   | refine .ba (hx) ?_
   | refine .bt (by first | assumption | (simp (disch := omega) only [zs, w64, zt]; first | done | omega)) ?_
   | refine .bf (by first | assumption | (simp (disch := omega) only [zs, w64, zt]; first | done | omega)) ?_
   | refine .some (lg0 (by omega)) ?_
   | refine .some (lg (by omega)) ?_
   | refine .some (lgI (by omega) (by omega)) ?_
   | (refine .bif (fun zz => ?_) (fun zz => ?_) <;> try simp (disch := omega) only [zs, w64, zt] at zz)) <;> try dsimp only)
  exact Tq.ret rfl
theorem flow_pass {f : FT} (h : Inv p f) {b : Int} (hb : b ≠ sumF f) {d : Nat} {P : (FT × Unit) × Unit → Prop}
    (H : Tq d (fun k q => impl_FlowOf.L1 (cl k) k p ((t.gl p.2.2.2.2.2.1 [], ()), ()) q (sumF f) (rnd p t f).2.1 (rnd p t f).1 (rnd p t f).2.2.1 (rnd p t f).2.2.2.1) P) :
    Tq (d + 1) (fun k q => impl_FlowOf.L1 (cl k) k p ((t.gl p.2.2.2.2.2.1 [], ()), ()) q b f.2.1 f.1 f.2.2.1 f.2.2.2.1) P := by
  have hx : Ans n_impl_Flow_sum s_impl_Flow_sum ((f.1, f.2.1, f.2.2.1, f.2.2.2.1, ()), ()) ((sumF f, ()), f, ()) := sum_ans hp h
  have hl := gl_len hg []
  have hb2 := hp.b
  refine Tq.succ ?_
  show Tq d (fun k q => impl_FlowOf.step1 (cl k) k p ((t.gl p.2.2.2.2.2.1 [], ()), ()) (fun a0_ y4_ y6_ v2_3_ v2_5_ v2_6_ v2_7_ v2_8_ => impl_FlowOf.L2 (cl k) k a0_ y4_ y6_ (impl_FlowOf.L1 (cl k) k p ((t.gl p.2.2.2.2.2.1 [], ()), ()) q) k v2_3_ v2_5_ v2_6_ v2_7_ v2_8_) (impl_FlowOf.L1 (cl k) k p ((t.gl p.2.2.2.2.2.1 [], ()), ()) q) b f.2.1 f.1 f.2.2.1 f.2.2.2.1) _
  unfold impl_FlowOf.step1
  repeat' ((first
   | refine .ba (hx) ?_
   | refine .bt (by first | assumption | (simp (disch := omega) only [zs, w64, zt]; first | done | omega)) ?_
   | refine .bf (by first | assumption | (simp (disch := omega) only [zs, w64, zt]; first | done | omega)) ?_
   | refine .some (lg0 (by omega)) ?_
   | refine .some (lg (by omega)) ?_
   | refine .some (lgI (by omega) (by omega)) ?_
   | (refine .bif (fun zz => ?_) (fun zz => ?_) <;> try simp (disch := omega) only [zs, w64, zt] at zz)) <;> try dsimp only)
  refine pass (α := Unit) hp ((t.gl p.2.2.2.2.2.1 [], ()), ()) ((sumF f, ()), f, ()) (by show (t.gl p.2.2.2.2.2.1 []).length ≤ 100; omega) (gl_ok hs hp.b.2.2.2.1 hg [] (Nat.zero_le _) (fun s h => by cases h)) (fun k q => impl_FlowOf.L1 (cl k) k p ((t.gl p.2.2.2.2.2.1 [], ()), ()) q) _ 0 f rfl h ?_ (fun k => k) ((t.gl p.2.2.2.2.2.1 []).length - 0 + 1) (fun k hk => hk)
  rintro f' rfl
  exact H
theorem iFlow_loop : ∀ (n : Nat) (f : FT) (b : Int), Inv p f → 3 * (Vrs p + p.2.2.2.2.1.length + 2) - potF f ≤ n → (b ≠ sumF f ∨ rnd p t f = f) →
    ∃ g c, c ≤ n ∧ g = itr p t c f ∧ rnd p t g = g ∧ Tq (n + 2) (fun k q => impl_FlowOf.L1 (cl k) k p ((t.gl p.2.2.2.2.2.1 [], ()), ()) q b f.2.1 f.1 f.2.2.1 f.2.2.2.1) (· = ((g, ()), ())) := by
  intro n
  induction n with
  | zero =>
    intro f b h hn hb
    have h1 := fold_inv (t.gl p.2.2.2.2.2.1 []) h
    have h2 := potF_bd h1
    have h3 : rnd p t f = f := by
      rcases (rnd_gr hp hs hg h).sum h with e | e
      · exact e
      · have := e.2
        unfold rnd at this
        omega
    by_cases c : b = sumF f
    · subst c
      exact ⟨f, 0, Nat.le_refl _, rfl, h3, flow_stop hp h _ 1⟩
    · refine ⟨f, 0, Nat.le_refl _, rfl, h3, flow_pass hp hs hg h c ?_⟩
      rw [h3]
      exact flow_stop hp h _ 0
  | succ n ih =>
    intro f b h hn hb
    by_cases c : b = sumF f
    · subst c
      have h3 := hb.resolve_left (fun e => e rfl)
      exact ⟨f, 0, Nat.zero_le _, rfl, h3, flow_stop hp h _ _⟩
    · rcases (rnd_gr hp hs hg h).sum h with e | e
      · refine ⟨f, 0, Nat.zero_le _, rfl, e, flow_pass hp hs hg h c ?_⟩
        rw [e]
        exact flow_stop hp h _ _
      · obtain ⟨g, c', h1, h2, h3, h4⟩ := ih (rnd p t f) (sumF f) (fold_inv _ h) (by omega) (.inl (by omega))
        exact ⟨g, c' + 1, by omega, h2, h3, flow_pass hp hs hg h c h4⟩
theorem sFlow_loop (N : Nat) (hN : (N : Int) = 3 * (Vrs p + p.2.2.2.2.1.length + 2) + 1) : ∀ (d j : Nat) (f : FT), N - j = d → j ≤ N → Inv p f →
    Tq (d + 1) (fun k q => spec_FlowOf.L1 (cl k) k p q (j : Int) f.2.1 f.1 f.2.2.1 f.2.2.2.1) (· = ((itr p t d f, ()), ())) := by
  have hb := hp.b
  have hv : Vrs p = (p.2.1.length : Int) + (p.2.2.1.length : Int) + p.2.2.2.1 := rfl
  intro d
  induction d with
  | zero =>
    intro j f hd hj h
    have h1 := h.lv
    have h2 := h.la
    refine Tq.succ ?_
    show Tq 0 (fun k q => spec_FlowOf.step1 (cl k) k p (spec_FlowOf.L1 (cl k) k p q) (j : Int) f.2.1 f.1 f.2.2.1 f.2.2.2.1) _
    unfold spec_FlowOf.step1
    repeat' ((first
     | refine .bt (by first | assumption | (simp (disch := omega) only [zs, w64, zt]; first | done | omega)) ?_
     | refine .bf (by first | assumption | (simp (disch := omega) only [zs, w64, zt]; first | done | omega)) ?_
     | refine .some (lg0 (by omega)) ?_
     | refine .some (lg (by omega)) ?_
     | refine .some (lgI (by omega) (by omega)) ?_
     | (refine .bif (fun zz => ?_) (fun zz => ?_) <;> try simp (disch := omega) only [zs, w64, zt] at zz)) <;> try dsimp only)
    exact Tq.ret rfl
  | succ d ih =>
    intro j f hd hj h
    have h1 := h.lv
    have h2 := h.la
    have hx : Ans n_spec_l9Round s_spec_l9Round (p, (f.1, f.2.1, f.2.2.1, f.2.2.2.1, ()), ()) ((fold p f (t.fl p.2.2.2.2.2.1 []), ()), ()) := sRound_ans hp hs hg h
    rw [fl_gl hs hg [] f h] at hx
    refine Tq.succ ?_
    show Tq (d + 1) (fun k q => spec_FlowOf.step1 (cl k) k p (spec_FlowOf.L1 (cl k) k p q) (j : Int) f.2.1 f.1 f.2.2.1 f.2.2.2.1) _
    unfold spec_FlowOf.step1
    repeat' ((first
     | refine .ba (hx) ?_
     | refine .bt (by first | assumption | (simp (disch := omega) only [zs, w64, zt]; first | done | omega)) ?_
     | refine .bf (by first | assumption | (simp (disch := omega) only [zs, w64, zt]; first | done | omega)) ?_
     | refine .some (lg0 (by omega)) ?_
     | refine .some (lg (by omega)) ?_
     | refine .some (lgI (by omega) (by omega)) ?_
     | (refine .bif (fun zz => ?_) (fun zz => ?_) <;> try simp (disch := omega) only [zs, w64, zt] at zz)) <;> try dsimp only)
    rw [ws (n := N) (by omega) (by omega)]
    exact ih (j + 1) (rnd p t f) (by omega) (by omega) (fold_inv _ h)
end
/-! ### The start -/
def iniV (p : Pg) : Nat → List Int
  | 0 => List.replicate (Vrs p).toNat 0
  | j + 1 => (iniV p j).set (p.2.1.length + j) (2 ^ j)
theorem iniV_len (p : Pg) : ∀ j, (iniV p j).length = (Vrs p).toNat
  | 0 => List.length_replicate
  | j + 1 => by rw [iniV, List.length_set, iniV_len p j]
theorem iniV_lb (p : Pg) : ∀ j, j ≤ 3 → Lbs (iniV p j)
  | 0, _ => by
    intro x hx
    rw [List.eq_of_mem_replicate hx]
    exact lb0
  | j + 1, h => by
    refine (iniV_lb p j (by omega)).set _ ?_
    rcases (by omega : j = 0 ∨ j = 1 ∨ j = 2) with rfl | rfl | rfl <;> exact ⟨by decide, by decide⟩
def ini (p : Pg) : FT := (iniV p p.2.2.1.length, List.replicate p.2.2.2.2.1.length 0, 0, 0, ())
theorem ini_inv {p : Pg} (hp : Hd p) : Inv p (ini p) := by
  have hb := hp.b
  have hv : Vrs p = (p.2.1.length : Int) + (p.2.2.1.length : Int) + p.2.2.2.1 := rfl
  refine ⟨?_, List.length_replicate, iniV_lb p _ (by omega), ?_, lb0, lb0, show un 0 0 = 0 by decide⟩
  · show ((iniV p p.2.2.1.length).length : Int) = Vrs p
    rw [iniV_len]; omega
  · intro x hx
    rw [List.eq_of_mem_replicate hx]
    exact lb0
noncomputable def flow (p : Pg) (t : Fs) : FT := itr p t (3 * (Vrs p + p.2.2.2.2.1.length + 2) + 1).toNat (ini p)
theorem shl_pow {j : Nat} (h : j < 3) : shlI .i64 1 (j : Int) = 2 ^ j := by
  rcases (by omega : j = 0 ∨ j = 1 ∨ j = 2) with rfl | rfl | rfl <;> decide
theorem iFlow_ans {p : Pg} {t : Fs} (h : Ok p t) (hsm : Small p) : Ans n_impl_FlowOf s_impl_FlowOf (p, ()) ((flow p t, ()), ()) := by
  have hp := h.hd
  have hb := hp.b
  have hv : Vrs p = (p.2.1.length : Int) + (p.2.2.1.length : Int) + p.2.2.2.1 := rfl
  have ho := iOk_ans p hsm
  rw [bo_t ⟨t, h⟩] at ho
  refine Gv.ans (Gv.of (fun k => impl_FlowOf.F_eq (cl k) k p) ?_)
  unfold impl_FlowOf.F impl_FlowOf.Fm
  refine Tq.bind ho.tq ?_
  rintro y rfl
  refine Tq.bf rfl (Tq.bind (vars_ans p hp).tq ?_)
  rintro y rfl
  dsimp only
  refine Tq.bt (mkI (by omega) (by show _ * 8 ≤ _; omega)) (Tq.bt (mkI (by omega) (by show _ * 8 ≤ _; omega)) ?_)
  have key : ∀ (d j : Nat), p.2.2.1.length - j = d → j ≤ p.2.2.1.length → Tq (d + 1) (fun k q => impl_FlowOf.L0 (cl k) k p q (j : Int) (iniV p j)) (· = ((flow p t, ()), ())) := by
    intro d
    induction d with
    | zero =>
      intro j hd hj
      obtain rfl : j = p.2.2.1.length := by omega
      refine Tq.succ ?_
      show Tq 0 (fun k q => impl_FlowOf.step0 (cl k) k p (fun a0_ y4_ v1_1_ v1_3_ v1_4_ v1_5_ v1_6_ => impl_FlowOf.L1 (cl k) k a0_ y4_ k v1_1_ v1_3_ v1_4_ v1_5_ v1_6_) (impl_FlowOf.L0 (cl k) k p q) (p.2.2.1.length : Int) (iniV p p.2.2.1.length)) _
      unfold impl_FlowOf.step0
      have hl := gl_len h.seg []
      refine Tq.bf (dnlt (Nat.le_refl _)) (Tq.bind (nodes_ok (by omega) h.seg).tq ?_)
      rintro y rfl
      refine Tq.bind (((gd_seg hb.2.2.2.1 h.seg) [] (Nat.zero_le _)).a (by omega)).tq ?_
      rintro y rfl
      have hi := ini_inv hp
      obtain ⟨g, c, h1, h2, h3, h4⟩ := iFlow_loop hp h.st h.seg (3 * (Vrs p + p.2.2.2.2.1.length + 2)).toNat (ini p) (-1) hi (by have := (potF_bd hi).1; omega) (.inl (by
        have h1 := hi.e
        have h2 := hi.k
        have h3 := sumI_bd hi.v
        have h4 := sumI_bd hi.a
        unfold Lb at h1 h2
        unfold sumF
        omega))
      have e : flow p t = g := by
        unfold flow
        rw [show (3 * (Vrs p + p.2.2.2.2.1.length + 2) + 1).toNat = c + ((3 * (Vrs p + p.2.2.2.2.1.length + 2) + 1).toNat - c) by omega, itr_add, ← h2]
        exact itr_fix h3 _
      rw [e]
      exact Tq.diag h4
    | succ d ih =>
      intro j hd hj
      have hj : j < p.2.2.1.length := by omega
      have hlen := iniV_len p j
      have e1 : IntKind.i64.wrap ((p.2.1.length : Int) + (j : Int)) = ((p.2.1.length + j : Nat) : Int) := by rw [w64 (by omega) (by omega)]; omega
      refine Tq.succ ?_
      show Tq (d + 1) (fun k q => impl_FlowOf.step0 (cl k) k p (fun a0_ y4_ v1_1_ v1_3_ v1_4_ v1_5_ v1_6_ => impl_FlowOf.L1 (cl k) k a0_ y4_ k v1_1_ v1_3_ v1_4_ v1_5_ v1_6_) (impl_FlowOf.L0 (cl k) k p q) (j : Int) (iniV p j)) _
      unfold impl_FlowOf.step0
      rw [e1]
      refine Tq.bt (dlt hj) (Tq.bf (decide_eq_false (by omega)) (Tq.bt (idx_ok (by omega)) (Tq.some (lg (by omega)) ?_)))
      rw [ws hj (by omega), Int.toNat_natCast, shl_pow (by omega)]
      exact ih (j + 1) (by omega) (by omega)
  exact Tq.diag (key _ 0 rfl (Nat.zero_le _))
theorem sFlow_ans {p : Pg} {t : Fs} (h : Ok p t) (hsm : Small p) : Ans n_spec_FlowOf s_spec_FlowOf (p, ()) ((flow p t, ()), ()) := by
  have hp := h.hd
  have hb := hp.b
  have hv : Vrs p = (p.2.1.length : Int) + (p.2.2.1.length : Int) + p.2.2.2.1 := rfl
  have ho := sOk_ans p hsm
  rw [bo_t ⟨t, h⟩] at ho
  refine Gv.ans (Gv.of (fun k => spec_FlowOf.F_eq (cl k) k p) ?_)
  unfold spec_FlowOf.F spec_FlowOf.Fm
  refine Tq.bind ho.tq ?_
  rintro y rfl
  refine Tq.bf rfl (Tq.bind (l3Vars_ans p hp).tq ?_)
  rintro y rfl
  dsimp only
  refine Tq.bt (mkI (by omega) (by show _ * 8 ≤ _; omega)) (Tq.bt (mkI (by omega) (by show _ * 8 ≤ _; omega)) ?_)
  have key : ∀ (d j : Nat), p.2.2.1.length - j = d → j ≤ p.2.2.1.length → Tq (d + 1) (fun k q => spec_FlowOf.L0 (cl k) k p q ((2 : Int) ^ j) (j : Int) (iniV p j)) (· = ((flow p t, ()), ())) := by
    intro d
    induction d with
    | zero =>
      intro j hd hj
      obtain rfl : j = p.2.2.1.length := by omega
      refine Tq.succ ?_
      show Tq 0 (fun k q => spec_FlowOf.step0 (cl k) k p (fun a0_ v1_0_ v1_1_ v1_2_ v1_3_ v1_4_ => spec_FlowOf.L1 (cl k) k a0_ k v1_0_ v1_1_ v1_2_ v1_3_ v1_4_) (spec_FlowOf.L0 (cl k) k p q) ((2 : Int) ^ p.2.2.1.length) (p.2.2.1.length : Int) (iniV p p.2.2.1.length)) _
      unfold spec_FlowOf.step0
      refine Tq.bf (dnlt (Nat.le_refl _)) ?_
      exact Tq.diag (sFlow_loop hp h.st h.seg (3 * (Vrs p + p.2.2.2.2.1.length + 2) + 1).toNat (by omega) _ 0 (ini p) rfl (Nat.zero_le _) (ini_inv hp))
    | succ d ih =>
      intro j hd hj
      have hj : j < p.2.2.1.length := by omega
      have hlen := iniV_len p j
      have e1 : IntKind.i64.wrap ((p.2.1.length : Int) + (j : Int)) = ((p.2.1.length + j : Nat) : Int) := by rw [w64 (by omega) (by omega)]; omega
      have h1 : (2 : Int) ^ j ≤ 4 := by
        rcases (by omega : j = 0 ∨ j = 1 ∨ j = 2) with rfl | rfl | rfl <;> decide
      have h2 := pow_one_le j
      refine Tq.succ ?_
      show Tq (d + 1) (fun k q => spec_FlowOf.step0 (cl k) k p (fun a0_ v1_0_ v1_1_ v1_2_ v1_3_ v1_4_ => spec_FlowOf.L1 (cl k) k a0_ k v1_0_ v1_1_ v1_2_ v1_3_ v1_4_) (spec_FlowOf.L0 (cl k) k p q) ((2 : Int) ^ j) (j : Int) (iniV p j)) _
      unfold spec_FlowOf.step0
      rw [e1]
      refine Tq.bt (dlt hj) (Tq.bt (idx_ok (by omega)) (Tq.some (lg (by omega)) ?_))
      rw [ws hj (by omega), Int.toNat_natCast, w64 (by omega) (by omega), ← Int.pow_succ]
      exact ih (j + 1) (by omega) (by omega)
  exact Tq.diag (key _ 0 rfl (Nat.zero_le _))
/-! ### Quiet secrets -/
theorem quiet_fin : ∀ (K : Fin 8) (s : Fin 3), bitsI BinOp.and IntKind.i64 (shrI IntKind.i64 (K.val : Int) (s.val : Int)) 1 = ((K.val : Int) / 2 ^ s.val) % 2 := by decide
def Quiet (f : FT) (s : Nat) : Prop := f.2.2.2.1 / 2 ^ s % 2 = 0
theorem iQuiet_ans {p : Pg} {t : Fs} (h : Ok p t) (hsm : Small p) {s : Nat} (hs : s < p.2.2.1.length) : Ans n_impl_IsQuiet s_impl_IsQuiet (p, (s : Int), ()) ((bo (Quiet (flow p t) s), ()), ()) := by
  have hp := h.hd
  have hb := hp.b
  have ho := iOk_ans p hsm
  rw [bo_t ⟨t, h⟩] at ho
  have hi : Inv p (flow p t) := itr_inv _ (ini_inv hp)
  refine Gv.ans (Gv.of (fun k => impl_IsQuiet.F_eq (cl k) k p s) ?_)
  unfold impl_IsQuiet.F impl_IsQuiet.Fm
  repeat' ((first
   | refine .ba (ho) ?_
   | refine .ba (iFlow_ans h hsm) ?_
   | refine .bt (by first | assumption | (simp (disch := omega) only [zs, w64, zt]; first | done | omega)) ?_
   | refine .bf (by first | assumption | (simp (disch := omega) only [zs, w64, zt]; first | done | omega)) ?_
   | refine .some (lg0 (by omega)) ?_
   | refine .some (lg (by omega)) ?_
   | refine .some (lgI (by omega) (by omega)) ?_
   | (refine .bif (fun zz => ?_) (fun zz => ?_) <;> try simp (disch := omega) only [zs, w64, zt] at zz)) <;> try dsimp only)
  have hk := hi.k
  obtain ⟨n, hn⟩ : ∃ n : Nat, (flow p t).2.2.2.1 = n := ⟨(flow p t).2.2.2.1.toNat, by have := hk.1; omega⟩
  have h2 := hk.2
  refine Tq.ret ?_
  unfold Quiet
  rw [hn]
  have := quiet_fin ⟨n, by omega⟩ ⟨s, by omega⟩
  rw [bo_beq (Q := (n : Int) / 2 ^ s % 2 = 0)]
  rw [show bitsI BinOp.and IntKind.i64 (shrI IntKind.i64 (n : Int) (s : Int)) 1 = ((n : Int) / 2 ^ s) % 2 from this]
theorem sQuiet_ans {p : Pg} {t : Fs} (h : Ok p t) (hsm : Small p) {s : Nat} (hs : s < p.2.2.1.length) : Ans n_spec_IsQuiet s_spec_IsQuiet (p, (s : Int), ()) ((bo (Quiet (flow p t) s), ()), ()) := by
  have hp := h.hd
  have hb := hp.b
  have ho := sOk_ans p hsm
  rw [bo_t ⟨t, h⟩] at ho
  have hi : Inv p (flow p t) := itr_inv _ (ini_inv hp)
  have hk := hi.k
  unfold Lb at hk
  refine Gv.ans (Gv.of (fun k => spec_IsQuiet.F_eq (cl k) k p s) ?_)
  unfold spec_IsQuiet.F spec_IsQuiet.Fm
  have key : ∀ (j n : Nat), j + n = s → Tq (j + 1) (fun k q => spec_IsQuiet.L0 (cl k) k p q (j : Int) ((2 : Int) ^ n)) (· = ((bo (Quiet (flow p t) s), ()), ())) := by
    intro j
    induction j with
    | zero =>
      intro n hn
      obtain rfl : n = s := by omega
      have h1 : (2 : Int) ^ n ≤ 4 := by
        rcases (by omega : n = 0 ∨ n = 1 ∨ n = 2) with rfl | rfl | rfl <;> decide
      have h2 := pow_one_le n
      have h3 : 0 ≤ (flow p t).2.2.2.1 / 2 ^ n := Int.ediv_nonneg (by omega) (by omega)
      have h4 : (flow p t).2.2.2.1 / 2 ^ n ≤ (flow p t).2.2.2.1 := Int.ediv_le_self _ (by omega)
      refine Tq.succ ?_
      show Tq 0 (fun k q => spec_IsQuiet.step0 (cl k) k p (spec_IsQuiet.L0 (cl k) k p q) ((0 : Nat) : Int) ((2 : Int) ^ n)) _
      unfold spec_IsQuiet.step0
      have hx := sFlow_ans h hsm
      repeat' ((first
       | refine .ba (hx) ?_
       | refine .bt (by first | assumption | (simp (disch := omega) only [zs, w64, zt]; first | done | omega)) ?_
       | refine .bf (by first | assumption | (simp (disch := omega) only [zs, w64, zt]; first | done | omega)) ?_
       | refine .some (lg0 (by omega)) ?_
       | refine .some (lg (by omega)) ?_
       | refine .some (lgI (by omega) (by omega)) ?_
       | (refine .bif (fun zz => ?_) (fun zz => ?_) <;> try simp (disch := omega) only [zs, w64, zt] at zz)) <;> try dsimp only)
      refine Tq.ret ?_
      rw [Int.tdiv_eq_ediv_of_nonneg (by omega), w64 (by omega) (by omega), Int.tmod_eq_emod_of_nonneg h3, bo_beq (Q := Quiet (flow p t) n) Iff.rfl]
    | succ j ih =>
      intro n hn
      have h1 : (2 : Int) ^ n ≤ 4 := by
        rcases (by omega : n = 0 ∨ n = 1 ∨ n = 2) with rfl | rfl | rfl <;> decide
      have h2 := pow_one_le n
      refine Tq.succ ?_
      show Tq (j + 1) (fun k q => spec_IsQuiet.step0 (cl k) k p (spec_IsQuiet.L0 (cl k) k p q) ((j + 1 : Nat) : Int) ((2 : Int) ^ n)) _
      unfold spec_IsQuiet.step0
      repeat' ((first
       | refine .bt (by first | assumption | (simp (disch := omega) only [zs, w64, zt]; first | done | omega)) ?_
       | refine .bf (by first | assumption | (simp (disch := omega) only [zs, w64, zt]; first | done | omega)) ?_
       | refine .some (lg0 (by omega)) ?_
       | refine .some (lg (by omega)) ?_
       | refine .some (lgI (by omega) (by omega)) ?_
       | (refine .bif (fun zz => ?_) (fun zz => ?_) <;> try simp (disch := omega) only [zs, w64, zt] at zz)) <;> try dsimp only)
      rw [w64 (x := (2 : Int) ^ n * 2) (by omega) (by omega), ← Int.pow_succ, w64 (by omega) (by omega), show ((j + 1 : Nat) : Int) - 1 = (j : Int) by omega]
      exact ih (n + 1) (by omega)
  repeat' ((first
   | refine .ba (ho) ?_
   | refine .ba (l1In_ans _ _ _) ?_
   | refine .bt (by first | assumption | (simp (disch := omega) only [zs, w64, zt]; first | done | omega)) ?_
   | refine .bf (by first | assumption | (simp (disch := omega) only [zs, w64, zt]; first | done | omega)) ?_
   | refine .some (lg0 (by omega)) ?_
   | refine .some (lg (by omega)) ?_
   | refine .some (lgI (by omega) (by omega)) ?_
   | (refine .bif (fun zz => ?_) (fun zz => ?_) <;> try simp (disch := omega) only [zs, w64, zt] at zz)) <;> try dsimp only)
  exact Tq.diag (key s 0 rfl)
/-! ### Safe programs -/
def SafeAt (f : FT) (p : Pg) (i : Nat) : Prop := ∀ (h : i < p.2.2.1.length), (p.2.2.1[i].2.1 = 0 → Quiet f i) ∧ (0 < p.2.2.1[i].2.1 → bits p.2.2.1[i].1 ≤ p.2.2.1[i].2.1)
def SafeFrom (f : FT) (p : Pg) (j : Nat) : Prop := ∀ i, j ≤ i → SafeAt f p i
theorem safe_end {f : FT} {p : Pg} {j : Nat} (h : p.2.2.1.length ≤ j) : SafeFrom f p j := fun i h1 h2 => by omega
theorem safe_no {f : FT} {p : Pg} {j : Nat} (h : ¬ SafeAt f p j) : ¬ SafeFrom f p j := fun e => h (e j (Nat.le_refl _))
theorem safe_next {f : FT} {p : Pg} {j : Nat} (h : SafeAt f p j) : SafeFrom f p j ↔ SafeFrom f p (j + 1) := by
  constructor
  · exact fun e i hi => e i (by omega)
  · intro e i hi
    rcases Nat.lt_or_ge j i with h1 | h1
    · exact e i h1
    · obtain rfl : i = j := by omega
      exact h
theorem iSafe_loop {p : Pg} {t : Fs} (h : Ok p t) (hsm : Small p) : ∀ (d j : Nat), p.2.2.1.length - j = d → Tq (d + 1) (fun k q => impl_IsSafe.L0 (cl k) k p q (j : Int)) (· = ((bo (SafeFrom (flow p t) p j), ()), ())) := by
  have hb := h.hd.b
  intro d
  induction d with
  | zero =>
    intro j hd
    refine Tq.succ ?_
    show Tq 0 (fun k q => impl_IsSafe.step0 (cl k) k p (impl_IsSafe.L0 (cl k) k p q) (j : Int)) _
    unfold impl_IsSafe.step0
    repeat' ((first
     | refine .bt (by first | assumption | (simp (disch := omega) only [zs, w64, zt]; first | done | omega)) ?_
     | refine .bf (by first | assumption | (simp (disch := omega) only [zs, w64, zt]; first | done | omega)) ?_
     | refine .some (lg0 (by omega)) ?_
     | refine .some (lg (by omega)) ?_
     | refine .some (lgI (by omega) (by omega)) ?_
     | (refine .bif (fun zz => ?_) (fun zz => ?_) <;> try simp (disch := omega) only [zs, w64, zt] at zz)) <;> try dsimp only)
    rw [bo_t (safe_end (by omega))]
    exact Tq.ret rfl
  | succ d ih =>
    intro j hd
    have hj : j < p.2.2.1.length := by omega
    have h1 := h.hd.i.2.2.1 _ (List.getElem_mem hj)
    unfold SecOk at h1
    have hq : Ans n_impl_IsQuiet s_impl_IsQuiet ((p.1, p.2.1, p.2.2.1, p.2.2.2.1, p.2.2.2.2.1, p.2.2.2.2.2.1, ()), (j : Int), ()) ((bo (Quiet (flow p t) j), ()), ()) := iQuiet_ans h hsm hj
    refine Tq.succ ?_
    show Tq (d + 1) (fun k q => impl_IsSafe.step0 (cl k) k p (impl_IsSafe.L0 (cl k) k p q) (j : Int)) _
    unfold impl_IsSafe.step0
    repeat' ((first
     | refine .ba (hq) ?_
     | refine .ba (iBits_ans _ (by omega)) ?_
     | refine .bt (by first | assumption | (simp (disch := omega) only [zs, w64, zt]; first | done | omega)) ?_
     | refine .bf (by first | assumption | (simp (disch := omega) only [zs, w64, zt]; first | done | omega)) ?_
     | refine .some (lg0 (by omega)) ?_
     | refine .some (lg (by omega)) ?_
     | refine .some (lgI (by omega) (by omega)) ?_
     | (refine .bif (fun zz => ?_) (fun zz => ?_) <;> try simp (disch := omega) only [zs, w64, zt] at zz)) <;> try dsimp only)
    all_goals first
      | (rw [bo_f (safe_no (fun e => absurd ((e hj).1 (by omega)) (by assumption)))]; exact Tq.ret rfl)
      | (rw [bo_f (safe_no (fun e => absurd ((e hj).2 (by omega)) (by omega)))]; exact Tq.ret rfl)
      | (rw [ws hj (by omega), bo_congr (safe_next (fun _ => ⟨fun _ => by first | assumption | omega, fun _ => by omega⟩))]
         exact ih (j + 1) (by omega))
theorem sSafe_loop {p : Pg} {t : Fs} (h : Ok p t) (hsm : Small p) : ∀ (d j : Nat), p.2.2.1.length - j = d → Tq (d + 1) (fun k q => spec_IsSafe.L0 (cl k) k p q (j : Int)) (· = ((bo (SafeFrom (flow p t) p j), ()), ())) := by
  have hb := h.hd.b
  intro d
  induction d with
  | zero =>
    intro j hd
    refine Tq.succ ?_
    show Tq 0 (fun k q => spec_IsSafe.step0 (cl k) k p (spec_IsSafe.L0 (cl k) k p q) (j : Int)) _
    unfold spec_IsSafe.step0
    repeat' ((first
     | refine .bt (by first | assumption | (simp (disch := omega) only [zs, w64, zt]; first | done | omega)) ?_
     | refine .bf (by first | assumption | (simp (disch := omega) only [zs, w64, zt]; first | done | omega)) ?_
     | refine .some (lg0 (by omega)) ?_
     | refine .some (lg (by omega)) ?_
     | refine .some (lgI (by omega) (by omega)) ?_
     | (refine .bif (fun zz => ?_) (fun zz => ?_) <;> try simp (disch := omega) only [zs, w64, zt] at zz)) <;> try dsimp only)
    rw [bo_t (safe_end (by omega))]
    exact Tq.ret rfl
  | succ d ih =>
    intro j hd
    have hj : j < p.2.2.1.length := by omega
    have h1 := h.hd.i.2.2.1 _ (List.getElem_mem hj)
    unfold SecOk at h1
    have hq : Ans n_spec_IsQuiet s_spec_IsQuiet ((p.1, p.2.1, p.2.2.1, p.2.2.2.1, p.2.2.2.2.1, p.2.2.2.2.2.1, ()), (j : Int), ()) ((bo (Quiet (flow p t) j), ()), ()) := sQuiet_ans h hsm hj
    refine Tq.succ ?_
    show Tq (d + 1) (fun k q => spec_IsSafe.step0 (cl k) k p (spec_IsSafe.L0 (cl k) k p q) (j : Int)) _
    unfold spec_IsSafe.step0
    repeat' ((first
     | refine .ba (hq) ?_
     | refine .ba (sBits_ans _ (by omega)) ?_
     | refine .bt (by first | assumption | (simp (disch := omega) only [zs, w64, zt]; first | done | omega)) ?_
     | refine .bf (by first | assumption | (simp (disch := omega) only [zs, w64, zt]; first | done | omega)) ?_
     | refine .some (lg0 (by omega)) ?_
     | refine .some (lg (by omega)) ?_
     | refine .some (lgI (by omega) (by omega)) ?_
     | (refine .bif (fun zz => ?_) (fun zz => ?_) <;> try simp (disch := omega) only [zs, w64, zt] at zz)) <;> try dsimp only)
    all_goals first
      | (rw [bo_f (safe_no (fun e => absurd ((e hj).1 (by omega)) (by assumption)))]; exact Tq.ret rfl)
      | (rw [bo_f (safe_no (fun e => absurd ((e hj).2 (by omega)) (by omega)))]; exact Tq.ret rfl)
      | (rw [ws hj (by omega), bo_congr (safe_next (fun _ => ⟨fun _ => by first | assumption | omega, fun _ => by omega⟩))]
         exact ih (j + 1) (by omega))
/-- Both sides agree. -/
theorem safe_agree (p : Pg) (hsm : Small p) : ∃ b : Bool, Ans n_spec_IsSafe s_spec_IsSafe (p, ()) ((b, ()), ()) ∧ Ans n_impl_IsSafe s_impl_IsSafe (p, ()) ((b, ()), ()) := by
  by_cases hk : IsOk p
  · obtain ⟨t, h⟩ := hk
    refine ⟨bo (SafeFrom (flow p t) p 0), Gv.ans (Gv.of (fun k => spec_IsSafe.F_eq (cl k) k p) ?_), Gv.ans (Gv.of (fun k => impl_IsSafe.F_eq (cl k) k p) ?_)⟩
    · unfold spec_IsSafe.F spec_IsSafe.Fm
      have ho := sOk_ans p hsm
      rw [bo_t ⟨t, h⟩] at ho
      refine Tq.bind ho.tq ?_
      rintro y rfl
      exact Tq.bf rfl (Tq.diag (sSafe_loop h hsm _ 0 rfl))
    · unfold impl_IsSafe.F impl_IsSafe.Fm
      have ho := iOk_ans p hsm
      rw [bo_t ⟨t, h⟩] at ho
      refine Tq.bind ho.tq ?_
      rintro y rfl
      exact Tq.bf rfl (Tq.diag (iSafe_loop h hsm _ 0 rfl))
  · refine ⟨false, Gv.ans (Gv.of (fun k => spec_IsSafe.F_eq (cl k) k p) ?_), Gv.ans (Gv.of (fun k => impl_IsSafe.F_eq (cl k) k p) ?_)⟩
    · unfold spec_IsSafe.F spec_IsSafe.Fm
      have ho := sOk_ans p hsm
      rw [bo_f hk] at ho
      refine Tq.bind ho.tq ?_
      rintro y rfl
      exact Tq.bt rfl (Tq.ret rfl)
    · unfold impl_IsSafe.F impl_IsSafe.Fm
      have ho := iOk_ans p hsm
      rw [bo_f hk] at ho
      refine Tq.bind ho.tq ?_
      rintro y rfl
      exact Tq.bt rfl (Tq.ret rfl)
end Go.Proofs.Ytafgkoelefpacaa.Pf
