/- Which expressions and statements may trap: both sides answer the same. Its condition: the program is right but for its steps. -/
import Derived.Test.YtafgkoelefpacaaPfM
set_option maxHeartbeats 2000000
set_option linter.all false
namespace Go.Proofs.Ytafgkoelefpacaa.Pf
open Go Go.Pv
def tmAt (e : List Tm) (i : Nat) : Tm := if h : i < e.length then e[i] else (0, 0, ())
theorem tmAt_lt {e : List Tm} {i : Nat} (h : i < e.length) : tmAt e i = e[i] := dif_pos h
def arrAt (p : Pg) (n : Int) : Int := if h : n.toNat < p.2.2.2.2.1.length then p.2.2.2.2.1[n.toNat] else 0
theorem arrAt_lt {p : Pg} {n : Int} (h : n.toNat < p.2.2.2.2.1.length) : arrAt p n = p.2.2.2.2.1[n.toNat] := dif_pos h
theorem below_ans (l : List Tm) (x : Int) : Ans n_impl_oneBelow s_impl_oneBelow (l, x, ()) ((bo (l.length = 1 ∧ (tmAt l 0).1 = 0 ∧ (tmAt l 0).2.1 < x), ()), ()) := by
  refine Gv.ans (Gv.of (fun k => impl_oneBelow.F_eq (cl k) k l x) ?_)
  unfold impl_oneBelow.F impl_oneBelow.Fm
  by_cases h : l.length = 1
  · rw [tmAt_lt (by omega), bo_congr (and_iff_right h)]
    repeat' ((first
     | refine .bt (by first | assumption | (simp (disch := omega) only [zs, w64, zt]; first | done | omega)) ?_
     | refine .bf (by first | assumption | (simp (disch := omega) only [zs, w64, zt]; first | done | omega)) ?_
     | refine .some (lg0 (by omega)) ?_
     | refine .some (lg (by omega)) ?_
     | refine .some (lgI (by omega) (by omega)) ?_
     | (refine .bif (fun zz => ?_) (fun zz => ?_) <;> try simp (disch := omega) only [zs, w64, zt] at zz)) <;> try dsimp only)
    · rw [bo_congr (and_iff_right (by assumption))]
      exact Tq.ret (by rw [bo_dec Iff.rfl])
    · refine Tq.ret ?_
      rw [bo_f]
      exact fun h => absurd h.1 (by assumption)
  · rw [bo_f (fun e => h e.1)]
    repeat' ((first
     | refine .bt (by first | assumption | (simp (disch := omega) only [zs, w64, zt]; first | done | omega)) ?_
     | refine .bf (by first | assumption | (simp (disch := omega) only [zs, w64, zt]; first | done | omega)) ?_
     | refine .some (lg0 (by omega)) ?_
     | refine .some (lg (by omega)) ?_
     | refine .some (lgI (by omega) (by omega)) ?_
     | (refine .bif (fun zz => ?_) (fun zz => ?_) <;> try simp (disch := omega) only [zs, w64, zt] at zz)) <;> try dsimp only)
    exact Tq.ret rfl
theorem known_f (l : List Tm) (x : Int) : Ans n_spec_l9Known s_spec_l9Known (l, x, false, ()) ((bo (l.length = 1 ∧ (tmAt l 0).1 = 0 ∧ (tmAt l 0).2.1 < x), ()), ()) := by
  refine Gv.ans (Gv.of (fun k => spec_l9Known.F_eq (cl k) k l x false) ?_)
  unfold spec_l9Known.F spec_l9Known.Fm
  by_cases h : l.length = 1
  · rw [tmAt_lt (by omega), bo_congr (and_iff_right h)]
    repeat' ((first
     | refine .bt (by first | assumption | (simp (disch := omega) only [zs, w64, zt]; first | done | omega)) ?_
     | refine .bf (by first | assumption | (simp (disch := omega) only [zs, w64, zt]; first | done | omega)) ?_
     | refine .some (lg0 (by omega)) ?_
     | refine .some (lg (by omega)) ?_
     | refine .some (lgI (by omega) (by omega)) ?_
     | (refine .bif (fun zz => ?_) (fun zz => ?_) <;> try simp (disch := omega) only [zs, w64, zt] at zz)) <;> try dsimp only)
    · refine Tq.ret ?_
      rw [bo_t ⟨by assumption, by assumption⟩]; rfl
    · refine Tq.ret ?_
      rw [bo_f]
      exact fun h => by omega
    · refine Tq.ret ?_
      rw [bo_f]
      exact fun h => absurd h.1 (by assumption)
  · rw [bo_f (fun e => h e.1)]
    repeat' ((first
     | refine .bt (by first | assumption | (simp (disch := omega) only [zs, w64, zt]; first | done | omega)) ?_
     | refine .bf (by first | assumption | (simp (disch := omega) only [zs, w64, zt]; first | done | omega)) ?_
     | refine .some (lg0 (by omega)) ?_
     | refine .some (lg (by omega)) ?_
     | refine .some (lgI (by omega) (by omega)) ?_
     | (refine .bif (fun zz => ?_) (fun zz => ?_) <;> try simp (disch := omega) only [zs, w64, zt] at zz)) <;> try dsimp only)
    exact Tq.ret rfl
theorem known_t (l : List Tm) (x : Int) : Ans n_spec_l9Known s_spec_l9Known (l, x, true, ()) ((bo (l.length = 1 ∧ (tmAt l 0).1 = 0 ∧ (tmAt l 0).2.1 < x ∧ (tmAt l 0).2.1 ≠ 0), ()), ()) := by
  refine Gv.ans (Gv.of (fun k => spec_l9Known.F_eq (cl k) k l x true) ?_)
  unfold spec_l9Known.F spec_l9Known.Fm
  by_cases h : l.length = 1
  · rw [tmAt_lt (by omega), bo_congr (and_iff_right h)]
    repeat' ((first
     | refine .bt (by first | assumption | (simp (disch := omega) only [zs, w64, zt]; first | done | omega)) ?_
     | refine .bf (by first | assumption | (simp (disch := omega) only [zs, w64, zt]; first | done | omega)) ?_
     | refine .some (lg0 (by omega)) ?_
     | refine .some (lg (by omega)) ?_
     | refine .some (lgI (by omega) (by omega)) ?_
     | (refine .bif (fun zz => ?_) (fun zz => ?_) <;> try simp (disch := omega) only [zs, w64, zt] at zz)) <;> try dsimp only)
    · refine Tq.ret ?_
      rw [bo_beq (Q := l[0].2.1 = 0) Iff.rfl]
      by_cases h0 : l[0].2.1 = 0
      · rw [bo_t h0, bo_f (fun e => e.2.2 h0)]; rfl
      · rw [bo_f h0, bo_t ⟨by assumption, by assumption, h0⟩]; rfl
    · refine Tq.ret ?_
      rw [bo_f]
      exact fun h => by omega
    · refine Tq.ret ?_
      rw [bo_f]
      exact fun h => absurd h.1 (by assumption)
  · rw [bo_f (fun e => h e.1)]
    repeat' ((first
     | refine .bt (by first | assumption | (simp (disch := omega) only [zs, w64, zt]; first | done | omega)) ?_
     | refine .bf (by first | assumption | (simp (disch := omega) only [zs, w64, zt]; first | done | omega)) ?_
     | refine .some (lg0 (by omega)) ?_
     | refine .some (lg (by omega)) ?_
     | refine .some (lgI (by omega) (by omega)) ?_
     | (refine .bif (fun zz => ?_) (fun zz => ?_) <;> try simp (disch := omega) only [zs, w64, zt] at zz)) <;> try dsimp only)
    exact Tq.ret rfl
def TrapAt (p : Pg) (e : List Tm) (i : Nat) : Prop :=
  (((tmAt e i).1 = 8 ∨ (tmAt e i).1 = 9) ∧ ¬ ((tmAt e (i - 1)).1 = 0 ∧ (tmAt e (i - 1)).2.1 ≠ 0)) ∨ ((tmAt e i).1 = 2 ∧ ¬ ((tmAt e (i - 1)).1 = 0 ∧ (tmAt e (i - 1)).2.1 < arrAt p (tmAt e i).2.1))
def TrapFrom (p : Pg) (e : List Tm) (j : Nat) : Prop := ∃ i, j ≤ i ∧ i < e.length ∧ TrapAt p e i
theorem trap_end {p : Pg} {e : List Tm} {j : Nat} (h : e.length ≤ j) : ¬ TrapFrom p e j := by
  rintro ⟨i, h1, h2, _⟩; omega
theorem trap_yes {p : Pg} {e : List Tm} {j : Nat} (hj : j < e.length) (h : TrapAt p e j) : TrapFrom p e j := ⟨j, Nat.le_refl _, hj, h⟩
theorem trap_next {p : Pg} {e : List Tm} {j : Nat} (h : ¬ TrapAt p e j) : TrapFrom p e j ↔ TrapFrom p e (j + 1) := by
  constructor
  · rintro ⟨i, h1, h2, h3⟩
    rcases Nat.lt_or_ge j i with h4 | h4
    · exact ⟨i, h4, h2, h3⟩
    · obtain rfl : i = j := by omega
      exact absurd h3 h
  · rintro ⟨i, h1, h2, h3⟩
    exact ⟨i, by omega, h2, h3⟩
def Trap (p : Pg) (e : List Tm) : Prop := TrapFrom p e 0
/-- Nothing, or what may stand. -/
def Sub (p : Pg) (e : List Tm) : Prop := e.length = 0 ∨ Stand p e
theorem takes2 : takes 2 = 1 := rfl
theorem takes8 : takes 8 = 2 := rfl
theorem takes9 : takes 9 = 2 := rfl
theorem dep_le {e : List Tm} (he : ExpOk e) : ∀ y, y ≤ e.length → 0 ≤ dep e y ∧ dep e y ≤ y := by
  intro y
  induction y with
  | zero => intro _; exact ⟨Int.le_refl _, Int.le_refl _⟩
  | succ y ih =>
    intro h
    have h1 := ih (by omega)
    have h2 := he.at (i := y) (by omega)
    unfold TmOk at h2
    rw [dep_succ (by omega)]
    omega
theorem iTrap_loop (p : Pg) (h : Hd p) (e : List Tm) (he : Sub p e) : ∀ (d j : Nat), e.length - j = d →
    Tq (d + 1) (fun k q => impl_expTraps.L0 (cl k) k p e q (j : Int)) (· = ((bo (TrapFrom p e j), ()), ())) := by
  have hb := h.b
  intro d
  induction d with
  | zero =>
    intro j hd
    refine Tq.succ ?_
    show Tq 0 (fun k q => impl_expTraps.step0 (cl k) k p e (impl_expTraps.L0 (cl k) k p e q) (j : Int)) _
    unfold impl_expTraps.step0
    repeat' ((first
     | refine .bt (by first | assumption | (simp (disch := omega) only [zs, w64, zt]; first | done | omega)) ?_
     | refine .bf (by first | assumption | (simp (disch := omega) only [zs, w64, zt]; first | done | omega)) ?_
     | refine .some (lg0 (by omega)) ?_
     | refine .some (lg (by omega)) ?_
     | refine .some (lgI (by omega) (by omega)) ?_
     | (refine .bif (fun zz => ?_) (fun zz => ?_) <;> try simp (disch := omega) only [zs, w64, zt] at zz)) <;> try dsimp only)
    rw [bo_f (trap_end (by omega))]
    exact Tq.ret rfl
  | succ d ih =>
    intro j hd
    have hj : j < e.length := by omega
    have he := he.resolve_left (by omega)
    have h1 := he.2.1.1.at hj
    have h2 := dep_le he.2.1.1 j (by omega)
    have h3 := he.2.1.2 _ (List.getElem_mem hj)
    have hl := he.1
    unfold TmOk at h1
    unfold NmOk at h3
    have t2 : e[j].1 = 2 → takes e[j].1 = 1 := fun h => by rw [h]; rfl
    have t8 : e[j].1 = 8 → takes e[j].1 = 2 := fun h => by rw [h]; rfl
    have t9 : e[j].1 = 9 → takes e[j].1 = 2 := fun h => by rw [h]; rfl
    refine Tq.succ ?_
    show Tq (d + 1) (fun k q => impl_expTraps.step0 (cl k) k p e (impl_expTraps.L0 (cl k) k p e q) (j : Int)) _
    unfold impl_expTraps.step0
    rcases Nat.eq_zero_or_pos j with rfl | hj0
    · have ht : ¬ TrapAt p e 0 := by
        unfold TrapAt
        rw [tmAt_lt hj]
        omega
      repeat' ((first
       | refine .bt (by first | assumption | (simp (disch := omega) only [zs, w64, zt]; first | done | omega)) ?_
       | refine .bf (by first | assumption | (simp (disch := omega) only [zs, w64, zt]; first | done | omega)) ?_
       | refine .some (lg0 (by omega)) ?_
       | refine .some (lg (by omega)) ?_
       | refine .some (lgI (by omega) (by omega)) ?_
       | (refine .bif (fun zz => ?_) (fun zz => ?_) <;> try simp (disch := omega) only [zs, w64, zt] at zz)) <;> try dsimp only)
      all_goals
        rw [bo_congr (trap_next ht), ws hj (by omega)]
        exact ih 1 (by omega)
    · obtain ⟨m, rfl⟩ : ∃ m, j = m + 1 := ⟨j - 1, by omega⟩
      have hm : m < e.length := by omega
      rw [show IntKind.i64.wrap (((m + 1 : Nat) : Int) - 1) = (m : Int) by rw [w64 (by omega) (by omega)]; omega]
      have e1 : tmAt e (m + 1 - 1) = e[m] := by rw [show m + 1 - 1 = m by omega, tmAt_lt hm]
      have e2 := tmAt_lt hj
      have e3 : TrapAt p e (m + 1) ↔ (((e[m + 1].1 = 8 ∨ e[m + 1].1 = 9) ∧ ¬ (e[m].1 = 0 ∧ e[m].2.1 ≠ 0)) ∨ (e[m + 1].1 = 2 ∧ ¬ (e[m].1 = 0 ∧ e[m].2.1 < arrAt p e[m + 1].2.1))) := by
        unfold TrapAt; rw [e1, e2]
      have e4 : List.take (((m + 1 : Nat) : Int).toNat - ((m : Nat) : Int).toNat) (List.drop ((m : Nat) : Int).toNat e) = [e[m]] := by
        rw [Int.toNat_natCast, Int.toNat_natCast, show m + 1 - m = 1 by omega, List.drop_eq_getElem_cons hm]; rfl
      rw [e4]
      repeat' ((first
       | refine .ba (below_ans [e[m]] _) ?_
       | refine .bt (by first | assumption | (simp (disch := omega) only [zs, w64, zt]; first | done | omega)) ?_
       | refine .bf (by first | assumption | (simp (disch := omega) only [zs, w64, zt]; first | done | omega)) ?_
       | refine .some (lg0 (by omega)) ?_
       | refine .some (lg (by omega)) ?_
       | refine .some (lgI (by omega) (by omega)) ?_
       | (refine .bif (fun zz => ?_) (fun zz => ?_) <;> try simp (disch := omega) only [zs, w64, zt] at zz)) <;> try dsimp only)
      all_goals first
        | (rw [bo_t (trap_yes hj (e3.2 (by omega)))]; exact Tq.ret rfl)
        | (rw [bo_congr (trap_next (fun h => by have := e3.1 h; omega)), ws hj (by omega)]
           exact ih (m + 1 + 1) (by omega))
        | (have e5 : arrAt p e[m + 1].2.1 = p.2.2.2.2.1[e[m + 1].2.1.toNat]'(by omega) := arrAt_lt (by omega)
           have e6 : tmAt [e[m]] 0 = e[m] := rfl
           rw [e6] at zz
           simp only [List.length_singleton, true_and] at zz
           first
             | (rw [bo_t (trap_yes hj (e3.2 (by omega)))]; exact Tq.ret rfl)
             | (rw [bo_congr (trap_next (fun h => by have := e3.1 h; omega)), ws hj (by omega)]
                exact ih (m + 1 + 1) (by omega)))
theorem iTrap_ans (p : Pg) (h : Hd p) (e : List Tm) (he : Sub p e) : Ans n_impl_expTraps s_impl_expTraps (p, e, ()) ((bo (Trap p e), ()), ()) := by
  refine Gv.ans (Gv.of (fun k => impl_expTraps.F_eq (cl k) k p e) ?_)
  unfold impl_expTraps.F impl_expTraps.Fm
  exact Tq.diag (iTrap_loop p h e he _ 0 rfl)
/-! ### The reference -/
theorem last_part {a : List Tm} (ha : ExpOk a) (h2 : 2 ≤ a.length) {f : Nat} (hf : Fst a (a.length - 2) f) (Q : Tm → Prop) :
    ((sl a f (a.length - 1)).length = 1 ∧ (tmAt (sl a f (a.length - 1)) 0).1 = 0 ∧ Q (tmAt (sl a f (a.length - 1)) 0)) ↔ ((tmAt a (a.length - 2)).1 = 0 ∧ Q (tmAt a (a.length - 2))) := by
  have h3 := hf.le
  have h5 := hf.de
  have h6 := hf.up
  rw [sl_len (by omega)]
  constructor
  · rintro ⟨e1, e2, e3⟩
    obtain rfl : f = a.length - 2 := by omega
    rw [tmAt_lt (by rw [sl_len (by omega)]; omega), sl_get (by omega) (by omega)] at e2 e3
    rw [tmAt_lt (by omega)]
    exact ⟨e2, e3⟩
  · rintro ⟨e2, e3⟩
    have e1 : f = a.length - 2 := by
      rcases Nat.lt_or_ge f (a.length - 2) with h | h
      · have e4 := h6 (a.length - 2) h (Nat.le_refl _)
        rw [tmAt_lt (by omega)] at e2
        rw [dep_succ (by omega), e2] at e4
        have : takes 0 = 0 := rfl
        omega
      · omega
    subst e1
    rw [tmAt_lt (by omega)] at e2 e3
    rw [tmAt_lt (by rw [sl_len (by omega)]; omega), sl_get (by omega) (by omega)]
    exact ⟨by omega, e2, e3⟩
theorem sTrap_loop (p : Pg) (h : Hd p) (e : List Tm) (he : Sub p e) : ∀ (d j : Nat), e.length - j = d →
    Tq (d + 1) (fun k q => spec_l9May.L0 (cl k) k p e q (j : Int)) (· = ((bo (TrapFrom p e j), ()), ())) := by
  have hb := h.b
  intro d
  induction d with
  | zero =>
    intro j hd
    refine Tq.succ ?_
    show Tq 0 (fun k q => spec_l9May.step0 (cl k) k p e (spec_l9May.L0 (cl k) k p e q) (j : Int)) _
    unfold spec_l9May.step0
    repeat' ((first
     | refine .bt (by first | assumption | (simp (disch := omega) only [zs, w64, zt]; first | done | omega)) ?_
     | refine .bf (by first | assumption | (simp (disch := omega) only [zs, w64, zt]; first | done | omega)) ?_
     | refine .some (lg0 (by omega)) ?_
     | refine .some (lg (by omega)) ?_
     | refine .some (lgI (by omega) (by omega)) ?_
     | (refine .bif (fun zz => ?_) (fun zz => ?_) <;> try simp (disch := omega) only [zs, w64, zt] at zz)) <;> try dsimp only)
    rw [bo_f (trap_end (by omega))]
    exact Tq.ret rfl
  | succ d ih =>
    intro j hd
    have hj : j < e.length := by omega
    have he := he.resolve_left (by omega)
    have h1 := he.2.1.1.at hj
    have h2 := dep_le he.2.1.1 j (by omega)
    have h3 := he.2.1.2 _ (List.getElem_mem hj)
    have hl := he.1
    unfold TmOk at h1
    unfold NmOk at h3
    refine Tq.succ ?_
    show Tq (d + 1) (fun k q => spec_l9May.step0 (cl k) k p e (spec_l9May.L0 (cl k) k p e q) (j : Int)) _
    unfold spec_l9May.step0
    refine Tq.bt (dlt hj) (Tq.bind (first_gv e he.2.1.1 j hj).tq ?_)
    rintro y ⟨s, hs, rfl⟩
    have hs1 := hs.le
    dsimp only
    rw [ws hj (by omega), Int.toNat_natCast, Int.toNat_natCast]
    have ha := hs.ok he.2.1.1 hj
    have hal : (sl e s (j + 1)).length = j + 1 - s := sl_len (by omega)
    refine Tq.bt (dle0 _) (Tq.bt (dle0 _) (Tq.bt (by simp only [zs]; omega) (Tq.bind (parts_gv (sl e s (j + 1)) ha).tq ?_)))
    rintro y ⟨out, rfl, ho⟩
    dsimp only
    rw [Int.toNat_natCast]
    refine Tq.bt (dle0 _) (Tq.some (lgn hj) ?_)
    try dsimp only
    have htk : tk (sl e s (j + 1)) ((sl e s (j + 1)).length - 1) = takes e[j].1 := by
      rw [tk_lt (by omega), sl_get (by omega) (by omega)]
      congr 2
      simp only [hal, show s + (j + 1 - s - 1) = j by omega]
    rw [htk] at ho
    have eN := sl_len (e := e) (s := s) (n := j + 1) (by omega)
    have e2 := tmAt_lt hj
    -- the term ahead
    have ahead : 2 ≤ (sl e s (j + 1)).length → tmAt (sl e s (j + 1)) ((sl e s (j + 1)).length - 2) = tmAt e (j - 1) ∧ j - 1 < e.length := by
      intro h2
      rw [tmAt_lt (by omega), tmAt_lt (e := e) (by omega), sl_get (by omega) (by omega)]
      simp only [hal, show s + (j + 1 - s - 2) = j - 1 by omega]
      exact ⟨trivial, by omega⟩
    by_cases c2 : e[j].1 = 2
    · obtain ⟨pre, f, rfl, hpre, hf, h2a⟩ := ho 0 (by rw [c2]; rfl)
      obtain rfl : pre = [] := List.length_eq_zero_iff.1 hpre
      obtain ⟨a1, a2⟩ := ahead h2a
      have hk := last_part ha h2a hf (fun t => t.2.1 < arrAt p e[j].2.1)
      rw [a1] at hk
      have e5 : arrAt p e[j].2.1 = p.2.2.2.2.1[e[j].2.1.toNat]'(by omega) := arrAt_lt (by omega)
      have e3 : TrapAt p e j ↔ ¬ ((tmAt e (j - 1)).1 = 0 ∧ (tmAt e (j - 1)).2.1 < arrAt p e[j].2.1) := by
        unfold TrapAt; rw [e2]
        constructor
        · intro h; omega
        · intro h; omega
      refine Tq.bt (beq_iff_eq.2 c2) (Tq.bt rfl (Tq.bt (dle0 _) (Tq.some (lgn hj) (Tq.bt (decide_eq_true (by omega)) (Tq.some (lgI (by omega) (by omega)) (Tq.some rfl (Tq.bind (known_f _ _).tq ?_)))))))
      rintro y rfl
      dsimp only
      rw [← e5, bo_congr hk]
      repeat' ((first
       | refine .bt (by first | assumption | (simp (disch := omega) only [zs, w64, zt]; first | done | omega)) ?_
       | refine .bf (by first | assumption | (simp (disch := omega) only [zs, w64, zt]; first | done | omega)) ?_
       | refine .some (lg0 (by omega)) ?_
       | refine .some (lg (by omega)) ?_
       | refine .some (lgI (by omega) (by omega)) ?_
       | (refine .bif (fun zz => ?_) (fun zz => ?_) <;> try simp (disch := omega) only [zs, w64, zt] at zz)) <;> try dsimp only)
      · rw [bo_t (trap_yes hj (e3.2 (by assumption)))]; exact Tq.ret rfl
      · rw [bo_congr (trap_next (fun h => absurd (by assumption) (e3.1 h)))]
        exact ih (j + 1) (by omega)
    · by_cases c8 : e[j].1 = 8 ∨ e[j].1 = 9
      · obtain ⟨pre, f, rfl, hpre, hf, h2a⟩ := ho 1 (by rcases c8 with c | c <;> rw [c] <;> rfl)
        obtain ⟨x, rfl⟩ : ∃ x, pre = [x] := List.length_eq_one_iff.1 hpre
        obtain ⟨a1, a2⟩ := ahead h2a
        have hk := last_part ha h2a hf (fun t => t.2.1 < sz p.1 ∧ t.2.1 ≠ 0)
        rw [a1] at hk
        have h4 := he.2.1.2 _ (List.getElem_mem a2)
        rw [← tmAt_lt a2] at h4
        have e3 : TrapAt p e j ↔ ¬ ((tmAt e (j - 1)).1 = 0 ∧ (tmAt e (j - 1)).2.1 < sz p.1 ∧ (tmAt e (j - 1)).2.1 ≠ 0) := by
          unfold TrapAt; rw [e2]
          unfold NmOk at h4
          constructor
          · intro h; omega
          · intro h; omega
        have hkn := known_t (sl (sl e s (j + 1)) f ((sl e s (j + 1)).length - 1)) (sz p.1)
        rw [bo_congr hk] at hkn
        generalize hP : sl (sl e s (j + 1)) f ((sl e s (j + 1)).length - 1) = P at hkn
        have hget : lget ([x] ++ [P]) (Int.toNat 1) = some P := rfl
        have hlen : (decide ((0 : Int) ≤ 1) && decide (Int.toNat 1 < ([x] ++ [P]).length)) = true := rfl
        repeat' ((first
         | (refine Tq.bt hlen ?_)
         | refine .ba (size_ans p h.w) ?_
         | (refine Tq.some hget ?_)
         | refine .ba (hkn) ?_
         | refine .bt (by first | assumption | (simp (disch := omega) only [zs, w64, zt]; first | done | omega)) ?_
         | refine .bf (by first | assumption | (simp (disch := omega) only [zs, w64, zt]; first | done | omega)) ?_
         | refine .some (lg0 (by omega)) ?_
         | refine .some (lg (by omega)) ?_
         | refine .some (lgI (by omega) (by omega)) ?_
         | (refine .bif (fun zz => ?_) (fun zz => ?_) <;> try simp (disch := omega) only [zs, w64, zt] at zz)) <;> try dsimp only)
        all_goals first
          | (rw [bo_t (trap_yes hj (e3.2 (by assumption)))]; exact Tq.ret rfl)
          | (rw [bo_congr (trap_next (fun h => absurd (by assumption) (e3.1 h)))]
             exact ih (j + 1) (by omega))
      · have e3 : ¬ TrapAt p e j := by
          unfold TrapAt; rw [e2]; omega
        repeat' ((first
         | refine .bt (by first | assumption | (simp (disch := omega) only [zs, w64, zt]; first | done | omega)) ?_
         | refine .bf (by first | assumption | (simp (disch := omega) only [zs, w64, zt]; first | done | omega)) ?_
         | refine .some (lg0 (by omega)) ?_
         | refine .some (lg (by omega)) ?_
         | refine .some (lgI (by omega) (by omega)) ?_
         | (refine .bif (fun zz => ?_) (fun zz => ?_) <;> try simp (disch := omega) only [zs, w64, zt] at zz)) <;> try dsimp only)
        rw [bo_congr (trap_next e3)]
        exact ih (j + 1) (by omega)
theorem sTrap_ans (p : Pg) (h : Hd p) (e : List Tm) (he : Sub p e) : Ans n_spec_l9May s_spec_l9May (p, e, ()) ((bo (Trap p e), ()), ()) := by
  refine Gv.ans (Gv.of (fun k => spec_l9May.F_eq (cl k) k p e) ?_)
  unfold spec_l9May.F spec_l9May.Fm
  exact Tq.diag (sTrap_loop p h e he _ 0 rfl)
/-! ### Statements -/
def STrap (p : Pg) (s : Sm) : Prop := Trap p s.2.2.1 ∨ Trap p s.2.2.2.1 ∨ (s.1 = 1 ∧ ¬ (s.2.2.1.length = 1 ∧ (tmAt s.2.2.1 0).1 = 0 ∧ (tmAt s.2.2.1 0).2.1 < arrAt p s.2.1))
theorem StOk.sub {p : Pg} {s : Sm} (h : StOk p s) : Sub p s.2.2.1 ∧ Sub p s.2.2.2.1 := by
  obtain ⟨h1, h2, h3, h4⟩ := h
  refine ⟨?_, ?_⟩
  · by_cases c : s.1 = 1
    · exact .inr (h3.1 c)
    · exact .inl (h3.2 c)
  · by_cases c : s.1 = 0 ∨ s.1 = 1 ∨ s.1 = 2 ∨ s.1 = 6
    · exact .inr (h4.1 c)
    · exact .inl (h4.2 c)
theorem iSTrap_ans (p : Pg) (h : Hd p) (s : Sm) (hs : StOk p s) : Ans n_impl_stmtTraps s_impl_stmtTraps (p, s, ()) ((bo (STrap p s), ()), ()) := by
  have hb := h.b
  have h2 := hs.2.1.2.1
  refine Gv.ans (Gv.of (fun k => impl_stmtTraps.F_eq (cl k) k p s) ?_)
  unfold impl_stmtTraps.F impl_stmtTraps.Fm
  repeat' ((first
   | refine .ba (iTrap_ans p h _ hs.sub.1) ?_
   | refine .ba (iTrap_ans p h _ hs.sub.2) ?_
   | refine .bt (by first | assumption | (simp (disch := omega) only [zs, w64, zt]; first | done | omega)) ?_
   | refine .bf (by first | assumption | (simp (disch := omega) only [zs, w64, zt]; first | done | omega)) ?_
   | refine .some (lg0 (by omega)) ?_
   | refine .some (lg (by omega)) ?_
   | refine .some (lgI (by omega) (by omega)) ?_
   | (refine .bif (fun zz => ?_) (fun zz => ?_) <;> try simp (disch := omega) only [zs, w64, zt] at zz)) <;> try dsimp only)
  · rw [bo_t (.inl (by assumption))]; exact Tq.ret rfl
  · rw [bo_t (.inr (.inl (by assumption)))]; exact Tq.ret rfl
  · rw [← arrAt_lt (p := p) (n := s.2.1) (by omega)]
    refine Tq.bind (below_ans _ _).tq ?_
    rintro y rfl
    refine Tq.ret ?_
    unfold STrap
    by_cases c : s.2.2.1.length = 1 ∧ (tmAt s.2.2.1 0).1 = 0 ∧ (tmAt s.2.2.1 0).2.1 < arrAt p s.2.1
    · rw [bo_t c, bo_f]; rfl
      rintro (h | h | h)
      · exact absurd h (by assumption)
      · exact absurd h (by assumption)
      · exact h.2 c
    · rw [bo_f c, bo_t (.inr (.inr ⟨by assumption, c⟩))]; rfl
  · rw [bo_f]
    · exact Tq.ret rfl
    rintro (h | h | h)
    · exact absurd h (by assumption)
    · exact absurd h (by assumption)
    · exact absurd h.1 (by assumption)
theorem sSTrap_ans (p : Pg) (h : Hd p) (s : Sm) (hs : StOk p s) : Ans n_spec_l9Stmt s_spec_l9Stmt (p, s, ()) ((bo (STrap p s), ()), ()) := by
  have hb := h.b
  have h2 := hs.2.1.2.1
  refine Gv.ans (Gv.of (fun k => spec_l9Stmt.F_eq (cl k) k p s) ?_)
  unfold spec_l9Stmt.F spec_l9Stmt.Fm
  repeat' ((first
   | refine .ba (sTrap_ans p h _ hs.sub.1) ?_
   | refine .ba (sTrap_ans p h _ hs.sub.2) ?_
   | refine .bt (by first | assumption | (simp (disch := omega) only [zs, w64, zt]; first | done | omega)) ?_
   | refine .bf (by first | assumption | (simp (disch := omega) only [zs, w64, zt]; first | done | omega)) ?_
   | refine .some (lg0 (by omega)) ?_
   | refine .some (lg (by omega)) ?_
   | refine .some (lgI (by omega) (by omega)) ?_
   | (refine .bif (fun zz => ?_) (fun zz => ?_) <;> try simp (disch := omega) only [zs, w64, zt] at zz)) <;> try dsimp only)
  · rw [bo_t (.inl (by assumption))]; exact Tq.ret rfl
  · rw [bo_t (.inr (.inl (by assumption)))]; exact Tq.ret rfl
  · rw [← arrAt_lt (p := p) (n := s.2.1) (by omega)]
    refine Tq.bind (known_f _ _).tq ?_
    rintro y rfl
    refine Tq.ret ?_
    unfold STrap
    by_cases c : s.2.2.1.length = 1 ∧ (tmAt s.2.2.1 0).1 = 0 ∧ (tmAt s.2.2.1 0).2.1 < arrAt p s.2.1
    · rw [bo_t c, bo_f]; rfl
      rintro (h | h | h)
      · exact absurd h (by assumption)
      · exact absurd h (by assumption)
      · exact h.2 c
    · rw [bo_f c, bo_t (.inr (.inr ⟨by assumption, c⟩))]; rfl
  · rw [bo_f]
    · exact Tq.ret rfl
    rintro (h | h | h)
    · exact absurd h (by assumption)
    · exact absurd h (by assumption)
    · exact absurd h.1 (by assumption)
end Go.Proofs.Ytafgkoelefpacaa.Pf
