/- Labels of expressions: both sides answer the same. Its condition: names are there, labels are below 8. -/
import Derived.Test.YtafgkoelefpacaaPfN
set_option maxHeartbeats 2000000
set_option linter.all false
namespace Go.Proofs.Ytafgkoelefpacaa.Pf
open Go Go.Pv
/-! ### Two labels united -/
def un (a b : Int) : Int := ((a.toNat ||| b.toNat : Nat) : Int)
theorem un_nat (a b : Nat) : un a b = ((a ||| b : Nat) : Int) := by
  unfold un; rw [Int.toNat_natCast, Int.toNat_natCast]
theorem un_comm (a b : Int) : un a b = un b a := by unfold un; rw [Nat.or_comm]
theorem un_assoc (a b c : Int) : un (un a b) c = un a (un b c) := by unfold un; rw [Int.toNat_natCast, Int.toNat_natCast, Nat.or_assoc]
theorem un_zero {a : Int} (h : 0 ≤ a) : un a 0 = a := by
  obtain ⟨n, rfl⟩ : ∃ n : Nat, a = n := ⟨a.toNat, by omega⟩
  rw [show (0 : Int) = ((0 : Nat) : Int) from rfl, un_nat, Nat.or_zero]
theorem un_self {a : Int} (h : 0 ≤ a) : un a a = a := by
  obtain ⟨n, rfl⟩ : ∃ n : Nat, a = n := ⟨a.toNat, by omega⟩
  rw [un_nat, Nat.or_self]
def Lb (a : Int) : Prop := 0 ≤ a ∧ a < 8
theorem un_lb {a b : Int} (ha : Lb a) (hb : Lb b) : Lb (un a b) := by
  obtain ⟨n, rfl⟩ : ∃ n : Nat, a = n := ⟨a.toNat, by have := ha.1; omega⟩
  obtain ⟨m, rfl⟩ : ∃ m : Nat, b = m := ⟨b.toNat, by have := hb.1; omega⟩
  have h1 := ha.2
  have h2 := hb.2
  have : n ||| m < 2 ^ 3 := Nat.or_lt_two_pow (by omega) (by omega)
  rw [un_nat]
  exact ⟨by omega, by omega⟩
theorem bitsI_or {a b : Nat} (ha : a < 2 ^ 32) (hb : b < 2 ^ 32) : bitsI .or .i64 (a : Int) (b : Int) = ((a ||| b : Nat) : Int) := by
  have h1 : a ||| b < 2 ^ 32 := Nat.or_lt_two_pow ha hb
  show IntKind.i64.wrap (((BitVec.ofInt 64 (a : Int)) ||| (BitVec.ofInt 64 (b : Int))).toNat : Int) = _
  rw [BitVec.ofInt_natCast, BitVec.ofInt_natCast, BitVec.toNat_or, BitVec.toNat_ofNat, BitVec.toNat_ofNat, Nat.mod_eq_of_lt (by omega), Nat.mod_eq_of_lt (by omega)]
  exact w64 (by omega) (by omega)
theorem or_lb {a b : Int} (ha : Lb a) (hb : Lb b) : bitsI .or .i64 a b = un a b := by
  obtain ⟨n, rfl⟩ : ∃ n : Nat, a = n := ⟨a.toNat, by have := ha.1; omega⟩
  obtain ⟨m, rfl⟩ : ∃ m : Nat, b = m := ⟨b.toNat, by have := hb.1; omega⟩
  have h1 := ha.2
  have h2 := hb.2
  rw [un_nat, bitsI_or (by omega) (by omega)]
def ub (a b u : Int) : Int := if a / u % 2 = 1 ∨ b / u % 2 = 1 then u else 0
theorem unite_step {a b : Int} (ha : Lb a) (hb : Lb b) {P : (Int × Unit) × Unit → Prop} {d : Nat} {n u : Int} (hn : 0 ≤ n ∧ n ≤ 100) (hu : u = 1 ∨ u = 2 ∨ u = 4 ∨ u = 8)
    (h : Tq d (fun k q => spec_l9Unite.L0 (cl k) k a b q (n + ub a b u) (u * 2)) P) : Tq (d + 1) (fun k q => spec_l9Unite.L0 (cl k) k a b q n u) P := by
  obtain ⟨a1, a2⟩ := ha
  obtain ⟨b1, b2⟩ := hb
  refine Tq.succ ?_
  show Tq d (fun k q => spec_l9Unite.step0 (cl k) k a b (spec_l9Unite.L0 (cl k) k a b q) n u) _
  unfold spec_l9Unite.step0
  unfold ub at h
  rcases hu with rfl | rfl | rfl | rfl
  all_goals
    rw [Int.tdiv_eq_ediv_of_nonneg a1, Int.tdiv_eq_ediv_of_nonneg b1]
    simp (disch := omega) only [w64, Int.tmod_eq_emod_of_nonneg]
  all_goals repeat' ((first
   | refine .bt (by first | assumption | (simp (disch := omega) only [zs, w64, zt]; first | done | omega)) ?_
   | refine .bf (by first | assumption | (simp (disch := omega) only [zs, w64, zt]; first | done | omega)) ?_
   | refine .some (lg0 (by omega)) ?_
   | refine .some (lg (by omega)) ?_
   | refine .some (lgI (by omega) (by omega)) ?_
   | (refine .bif (fun zz => ?_) (fun zz => ?_) <;> try simp (disch := omega) only [zs, w64, zt] at zz)) <;> try dsimp only)
  all_goals first
    | (rw [if_pos (by omega)] at h; exact h)
    | (rw [if_neg (by omega), Int.add_zero] at h; exact h)
theorem ub_sum : ∀ a b : Fin 8, 0 + ub (a.val : Int) (b.val : Int) 1 + ub (a.val : Int) (b.val : Int) 2 + ub (a.val : Int) (b.val : Int) 4 + ub (a.val : Int) (b.val : Int) 8 = un (a.val : Int) (b.val : Int) := by
  unfold ub un
  decide
theorem unite_ans {a b : Int} (ha : Lb a) (hb : Lb b) : Ans n_spec_l9Unite s_spec_l9Unite (a, b, ()) ((un a b, ()), ()) := by
  refine Gv.ans (Gv.of (fun k => spec_l9Unite.F_eq (cl k) k a b) ?_)
  unfold spec_l9Unite.F spec_l9Unite.Fm
  have hs : 0 + ub a b 1 + ub a b 2 + ub a b 4 + ub a b 8 = un a b := by
    obtain ⟨n, rfl⟩ : ∃ n : Nat, a = n := ⟨a.toNat, by have := ha.1; omega⟩
    obtain ⟨m, rfl⟩ : ∃ m : Nat, b = m := ⟨b.toNat, by have := hb.1; omega⟩
    exact ub_sum ⟨n, by have := ha.2; omega⟩ ⟨m, by have := hb.2; omega⟩
  have u1 : ∀ u, 0 ≤ u → 0 ≤ ub a b u ∧ ub a b u ≤ u := by
    intro u hu
    unfold ub
    split <;> omega
  have v1 := u1 1 (by omega)
  have v2 := u1 (1 * 2) (by omega)
  have v3 := u1 (1 * 2 * 2) (by omega)
  have v4 := u1 (1 * 2 * 2 * 2) (by omega)
  refine Tq.diag (d := 4 + 1) (unite_step ha hb (by omega) (by omega) (unite_step ha hb (by omega) (by omega) (unite_step ha hb (by omega) (by omega) (unite_step ha hb (by omega) (by omega) ?_))))
  refine Tq.succ (d := 0) ?_
  show Tq 0 (fun k q => spec_l9Unite.step0 (cl k) k a b (spec_l9Unite.L0 (cl k) k a b q) (0 + ub a b 1 + ub a b (1 * 2) + ub a b (1 * 2 * 2) + ub a b (1 * 2 * 2 * 2)) (1 * 2 * 2 * 2 * 2)) _
  unfold spec_l9Unite.step0
  repeat' ((first
   | refine .bt (by first | assumption | (simp (disch := omega) only [zs, w64, zt]; first | done | omega)) ?_
   | refine .bf (by first | assumption | (simp (disch := omega) only [zs, w64, zt]; first | done | omega)) ?_
   | refine .some (lg0 (by omega)) ?_
   | refine .some (lg (by omega)) ?_
   | refine .some (lgI (by omega) (by omega)) ?_
   | (refine .bif (fun zz => ?_) (fun zz => ?_) <;> try simp (disch := omega) only [zs, w64, zt] at zz)) <;> try dsimp only)
  exact Tq.ret (ret1 hs)
/-! ### Labels of expressions -/
def geti (l : List Int) (n : Int) : Int := if h : n.toNat < l.length then l[n.toNat] else 0
theorem geti_lt {l : List Int} {n : Int} (h : n.toNat < l.length) : geti l n = l[n.toNat] := dif_pos h
def Lbs (l : List Int) : Prop := ∀ x ∈ l, Lb x
theorem geti_lb {l : List Int} (h : Lbs l) (n : Int) : Lb (geti l n) := by
  unfold geti
  split
  · exact h _ (List.getElem_mem _)
  · exact ⟨by omega, by omega⟩
def lab1 (V A : List Int) (n : Int) (t : Tm) : Int := if t.1 = 1 then un n (geti V t.2.1) else if t.1 = 2 then un n (geti A t.2.1) else n
def labF (V A : List Int) (n : Int) (e : List Tm) : Int := e.foldl (lab1 V A) n
def lab (V A : List Int) (e : List Tm) : Int := labF V A 0 e
theorem lab1_lb {V A : List Int} (hV : Lbs V) (hA : Lbs A) {n : Int} (hn : Lb n) (t : Tm) : Lb (lab1 V A n t) := by
  unfold lab1
  split
  · exact un_lb hn (geti_lb hV _)
  · split
    · exact un_lb hn (geti_lb hA _)
    · exact hn
theorem labF_lb {V A : List Int} (hV : Lbs V) (hA : Lbs A) : ∀ (e : List Tm) {n : Int}, Lb n → Lb (labF V A n e)
  | [], n, hn => hn
  | t :: e, n, hn => labF_lb hV hA e (lab1_lb hV hA hn t)
theorem lb0 : Lb 0 := ⟨by omega, by omega⟩
theorem lab_lb {V A : List Int} (hV : Lbs V) (hA : Lbs A) (e : List Tm) : Lb (lab V A e) := labF_lb hV hA e lb0
theorem labF_drop {V A : List Int} {n : Int} {e : List Tm} {j : Nat} (hj : j < e.length) : labF V A n (e.drop j) = labF V A (lab1 V A n e[j]) (e.drop (j + 1)) := by
  rw [List.drop_eq_getElem_cons hj]; rfl
theorem labF_end {V A : List Int} {n : Int} {e : List Tm} {j : Nat} (hj : e.length ≤ j) : labF V A n (e.drop j) = n := by
  rw [List.drop_of_length_le hj]; rfl
def Idx (V A : List Int) (e : List Tm) : Prop := e.length ≤ 1048576 ∧ ∀ t ∈ e, (t.1 = 1 → 0 ≤ t.2.1 ∧ t.2.1 < V.length) ∧ (t.1 = 2 → 0 ≤ t.2.1 ∧ t.2.1 < A.length)
theorem Sub.idx {p : Pg} {e : List Tm} (h : Sub p e) {V A : List Int} (hV : (V.length : Int) = Vrs p) (hA : A.length = p.2.2.2.2.1.length) : Idx V A e := by
  rcases h with h | h
  · obtain rfl := List.length_eq_zero_iff.1 h
    exact ⟨by simp, fun t ht => by cases ht⟩
  · refine ⟨by have := h.1; omega, fun t ht => ?_⟩
    obtain ⟨i, hi, rfl⟩ := List.getElem_of_mem ht
    have h1 := h.2.1.1.at hi
    have h2 := h.2.1.2 _ (List.getElem_mem hi)
    unfold TmOk at h1
    unfold NmOk at h2
    exact ⟨fun e => ⟨by omega, by have := h2.2.1 e; omega⟩, fun e => ⟨by omega, by have := h2.2.2 e; omega⟩⟩
theorem iLab_loop (V A : List Int) (E K : Int) (hV : Lbs V) (hA : Lbs A) (e : List Tm) (he : Idx V A e) : ∀ (d j : Nat) (n : Int), e.length - j = d → Lb n →
    Tq (d + 1) (fun k q => impl_Flow_label.L0 (cl k) k (V, A, E, K, ()) e q n (j : Int)) (· = ((labF V A n (e.drop j), ()), (V, A, E, K, ()), ())) := by
  intro d
  induction d with
  | zero =>
    intro j n hd hn
    refine Tq.succ ?_
    show Tq 0 (fun k q => impl_Flow_label.step0 (cl k) k (V, A, E, K, ()) e (impl_Flow_label.L0 (cl k) k (V, A, E, K, ()) e q) n (j : Int)) _
    unfold impl_Flow_label.step0
    repeat' ((first
     | refine .bt (by first | assumption | (simp (disch := omega) only [zs, w64, zt]; first | done | omega)) ?_
     | refine .bf (by first | assumption | (simp (disch := omega) only [zs, w64, zt]; first | done | omega)) ?_
     | refine .some (lg0 (by omega)) ?_
     | refine .some (lg (by omega)) ?_
     | refine .some (lgI (by omega) (by omega)) ?_
     | (refine .bif (fun zz => ?_) (fun zz => ?_) <;> try simp (disch := omega) only [zs, w64, zt] at zz)) <;> try dsimp only)
    rw [labF_end (by omega)]
    exact Tq.ret rfl
  | succ d ih =>
    intro j n hd hn
    have hj : j < e.length := by omega
    have h1 := he.2 _ (List.getElem_mem hj)
    have h2 := he.1
    refine Tq.succ ?_
    show Tq (d + 1) (fun k q => impl_Flow_label.step0 (cl k) k (V, A, E, K, ()) e (impl_Flow_label.L0 (cl k) k (V, A, E, K, ()) e q) n (j : Int)) _
    unfold impl_Flow_label.step0
    rw [labF_drop hj]
    unfold lab1
    repeat' ((first
     | refine .bt (by first | assumption | (simp (disch := omega) only [zs, w64, zt]; first | done | omega)) ?_
     | refine .bf (by first | assumption | (simp (disch := omega) only [zs, w64, zt]; first | done | omega)) ?_
     | refine .some (lg0 (by omega)) ?_
     | refine .some (lg (by omega)) ?_
     | refine .some (lgI (by omega) (by omega)) ?_
     | (refine .bif (fun zz => ?_) (fun zz => ?_) <;> try simp (disch := omega) only [zs, w64, zt] at zz)) <;> try dsimp only)
    · rw [if_pos (by assumption), ← geti_lt (l := V) (n := e[j].2.1) (by omega), or_lb hn (geti_lb hV _), ws hj (by omega)]
      exact ih (j + 1) _ (by omega) (un_lb hn (geti_lb hV _))
    · rw [if_neg (by omega), if_pos (by assumption), ← geti_lt (l := A) (n := e[j].2.1) (by omega), or_lb hn (geti_lb hA _), ws hj (by omega)]
      exact ih (j + 1) _ (by omega) (un_lb hn (geti_lb hA _))
    · rw [if_neg (by omega), if_neg (by omega), ws hj (by omega)]
      exact ih (j + 1) _ (by omega) hn
theorem iLab_ans (V A : List Int) (E K : Int) (hV : Lbs V) (hA : Lbs A) (e : List Tm) (he : Idx V A e) : Ans n_impl_Flow_label s_impl_Flow_label ((V, A, E, K, ()), e, ()) ((lab V A e, ()), (V, A, E, K, ()), ()) := by
  refine Gv.ans (Gv.of (fun k => impl_Flow_label.F_eq (cl k) k (V, A, E, K, ()) e) ?_)
  unfold impl_Flow_label.F impl_Flow_label.Fm
  exact Tq.diag (iLab_loop V A E K hV hA e he _ 0 0 rfl lb0)
theorem sLab_loop (V A : List Int) (E K : Int) (hV : Lbs V) (hA : Lbs A) (e : List Tm) (he : Idx V A e) : ∀ (d j : Nat) (n : Int), e.length - j = d → Lb n →
    Tq (d + 1) (fun k q => spec_l9Label.L0 (cl k) k (V, A, E, K, ()) e q n (j : Int)) (· = ((labF V A n (e.drop j), ()), ())) := by
  intro d
  induction d with
  | zero =>
    intro j n hd hn
    refine Tq.succ ?_
    show Tq 0 (fun k q => spec_l9Label.step0 (cl k) k (V, A, E, K, ()) e (spec_l9Label.L0 (cl k) k (V, A, E, K, ()) e q) n (j : Int)) _
    unfold spec_l9Label.step0
    repeat' ((first
     | refine .bt (by first | assumption | (simp (disch := omega) only [zs, w64, zt]; first | done | omega)) ?_
     | refine .bf (by first | assumption | (simp (disch := omega) only [zs, w64, zt]; first | done | omega)) ?_
     | refine .some (lg0 (by omega)) ?_
     | refine .some (lg (by omega)) ?_
     | refine .some (lgI (by omega) (by omega)) ?_
     | (refine .bif (fun zz => ?_) (fun zz => ?_) <;> try simp (disch := omega) only [zs, w64, zt] at zz)) <;> try dsimp only)
    rw [labF_end (by omega)]
    exact Tq.ret rfl
  | succ d ih =>
    intro j n hd hn
    have hj : j < e.length := by omega
    have h1 := he.2 _ (List.getElem_mem hj)
    have h2 := he.1
    refine Tq.succ ?_
    show Tq (d + 1) (fun k q => spec_l9Label.step0 (cl k) k (V, A, E, K, ()) e (spec_l9Label.L0 (cl k) k (V, A, E, K, ()) e q) n (j : Int)) _
    unfold spec_l9Label.step0
    rw [labF_drop hj]
    unfold lab1
    repeat' ((first
     | refine .bt (by first | assumption | (simp (disch := omega) only [zs, w64, zt]; first | done | omega)) ?_
     | refine .bf (by first | assumption | (simp (disch := omega) only [zs, w64, zt]; first | done | omega)) ?_
     | refine .some (lg0 (by omega)) ?_
     | refine .some (lg (by omega)) ?_
     | refine .some (lgI (by omega) (by omega)) ?_
     | (refine .bif (fun zz => ?_) (fun zz => ?_) <;> try simp (disch := omega) only [zs, w64, zt] at zz)) <;> try dsimp only)
    · rw [if_pos (by assumption), ← geti_lt (l := V) (n := e[j].2.1) (by omega), ws hj (by omega)]
      refine Tq.bind (unite_ans hn (geti_lb hV _)).tq ?_
      rintro y rfl
      exact ih (j + 1) _ (by omega) (un_lb hn (geti_lb hV _))
    · rw [if_neg (by omega), if_pos (by assumption), ← geti_lt (l := A) (n := e[j].2.1) (by omega), ws hj (by omega)]
      refine Tq.bind (unite_ans hn (geti_lb hA _)).tq ?_
      rintro y rfl
      exact ih (j + 1) _ (by omega) (un_lb hn (geti_lb hA _))
    · rw [if_neg (by omega), if_neg (by omega), ws hj (by omega)]
      exact ih (j + 1) _ (by omega) hn
theorem sLab_ans (V A : List Int) (E K : Int) (hV : Lbs V) (hA : Lbs A) (e : List Tm) (he : Idx V A e) : Ans n_spec_l9Label s_spec_l9Label ((V, A, E, K, ()), e, ()) ((lab V A e, ()), ()) := by
  refine Gv.ans (Gv.of (fun k => spec_l9Label.F_eq (cl k) k (V, A, E, K, ()) e) ?_)
  unfold spec_l9Label.F spec_l9Label.Fm
  exact Tq.diag (sLab_loop V A E K hV hA e he _ 0 0 rfl lb0)
end Go.Proofs.Ytafgkoelefpacaa.Pf
