/- ShowVerdict's law, in pure words. No condition. -/
import Derived.Test.YtbalepejjjmioaaDoorPfE
import Derived.Test.YtbalepejjjmioaaDoorPfT2
namespace Go.Proofs.YtbalepejjjmioaaDoor.Pf
open Go Go.Pv

abbrev Ln := Int × (Int × (Int × (Bool × Unit)))
abbrev Vd := Int × (List Ln × (Ln × (Bool × Unit)))
def LnR (x : Ln) : Prop := Rg x.1 ∧ Rg x.2.1 ∧ Rg x.2.2.1
theorem LnR.mem {x : Ln} (h : LnR x) : ∀ n ∈ [x.1, x.2.1, x.2.2.1], Rg n := by
  intro n hn
  simp only [List.mem_cons, List.not_mem_nil, or_false] at hn
  rcases hn with rfl | rfl | rfl
  · exact h.1
  · exact h.2.1
  · exact h.2.2
/-- A line behind its name. -/
def lS (x : Ln) : List UInt8 := [32] ++ J [x.1, x.2.1, x.2.2.1] ++ (if x.2.2.2.1 = true then [32, 121, 101, 115, 10] else [32, 110, 111, 10])
theorem lS_len {x : Ln} (h : LnR x) : (lS x).length ≤ 100 := by
  have h1 := J_len h.mem
  have h2 : (if x.2.2.2.1 = true then ([32, 121, 101, 115, 10] : List UInt8) else [32, 110, 111, 10]).length ≤ 5 := by split <;> decide
  unfold lS
  simp only [List.length_append, List.length_cons, List.length_nil] at h1 h2 ⊢
  omega
theorem yesNo_ans (b : Bool) : Ans n_impl_yesNo s_impl_yesNo (b, ()) ((ba (if b = true then [121, 101, 115] else [110, 111]), ()), ()) := by
  refine Gv.ans (Gv.of (fun k => impl_yesNo.F_eq (cl k) k b) ?_)
  unfold impl_yesNo.F impl_yesNo.Fm
  cases b
  · exact Tq.ret rfl
  · exact Tq.ret rfl
theorem lineText_ans (nm : List UInt8) (hn : nm.length ≤ 1000) (x : Ln) (h : LnR x) : Ans n_impl_lineText s_impl_lineText (ba nm, x, ()) ((ba (nm ++ lS x), ()), ()) := by
  have h1 := J_len h.mem
  simp only [List.length_cons, List.length_nil] at h1
  obtain ⟨c, b, g, f, ⟨⟩⟩ := x
  have h1 : (J [c, b, g]).length ≤ 66 := by simpa using h1
  refine Gv.ans (Gv.of (fun k => impl_lineText.F_eq (cl k) k (ba nm) (c, b, g, f, ())) ?_)
  unfold impl_lineText.F impl_lineText.Fm
  refine Tq.bt (le63 ?_) (Tq.bind (spaced_ans [c, b, g] (by simp) h.mem).tq fun y hy => ?_)
  · show (ba nm).size + 1 ≤ _
    rw [ba_size]; omega
  subst hy
  refine Tq.bt (le63 ?_) (Tq.bt (le63 ?_) (Tq.bind (yesNo_ans f).tq fun y hy => ?_))
  · show (ba nm ++ ba [32]).size + (ba (J [c, b, g])).size ≤ _
    rw [ba_app, ba_size, ba_size, List.length_append]; simp only [List.length_cons, List.length_nil]; omega
  · show (ba nm ++ ba [32] ++ ba (J [c, b, g])).size + 1 ≤ _
    rw [ba_app, ba_app, ba_size, List.length_append, List.length_append]; simp only [List.length_cons, List.length_nil]; omega
  subst hy
  have h2 : (if f = true then ([121, 101, 115] : List UInt8) else [110, 111]).length ≤ 3 := by split <;> decide
  refine Tq.bt (le63 ?_) (Tq.bt (le63 ?_) (Tq.ret ?_))
  · show (ba nm ++ ba [32] ++ ba (J [c, b, g]) ++ ba [32]).size + (ba _).size ≤ _
    rw [ba_app, ba_app, ba_app, ba_size, ba_size, List.length_append, List.length_append, List.length_append]; simp only [List.length_cons, List.length_nil] at h2 ⊢; omega
  · show (ba nm ++ ba [32] ++ ba (J [c, b, g]) ++ ba [32] ++ ba _).size + 1 ≤ _
    rw [ba_app, ba_app, ba_app, ba_app, ba_size, List.length_append, List.length_append, List.length_append, List.length_append]; simp only [List.length_cons, List.length_nil] at h2 ⊢; omega
  · show ((ba nm ++ ba [32] ++ ba (J [c, b, g]) ++ ba [32] ++ ba _ ++ ba [10], ()), ()) = _
    simp only [ba_app, lS]
    cases f <;> simp
theorem l18Line_ans (x : Ln) (h : LnR x) : Ans n_spec_l18Line s_spec_l18Line (x, ()) ((ba (lS x), ()), ()) := by
  have h1 := J_len h.mem
  obtain ⟨c, b, g, f, ⟨⟩⟩ := x
  have h1 : (J [c, b, g]).length ≤ 66 := by simpa using h1
  refine Gv.ans (Gv.of (fun k => spec_l18Line.F_eq (cl k) k (c, b, g, f, ())) ?_)
  unfold spec_l18Line.F spec_l18Line.Fm
  refine Tq.bind (l1Ints_ans [c, b, g] (by simp) h.mem).tq fun y hy => ?_
  subst hy
  refine Tq.bt (le63 ?_) ?_
  · show 1 + (ba (J [c, b, g])).size ≤ _
    rw [ba_size]; omega
  cases f
  · refine Tq.bf rfl (Tq.bt (le63 ?_) (Tq.ret ?_))
    · show (ba [32] ++ ba (J [c, b, g])).size + 4 ≤ _
      rw [ba_app, ba_size, List.length_append]; simp only [List.length_cons, List.length_nil]; omega
    · show ((ba [32] ++ ba (J [c, b, g]) ++ ba [32, 110, 111, 10], ()), ()) = _
      simp only [ba_app, lS]; rfl
  · refine Tq.bt rfl (Tq.bt (le63 ?_) (Tq.ret ?_))
    · show (ba [32] ++ ba (J [c, b, g])).size + 5 ≤ _
      rw [ba_app, ba_size, List.length_append]; simp only [List.length_cons, List.length_nil]; omega
    · show ((ba [32] ++ ba (J [c, b, g]) ++ ba [32, 121, 101, 115, 10], ()), ()) = _
      simp only [ba_app, lS]; rfl

/-! ### Verdicts -/
def secL : List UInt8 := [115, 101, 99, 114, 101, 116, 32]
/-- The lines from a place on. -/
def vL : List Ln → Nat → List UInt8
  | [], _ => []
  | x :: l, j => secL ++ Lib.itoa (j : Int) ++ lS x ++ vL l (j + 1)
theorem vL_len : ∀ {l : List Ln} {j : Nat}, (∀ x ∈ l, LnR x) → j + l.length ≤ 1048576 → (vL l j).length ≤ 200 * l.length
  | [], _, _, _ => by simp [vL]
  | x :: l, j, h, hj => by
    have h1 := vL_len (l := l) (j := j + 1) (fun y hy => h y (List.mem_cons_of_mem _ hy)) (by simp only [List.length_cons] at hj; omega)
    have h2 := lS_len (h x List.mem_cons_self)
    have h3 := Lib.itoa_length_le (j : Int) (by omega) (by simp only [List.length_cons] at hj; omega)
    simp only [vL, secL, List.length_append, List.length_cons, List.length_nil] at h1 ⊢
    omega
def vEnd (v : Vd) : List UInt8 := [106, 111, 105, 110, 116] ++ lS v.2.2.1 ++ (if v.2.2.2.1 = true then [97, 99, 99, 101, 112, 116, 10] else [114, 101, 106, 101, 99, 116, 10])
/-- What is shown of a verdict. -/
def vS (v : Vd) : List UInt8 := if v.1 = 0 then vL v.2.1 0 ++ vEnd v else [98, 97, 100, 32] ++ Lib.itoa v.1 ++ [10]

theorem implV_loop (v : Vd) (hl : v.2.1.length ≤ 1048576) (hr : ∀ x ∈ v.2.1, LnR x) (hj : LnR v.2.2.1) : ∀ (d j : Nat) (acc : List UInt8), v.2.1.length - j = d → j ≤ v.2.1.length → acc.length ≤ 300 * j →
    Tq (d + 1) (fun k q => impl_ShowVerdict.L0 (cl k) k v q (ba acc) (j : Int)) (· = ((ba (acc ++ (vL (v.2.1.drop j) j ++ vEnd v)), ()), ()))
  | 0, j, acc, hd, hjl, ha => by
    have h2 := lS_len hj
    refine Tq.succ ?_
    show Tq 0 (fun k q => impl_ShowVerdict.step0 (cl k) k v (impl_ShowVerdict.L0 (cl k) k v q) (ba acc) (j : Int)) _
    unfold impl_ShowVerdict.step0
    refine Tq.bf (dnlt (show v.2.1.length ≤ j by omega)) (Tq.bind (lineText_ans [106, 111, 105, 110, 116] (by decide) v.2.2.1 hj).tq fun y hy => ?_)
    subst hy
    rw [List.drop_of_length_le (by omega)]
    refine Tq.bt (le63 ?_) ?_
    · show (ba acc).size + (ba _).size ≤ _
      rw [ba_size, ba_size, List.length_append]; simp only [List.length_cons, List.length_nil]; omega
    unfold vEnd
    refine Tq.bif (fun hb => Tq.bt (le63 ?_) (Tq.ret ?_)) (fun hb => Tq.bt (le63 ?_) (Tq.ret ?_))
    · show (ba acc ++ ba _).size + 7 ≤ _
      rw [ba_app, ba_size, List.length_append, List.length_append]; simp only [List.length_cons, List.length_nil]; omega
    · show ((ba acc ++ ba _ ++ ba [97, 99, 99, 101, 112, 116, 10], ()), ()) = _
      simp only [ba_app, vL, hb, if_true]
      simp
    · show (ba acc ++ ba _).size + 7 ≤ _
      rw [ba_app, ba_size, List.length_append, List.length_append]; simp only [List.length_cons, List.length_nil]; omega
    · show ((ba acc ++ ba _ ++ ba [114, 101, 106, 101, 99, 116, 10], ()), ()) = _
      simp only [ba_app, vL, hb, Bool.false_eq_true, if_false]
      simp
  | d + 1, j, acc, hd, hjl, ha => by
    have hlt : j < v.2.1.length := by omega
    have hx := hr _ (List.getElem_mem hlt)
    have h2 := lS_len hx
    have h3 := Lib.itoa_length_le (j : Int) (by omega) (by omega)
    refine Tq.succ ?_
    show Tq (d + 1) (fun k q => impl_ShowVerdict.step0 (cl k) k v (impl_ShowVerdict.L0 (cl k) k v q) (ba acc) (j : Int)) _
    unfold impl_ShowVerdict.step0
    refine Tq.bt (dlt hlt) (Tq.bt (dle0 j) (Tq.some (lg hlt) (Tq.bind (digits_ans (j : Int)).tq fun y hy => ?_)))
    subst hy
    refine Tq.bt (le63 ?_) (Tq.bind ((lineText_ans (secL ++ Lib.itoa (j : Int)) (by simp only [secL, List.length_append, List.length_cons, List.length_nil]; omega) v.2.1[j] hx).tq.eq fun k q => ?_) fun y hy => ?_)
    · show 7 + (ba (Lib.itoa (j : Int))).size ≤ _
      rw [ba_size]; omega
    · show cl k n_impl_lineText s_impl_lineText (ba secL ++ ba (Lib.itoa (j : Int)), v.2.1[j], ()) = _
      rw [ba_app]
    subst hy
    refine Tq.bt (le63 ?_) ?_
    · show (ba acc).size + (ba _).size ≤ _
      rw [ba_size, ba_size]; simp only [secL, List.length_append, List.length_cons, List.length_nil]; omega
    rw [ws hlt (by omega)]
    show Tq (d + 1) (fun k q => impl_ShowVerdict.L0 (cl k) k v q (ba acc ++ ba _) ((j + 1 : Nat) : Int)) _
    rw [ba_app]
    refine (implV_loop v hl hr hj d (j + 1) _ (by omega) (by omega) ?_).mono fun x hx => ?_
    · simp only [secL, List.length_append, List.length_cons, List.length_nil]; omega
    · rw [hx, List.drop_eq_getElem_cons hlt]
      simp only [vL, List.append_assoc]
theorem implV_ans (v : Vd) (hl : v.2.1.length ≤ 1048576) (hr : ∀ x ∈ v.2.1, LnR x) (hj : LnR v.2.2.1) (hc : Rg v.1) : Ans n_impl_ShowVerdict s_impl_ShowVerdict (v, ()) ((ba (vS v), ()), ()) := by
  refine Gv.ans (Gv.of (fun k => impl_ShowVerdict.F_eq (cl k) k v) ?_)
  unfold impl_ShowVerdict.F impl_ShowVerdict.Fm vS
  have h3 := Lib.itoa_length_le v.1 hc.1 hc.2
  by_cases h0 : v.1 = 0
  · rw [if_pos h0]
    refine Tq.bf (by simp [h0]) (Tq.diag ((implV_loop v hl hr hj v.2.1.length 0 [] rfl (Nat.zero_le _) (Nat.zero_le _)).mono fun x hx => ?_))
    rw [hx, List.drop_zero, List.nil_append]
  · rw [if_neg h0]
    refine Tq.bt (by simp [h0]) (Tq.bind (digits_ans v.1).tq fun y hy => ?_)
    subst hy
    refine Tq.bt (le63 ?_) (Tq.bt (le63 ?_) (Tq.ret ?_))
    · show 4 + (ba (Lib.itoa v.1)).size ≤ _
      rw [ba_size]; omega
    · show (ba [98, 97, 100, 32] ++ ba (Lib.itoa v.1)).size + 1 ≤ _
      rw [ba_app, ba_size, List.length_append]; simp only [List.length_cons, List.length_nil]; omega
    · show ((ba [98, 97, 100, 32] ++ ba (Lib.itoa v.1) ++ ba [10], ()), ()) = _
      simp only [ba_app]

theorem specV_loop (v : Vd) (hl : v.2.1.length ≤ 1048576) (hr : ∀ x ∈ v.2.1, LnR x) (hj : LnR v.2.2.1) : ∀ (d j : Nat) (acc : List UInt8), v.2.1.length - j = d → j ≤ v.2.1.length → acc.length ≤ 300 * j →
    Tq (d + 1) (fun k q => spec_ShowVerdict.L0 (cl k) k v q (ba acc) (j : Int)) (· = ((ba (acc ++ (vL (v.2.1.drop j) j ++ vEnd v)), ()), ()))
  | 0, j, acc, hd, hjl, ha => by
    have h2 := lS_len hj
    refine Tq.succ ?_
    show Tq 0 (fun k q => spec_ShowVerdict.step0 (cl k) k v (spec_ShowVerdict.L0 (cl k) k v q) (ba acc) (j : Int)) _
    unfold spec_ShowVerdict.step0
    refine Tq.bf (dnlt (show v.2.1.length ≤ j by omega)) (Tq.bt (le63 ?_) (Tq.bind (l18Line_ans v.2.2.1 hj).tq fun y hy => ?_))
    · show (ba acc).size + 5 ≤ _
      rw [ba_size]; omega
    subst hy
    rw [List.drop_of_length_le (by omega)]
    refine Tq.bt (le63 ?_) ?_
    · show (ba acc ++ ba [106, 111, 105, 110, 116]).size + (ba _).size ≤ _
      rw [ba_app, ba_size, ba_size, List.length_append]; simp only [List.length_cons, List.length_nil]; omega
    unfold vEnd
    refine Tq.bif (fun hb => Tq.bt (le63 ?_) (Tq.ret ?_)) (fun hb => Tq.bt (le63 ?_) (Tq.ret ?_))
    · show (ba acc ++ ba [106, 111, 105, 110, 116] ++ ba _).size + 7 ≤ _
      rw [ba_app, ba_app, ba_size, List.length_append, List.length_append]; simp only [List.length_cons, List.length_nil]; omega
    · show ((ba acc ++ ba [106, 111, 105, 110, 116] ++ ba _ ++ ba [97, 99, 99, 101, 112, 116, 10], ()), ()) = _
      simp only [ba_app, vL, hb, if_true]
      simp
    · show (ba acc ++ ba [106, 111, 105, 110, 116] ++ ba _).size + 7 ≤ _
      rw [ba_app, ba_app, ba_size, List.length_append, List.length_append]; simp only [List.length_cons, List.length_nil]; omega
    · show ((ba acc ++ ba [106, 111, 105, 110, 116] ++ ba _ ++ ba [114, 101, 106, 101, 99, 116, 10], ()), ()) = _
      simp only [ba_app, vL, hb, Bool.false_eq_true, if_false]
      simp
  | d + 1, j, acc, hd, hjl, ha => by
    have hlt : j < v.2.1.length := by omega
    have hx := hr _ (List.getElem_mem hlt)
    have h2 := lS_len hx
    have h3 := Lib.itoa_length_le (j : Int) (by omega) (by omega)
    refine Tq.succ ?_
    show Tq (d + 1) (fun k q => spec_ShowVerdict.step0 (cl k) k v (spec_ShowVerdict.L0 (cl k) k v q) (ba acc) (j : Int)) _
    unfold spec_ShowVerdict.step0
    refine Tq.bt (dlt hlt) (Tq.bt (le63 ?_) (Tq.bind (l1Int_ans (j : Int) (by omega) (by omega)).tq fun y hy => ?_))
    · show (ba acc).size + 7 ≤ _
      rw [ba_size]; omega
    subst hy
    refine Tq.bt (le63 ?_) (Tq.bt (dle0 j) (Tq.some (lg hlt) (Tq.bind (l18Line_ans v.2.1[j] hx).tq fun y hy => ?_)))
    · show (ba acc ++ ba secL).size + (ba (Lib.itoa (j : Int))).size ≤ _
      rw [ba_app, ba_size, ba_size, List.length_append]; simp only [secL, List.length_cons, List.length_nil]; omega
    subst hy
    refine Tq.bt (le63 ?_) ?_
    · show (ba acc ++ ba secL ++ ba (Lib.itoa (j : Int))).size + (ba _).size ≤ _
      rw [ba_app, ba_app, ba_size, ba_size]; simp only [secL, List.length_append, List.length_cons, List.length_nil]; omega
    rw [ws hlt (by omega)]
    show Tq (d + 1) (fun k q => spec_ShowVerdict.L0 (cl k) k v q (ba acc ++ ba secL ++ ba (Lib.itoa (j : Int)) ++ ba _) ((j + 1 : Nat) : Int)) _
    rw [ba_app, ba_app, ba_app]
    refine (specV_loop v hl hr hj d (j + 1) _ (by omega) (by omega) ?_).mono fun x hx => ?_
    · simp only [secL, List.length_append, List.length_cons, List.length_nil]; omega
    · rw [hx, List.drop_eq_getElem_cons hlt]
      simp only [vL, List.append_assoc]
theorem specV_ans (v : Vd) (hl : v.2.1.length ≤ 1048576) (hr : ∀ x ∈ v.2.1, LnR x) (hj : LnR v.2.2.1) (hc : Rg v.1) : Ans n_spec_ShowVerdict s_spec_ShowVerdict (v, ()) ((ba (vS v), ()), ()) := by
  refine Gv.ans (Gv.of (fun k => spec_ShowVerdict.F_eq (cl k) k v) ?_)
  unfold spec_ShowVerdict.F spec_ShowVerdict.Fm vS
  have h3 := Lib.itoa_length_le v.1 hc.1 hc.2
  by_cases h0 : v.1 = 0
  · rw [if_pos h0]
    refine Tq.bf (by simp [h0]) (Tq.diag ((specV_loop v hl hr hj v.2.1.length 0 [] rfl (Nat.zero_le _) (Nat.zero_le _)).mono fun x hx => ?_))
    rw [hx, List.drop_zero, List.nil_append]
  · rw [if_neg h0]
    refine Tq.bt (by simp [h0]) (Tq.bind (l1Int_ans v.1 hc.1 hc.2).tq fun y hy => ?_)
    subst hy
    refine Tq.bt (le63 ?_) (Tq.bt (le63 ?_) (Tq.ret ?_))
    · show 4 + (ba (Lib.itoa v.1)).size ≤ _
      rw [ba_size]; omega
    · show (ba [98, 97, 100, 32] ++ ba (Lib.itoa v.1)).size + 1 ≤ _
      rw [ba_app, ba_size, List.length_append]; simp only [List.length_cons, List.length_nil]; omega
    · show ((ba [98, 97, 100, 32] ++ ba (Lib.itoa v.1) ++ ba [10], ()), ()) = _
      simp only [ba_app]
end Go.Proofs.YtbalepejjjmioaaDoor.Pf
