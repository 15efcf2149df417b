/- ShowOutcome's law, in pure words. No condition. -/
import Derived.Test.YtbalepejjjmioaaDoorPfD
import Derived.Test.YtbalepejjjmioaaDoorPfT1
namespace Go.Proofs.YtbalepejjjmioaaDoor.Pf
open Go Go.Pv

theorem mk_ok {n b : Nat} (h : n * b ≤ 281474976710656) : (decide ((n : Int) = (n : Int)) && decide ((0 : Int) ≤ (n : Int)) && decide ((n : Int) * (b : Int) ≤ (281474976710656 : Int))) = true := by
  have h1 : ((n * b : Nat) : Int) ≤ 281474976710656 := by omega
  rw [Int.natCast_mul] at h1
  rw [decide_eq_true rfl, decide_eq_true (by omega), decide_eq_true h1]; rfl
theorem set_take_drop {α : Type} (acc a : List α) {j : Nat} (hj : j < a.length) (hl : acc.length = a.length) : (acc.set j a[j]).take (j + 1) ++ a.drop (j + 1) = acc.take j ++ a.drop j := by
  rw [List.drop_eq_getElem_cons hj, List.take_set, List.take_succ_eq_append_getElem (by omega), List.set_append_right _ _ (by simp; omega)]
  have : j - (acc.take j).length = 0 := by simp; omega
  rw [this]
  simp
theorem idx_ok {j n : Nat} (h : j < n) : (decide ((0 : Int) ≤ (j : Int)) && decide (((j : Int)).toNat < n)) = true := by
  rw [dle0, Int.toNat_natCast, decide_eq_true h]; rfl

theorem toInt64S_loop (a : List Int) (ha : a.length ≤ 1048576) : ∀ (d j : Nat) (acc : List Int), a.length - j = d → acc.length = a.length →
    Tq (d + 1) (fun k q => laws_toInt64S.L0 (cl k) k a q (j : Int) acc) (· = ((acc.take j ++ a.drop j, ()), ()))
  | 0, j, acc, hd, hl => by
    refine Tq.succ ?_
    show Tq 0 (fun k q => laws_toInt64S.step0 (cl k) k a (laws_toInt64S.L0 (cl k) k a q) (j : Int) acc) _
    unfold laws_toInt64S.step0
    refine Tq.bf (dnlt (by omega)) (Tq.ret ?_)
    rw [List.take_of_length_le (by omega), List.drop_of_length_le (by omega), List.append_nil]
  | d + 1, j, acc, hd, hl => by
    have hj : j < a.length := by omega
    have hj' : j < acc.length := by omega
    refine Tq.succ ?_
    show Tq (d + 1) (fun k q => laws_toInt64S.step0 (cl k) k a (laws_toInt64S.L0 (cl k) k a q) (j : Int) acc) _
    unfold laws_toInt64S.step0
    refine Tq.bt (dlt hj) (Tq.bt (dle0 j) (Tq.some (lg hj) (Tq.bt (idx_ok hj') (Tq.some (lg hj') ?_))))
    rw [ws hj (by omega), Int.toNat_natCast, ← set_take_drop acc a hj hl]
    exact toInt64S_loop a ha d (j + 1) _ (by omega) (by simp [hl])
theorem toInt64S_ans (a : List Int) (ha : a.length ≤ 1048576) : Ans n_laws_toInt64S s_laws_toInt64S (a, ()) ((a, ()), ()) := by
  refine Gv.ans (Gv.of (fun k => laws_toInt64S.F_eq (cl k) k a) ?_)
  unfold laws_toInt64S.F laws_toInt64S.Fm
  refine Tq.bt (mk_ok (b := ti2.bytes) (by show a.length * 8 ≤ _; omega)) (Tq.diag ((toInt64S_loop a ha a.length 0 _ rfl (by simp)).mono fun x hx => ?_))
  rw [hx]; simp
theorem eqInt64S_loop (a : List Int) (ha : a.length ≤ 1048576) : ∀ (d j : Nat), a.length - j = d →
    Tq (d + 1) (fun k q => laws_eqInt64S.L0 (cl k) k a a q (j : Int)) (· = ((true, ()), ()))
  | 0, j, hd => by
    refine Tq.succ ?_
    show Tq 0 (fun k q => laws_eqInt64S.step0 (cl k) k a a (laws_eqInt64S.L0 (cl k) k a a q) (j : Int)) _
    unfold laws_eqInt64S.step0
    exact Tq.bf (dnlt (by omega)) (Tq.ret rfl)
  | d + 1, j, hd => by
    have hj : j < a.length := by omega
    refine Tq.succ ?_
    show Tq (d + 1) (fun k q => laws_eqInt64S.step0 (cl k) k a a (laws_eqInt64S.L0 (cl k) k a a q) (j : Int)) _
    unfold laws_eqInt64S.step0
    refine Tq.bt (dlt hj) (Tq.bt (dle0 j) (Tq.some (lg hj) (Tq.bt (dle0 j) (Tq.some (lg hj) (Tq.bf (bne_self_eq_false _) ?_)))))
    rw [ws hj (by omega)]
    exact eqInt64S_loop a ha d (j + 1) (by omega)
theorem eqInt64S_ans (a : List Int) (ha : a.length ≤ 1048576) : Ans n_laws_eqInt64S s_laws_eqInt64S (a, a, ()) ((true, ()), ()) := by
  refine Gv.ans (Gv.of (fun k => laws_eqInt64S.F_eq (cl k) k a a) ?_)
  unfold laws_eqInt64S.F laws_eqInt64S.Fm
  exact Tq.bf (bne_self_eq_false _) (Tq.diag (eqInt64S_loop a ha a.length 0 rfl))
/-- Small or told to be great. -/
theorem szInt64S_ans (a : List Int) (ha : a.length ≤ maxLen) : ∃ r : Int, Ans n_laws_szInt64S s_laws_szInt64S (a, 1048576, ()) ((r, ()), ()) ∧ (r < 0 ∨ a.length ≤ 1048576) := by
  have ha : a.length ≤ 9223372036854775807 := ha
  by_cases h : (1048576 : Int) - a.length < 0
  · refine ⟨-1, Gv.ans (Gv.of (fun k => laws_szInt64S.F_eq (cl k) k a 1048576) ?_), .inl (by omega)⟩
    unfold laws_szInt64S.F laws_szInt64S.Fm
    rw [w64 (by omega) (by omega)]
    exact Tq.bt (decide_eq_true h) (Tq.ret rfl)
  · refine ⟨1048576 - a.length, Gv.ans (Gv.of (fun k => laws_szInt64S.F_eq (cl k) k a 1048576) ?_), .inr (by omega)⟩
    unfold laws_szInt64S.F laws_szInt64S.Fm
    rw [w64 (by omega) (by omega)]
    exact Tq.bf (decide_eq_false h) (Tq.ret rfl)
theorem szOutcome_ans (o : Oc) (ha : o.1.length ≤ maxLen) : ∃ r : Int, Ans n_laws_szOutcome s_laws_szOutcome (o, 1048576, ()) ((r, ()), ()) ∧ (r < 0 ∨ o.1.length ≤ 1048576) := by
  obtain ⟨r, h, hr⟩ := szInt64S_ans o.1 ha
  by_cases h0 : r < 0
  · refine ⟨-1, Gv.ans (Gv.of (fun k => laws_szOutcome.F_eq (cl k) k o 1048576) ?_), .inl (by omega)⟩
    unfold laws_szOutcome.F laws_szOutcome.Fm
    refine Tq.bind h.tq fun y hy => ?_
    subst hy
    exact Tq.bt (decide_eq_true h0) (Tq.ret rfl)
  · refine ⟨r, Gv.ans (Gv.of (fun k => laws_szOutcome.F_eq (cl k) k o 1048576) ?_), .inr (hr.resolve_left h0)⟩
    unfold laws_szOutcome.F laws_szOutcome.Fm
    refine Tq.bind h.tq fun y hy => ?_
    subst hy
    exact Tq.bf (decide_eq_false h0) (Tq.ret rfl)
theorem toOutcome_ans (o : Oc) (ha : o.1.length ≤ 1048576) : Ans n_laws_toOutcome s_laws_toOutcome (o, ()) ((o, ()), ()) := by
  refine Gv.ans (Gv.of (fun k => laws_toOutcome.F_eq (cl k) k o) ?_)
  unfold laws_toOutcome.F laws_toOutcome.Fm
  refine Tq.bind (toInt64S_ans o.1 ha).tq fun y hy => ?_
  subst hy
  exact Tq.ret rfl
theorem eqOutcome_ans (o : Oc) (ha : o.1.length ≤ 1048576) : Ans n_laws_eqOutcome s_laws_eqOutcome (o, o, ()) ((true, ()), ()) := by
  refine Gv.ans (Gv.of (fun k => laws_eqOutcome.F_eq (cl k) k o o) ?_)
  unfold laws_eqOutcome.F laws_eqOutcome.Fm
  refine Tq.bind (eqInt64S_ans o.1 ha).tq fun y hy => ?_
  subst hy
  exact Tq.bf rfl (Tq.bf (bne_self_eq_false _) (Tq.bf (bne_self_eq_false _) (Tq.ret rfl)))

theorem pureOutcome (o : Oc) (hf : Fits (.pair (.slc (.int .i64)) (.pair (.int .i64) (.pair (.int .i64) .unit))) o) : Ans n_laws_FnExactShowOutcome s_laws_FnExactShowOutcome (o, ()) ((true, ()), ()) := by
  obtain ⟨⟨hl, hv⟩, _, hc, _⟩ := hf
  have hr : ∀ x ∈ o.1, Rg x := fun x hx => hv x hx
  have hc : Rg o.2.2.1 := hc
  refine Gv.ans (Gv.of (fun k => laws_FnExactShowOutcome.F_eq (cl k) k o) ?_)
  unfold laws_FnExactShowOutcome.F laws_FnExactShowOutcome.Fm
  obtain ⟨r, h, hs⟩ := szOutcome_ans o hl
  refine Tq.bind h.tq fun y hy => ?_
  subst hy
  refine Tq.bif (fun _ => Tq.ret rfl) fun h0 => ?_
  have h0 : ¬r < 0 := of_decide_eq_false h0
  have hl := hs.resolve_left h0
  refine Tq.bind (toOutcome_ans o hl).tq fun y hy => ?_
  subst hy
  refine Tq.bind (specShow_ans o hl hr hc).tq fun y hy => ?_
  subst hy
  refine Tq.bind (toOutcome_ans o hl).tq fun y hy => ?_
  subst hy
  refine Tq.bind (implShow_ans o hl hr hc).tq fun y hy => ?_
  subst hy
  refine Tq.bf (by simp) (Tq.bind (toOutcome_ans o hl).tq fun y hy => ?_)
  subst hy
  refine Tq.bind (eqOutcome_ans o hl).tq fun y hy => ?_
  subst hy
  exact Tq.bf rfl (Tq.ret rfl)
end Go.Proofs.YtbalepejjjmioaaDoor.Pf
