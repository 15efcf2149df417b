/- ShowVerdict's law: its helpers, and the law. No condition. -/
import Derived.Test.YtbalepejjjmioaaDoorPfF
namespace Go.Proofs.YtbalepejjjmioaaDoor.Pf
open Go Go.Pv

theorem toLine_ans (x : Ln) : Ans n_laws_toLine s_laws_toLine (x, ()) ((x, ()), ()) := by
  refine Gv.ans (Gv.of (fun k => laws_toLine.F_eq (cl k) k x) ?_)
  unfold laws_toLine.F laws_toLine.Fm
  exact Tq.ret rfl
theorem toLineS_loop (a : List Ln) (ha : a.length ≤ 1048576) : ∀ (d j : Nat) (acc : List Ln), a.length - j = d → acc.length = a.length →
    Tq (d + 1) (fun k q => laws_toLineS.L0 (cl k) k a q (j : Int) acc) (· = ((acc.take j ++ a.drop j, ()), ()))
  | 0, j, acc, hd, hl => by
    refine Tq.succ ?_
    show Tq 0 (fun k q => laws_toLineS.step0 (cl k) k a (laws_toLineS.L0 (cl k) k a q) (j : Int) acc) _
    unfold laws_toLineS.step0
    refine Tq.bf (dnlt (by omega)) (Tq.ret ?_)
    rw [List.take_of_length_le (by omega), List.drop_of_length_le (by omega), List.append_nil]
  | d + 1, j, acc, hd, hl => by
    have hj : j < a.length := by omega
    have hj' : j < acc.length := by omega
    refine Tq.succ ?_
    show Tq (d + 1) (fun k q => laws_toLineS.step0 (cl k) k a (laws_toLineS.L0 (cl k) k a q) (j : Int) acc) _
    unfold laws_toLineS.step0
    refine Tq.bt (dlt hj) (Tq.bt (dle0 j) (Tq.some (lg hj) (Tq.bind (toLine_ans a[j]).tq fun y hy => ?_)))
    subst hy
    refine Tq.bt (idx_ok hj') (Tq.some (lg hj') ?_)
    rw [ws hj (by omega), Int.toNat_natCast, ← set_take_drop acc a hj hl]
    exact toLineS_loop a ha d (j + 1) _ (by omega) (by simp [hl])
theorem toLineS_ans (a : List Ln) (ha : a.length ≤ 1048576) : Ans n_laws_toLineS s_laws_toLineS (a, ()) ((a, ()), ()) := by
  refine Gv.ans (Gv.of (fun k => laws_toLineS.F_eq (cl k) k a) ?_)
  unfold laws_toLineS.F laws_toLineS.Fm
  refine Tq.bt (mk_ok (b := ti39.bytes) (by show a.length * 32 ≤ _; omega)) (Tq.diag ((toLineS_loop a ha a.length 0 _ rfl (by simp)).mono fun x hx => ?_))
  rw [hx]; simp
theorem eqLine_ans (x : Ln) : Ans n_laws_eqLine s_laws_eqLine (x, x, ()) ((true, ()), ()) := by
  refine Gv.ans (Gv.of (fun k => laws_eqLine.F_eq (cl k) k x x) ?_)
  unfold laws_eqLine.F laws_eqLine.Fm
  exact Tq.bf (bne_self_eq_false _) (Tq.bf (bne_self_eq_false _) (Tq.bf (bne_self_eq_false _) (Tq.bf (by simp) (Tq.ret rfl))))
theorem eqLineS_loop (a : List Ln) (ha : a.length ≤ 1048576) : ∀ (d j : Nat), a.length - j = d →
    Tq (d + 1) (fun k q => laws_eqLineS.L0 (cl k) k a a q (j : Int)) (· = ((true, ()), ()))
  | 0, j, hd => by
    refine Tq.succ ?_
    show Tq 0 (fun k q => laws_eqLineS.step0 (cl k) k a a (laws_eqLineS.L0 (cl k) k a a q) (j : Int)) _
    unfold laws_eqLineS.step0
    exact Tq.bf (dnlt (by omega)) (Tq.ret rfl)
  | d + 1, j, hd => by
    have hj : j < a.length := by omega
    refine Tq.succ ?_
    show Tq (d + 1) (fun k q => laws_eqLineS.step0 (cl k) k a a (laws_eqLineS.L0 (cl k) k a a q) (j : Int)) _
    unfold laws_eqLineS.step0
    refine Tq.bt (dlt hj) (Tq.bt (dle0 j) (Tq.some (lg hj) (Tq.bt (dle0 j) (Tq.some (lg hj) (Tq.bind (eqLine_ans a[j]).tq fun y hy => ?_)))))
    subst hy
    refine Tq.bf rfl ?_
    rw [ws hj (by omega)]
    exact eqLineS_loop a ha d (j + 1) (by omega)
theorem eqLineS_ans (a : List Ln) (ha : a.length ≤ 1048576) : Ans n_laws_eqLineS s_laws_eqLineS (a, a, ()) ((true, ()), ()) := by
  refine Gv.ans (Gv.of (fun k => laws_eqLineS.F_eq (cl k) k a a) ?_)
  unfold laws_eqLineS.F laws_eqLineS.Fm
  exact Tq.bf (bne_self_eq_false _) (Tq.diag (eqLineS_loop a ha a.length 0 rfl))
theorem szLineS_ans (a : List Ln) (ha : a.length ≤ maxLen) : ∃ r : Int, Ans n_laws_szLineS s_laws_szLineS (a, 1048576, ()) ((r, ()), ()) ∧ (r < 0 ∨ a.length ≤ 1048576) := by
  have ha : a.length ≤ 9223372036854775807 := ha
  by_cases h : (1048576 : Int) - a.length < 0
  · refine ⟨-1, Gv.ans (Gv.of (fun k => laws_szLineS.F_eq (cl k) k a 1048576) ?_), .inl (by omega)⟩
    unfold laws_szLineS.F laws_szLineS.Fm
    rw [w64 (by omega) (by omega)]
    exact Tq.bt (decide_eq_true h) (Tq.ret rfl)
  · refine ⟨1048576 - a.length, Gv.ans (Gv.of (fun k => laws_szLineS.F_eq (cl k) k a 1048576) ?_), .inr (by omega)⟩
    unfold laws_szLineS.F laws_szLineS.Fm
    rw [w64 (by omega) (by omega)]
    exact Tq.bf (decide_eq_false h) (Tq.ret rfl)
theorem szVerdict_ans (v : Vd) (ha : v.2.1.length ≤ maxLen) : ∃ r : Int, Ans n_laws_szVerdict s_laws_szVerdict (v, 1048576, ()) ((r, ()), ()) ∧ (r < 0 ∨ v.2.1.length ≤ 1048576) := by
  obtain ⟨r, h, hr⟩ := szLineS_ans v.2.1 ha
  by_cases h0 : r < 0
  · refine ⟨-1, Gv.ans (Gv.of (fun k => laws_szVerdict.F_eq (cl k) k v 1048576) ?_), .inl (by omega)⟩
    unfold laws_szVerdict.F laws_szVerdict.Fm
    refine Tq.bind h.tq fun y hy => ?_
    subst hy
    exact Tq.bt (decide_eq_true h0) (Tq.ret rfl)
  · refine ⟨r, Gv.ans (Gv.of (fun k => laws_szVerdict.F_eq (cl k) k v 1048576) ?_), .inr (hr.resolve_left h0)⟩
    unfold laws_szVerdict.F laws_szVerdict.Fm
    refine Tq.bind h.tq fun y hy => ?_
    subst hy
    exact Tq.bf (decide_eq_false h0) (Tq.ret rfl)
theorem toVerdict_ans (v : Vd) (ha : v.2.1.length ≤ 1048576) : Ans n_laws_toVerdict s_laws_toVerdict (v, ()) ((v, ()), ()) := by
  refine Gv.ans (Gv.of (fun k => laws_toVerdict.F_eq (cl k) k v) ?_)
  unfold laws_toVerdict.F laws_toVerdict.Fm
  refine Tq.bind (toLineS_ans v.2.1 ha).tq fun y hy => ?_
  subst hy
  refine Tq.bind (toLine_ans v.2.2.1).tq fun y hy => ?_
  subst hy
  exact Tq.ret rfl
theorem eqVerdict_ans (v : Vd) (ha : v.2.1.length ≤ 1048576) : Ans n_laws_eqVerdict s_laws_eqVerdict (v, v, ()) ((true, ()), ()) := by
  refine Gv.ans (Gv.of (fun k => laws_eqVerdict.F_eq (cl k) k v v) ?_)
  unfold laws_eqVerdict.F laws_eqVerdict.Fm
  refine Tq.bf (bne_self_eq_false _) (Tq.bind (eqLineS_ans v.2.1 ha).tq fun y hy => ?_)
  subst hy
  refine Tq.bf rfl (Tq.bind (eqLine_ans v.2.2.1).tq fun y hy => ?_)
  subst hy
  exact Tq.bf rfl (Tq.bf (by simp) (Tq.ret rfl))

theorem pureVerdict (v : Vd) (hf : Fits (.pair (.int .i64) (.pair (.slc (.pair (.int .i64) (.pair (.int .i64) (.pair (.int .i64) (.pair .bool .unit))))) (.pair (.pair (.int .i64) (.pair (.int .i64) (.pair (.int .i64) (.pair .bool .unit)))) (.pair .bool .unit)))) v) :
    Ans n_laws_FnExactShowVerdict s_laws_FnExactShowVerdict (v, ()) ((true, ()), ()) := by
  obtain ⟨hc, ⟨hl, hv⟩, ⟨hj1, hj2, hj3, _⟩, _⟩ := hf
  have hr : ∀ x ∈ v.2.1, LnR x := fun x hx => ⟨(hv x hx).1, (hv x hx).2.1, (hv x hx).2.2.1⟩
  have hj : LnR v.2.2.1 := ⟨hj1, hj2, hj3⟩
  have hc : Rg v.1 := hc
  refine Gv.ans (Gv.of (fun k => laws_FnExactShowVerdict.F_eq (cl k) k v) ?_)
  unfold laws_FnExactShowVerdict.F laws_FnExactShowVerdict.Fm
  obtain ⟨r, h, hs⟩ := szVerdict_ans v hl
  refine Tq.bind h.tq fun y hy => ?_
  subst hy
  refine Tq.bif (fun _ => Tq.ret rfl) fun h0 => ?_
  have h0 : ¬r < 0 := of_decide_eq_false h0
  have hl := hs.resolve_left h0
  refine Tq.bind (toVerdict_ans v hl).tq fun y hy => ?_
  subst hy
  refine Tq.bind (specV_ans v hl hr hj hc).tq fun y hy => ?_
  subst hy
  refine Tq.bind (toVerdict_ans v hl).tq fun y hy => ?_
  subst hy
  refine Tq.bind (implV_ans v hl hr hj hc).tq fun y hy => ?_
  subst hy
  refine Tq.bf (by simp) (Tq.bind (toVerdict_ans v hl).tq fun y hy => ?_)
  subst hy
  refine Tq.bind (eqVerdict_ans v hl).tq fun y hy => ?_
  subst hy
  exact Tq.bf rfl (Tq.ret rfl)
end Go.Proofs.YtbalepejjjmioaaDoor.Pf
