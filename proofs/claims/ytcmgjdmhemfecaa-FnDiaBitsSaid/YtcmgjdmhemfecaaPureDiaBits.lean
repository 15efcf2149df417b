/- The law on ts, over plain values: it answers yes. No condition. -/
import Derived.Test.YtcmgjdmhemfecaaPfDb
import Derived.Test.YtcmgjdmhemfecaaPfTLDiaBits
namespace Go.Proofs.Ytcmgjdmhemfecaa.fnDiaBits
open Go Go.Pv Pf
theorem pure : ∀ (a0 : Ty.den (.slc (.int .u8))) (_ : Fits (.slc (.int .u8)) a0), ∃ r : Sg.R Pf.s_laws_FnDiaBits |>.den, (∃ k, sem Pf.E (fun _ _ => none) k Pf.n_laws_FnDiaBits Pf.s_laws_FnDiaBits (a0, ()) = some r) ∧ r.1.1 = true := by
  intro code ⟨f1, f2⟩
  have hc : ∀ y ∈ code, 0 ≤ y ∧ y ≤ 255 := fun y hy => u8_of (f2 y hy)
  suffices h : Gv Pf.n_laws_FnDiaBits Pf.s_laws_FnDiaBits (code, ()) fun (r : (Bool × Unit) × Unit) => r.1.1 = true by
    obtain ⟨r, hr, h⟩ := h
    exact ⟨r, h.sem, hr⟩
  refine .of (fun k => laws_FnDiaBits.F_eq (cl k) k code) (.bind (big_ans code).tq fun x hx => ?_)
  subst hx
  refine .bif (fun _ => .ret rfl) fun _ => ?_
  obtain ⟨d0, hd0, hr⟩ := roll_ans code 20 f1 hc
  refine .bind hr.tq fun x hx => ?_
  subst hx
  obtain ⟨i, d1, hd1, hi, hb1⟩ := below_ans d0 (n := 5) hd0 (by omega)
  refine .bind hb1.tq fun x hx => ?_
  subst hx
  obtain ⟨m, hw, hm1, hm5⟩ : ∃ m : Nat, IntKind.i64.wrap (1 + i) = (m : Int) ∧ 1 ≤ m ∧ m ≤ 5 := ⟨(1 + i).toNat, by rw [w64 (by omega) (by omega)]; omega, by omega, by omega⟩
  have hm : m ≤ 10 := by omega
  obtain ⟨s1, d2, hd2, hs1, hb2⟩ := below_ans d1 (n := 8) hd1 (by omega)
  refine .bind hb2.tq fun x hx => ?_
  subst hx
  obtain ⟨t1, ht1⟩ := Int.eq_ofNat_of_zero_le hs1.1
  obtain ⟨gA, d3, lA, hd3, hpA⟩ := picture_ans (m := m) d2 hm1 hm t1 (by omega) hd2
  rw [← hw, ← ht1] at hpA
  refine .bind hpA.tq fun x hx => ?_
  subst hx
  obtain ⟨s2, d4, hd4, hs2, hb3⟩ := below_ans d3 (n := 8) hd3 (by omega)
  refine .bind hb3.tq fun x hx => ?_
  subst hx
  obtain ⟨t2, ht2⟩ := Int.eq_ofNat_of_zero_le hs2.1
  obtain ⟨gB, d5, lB, hd5, hpB⟩ := picture_ans (m := m) d4 hm1 hm t2 (by omega) hd4
  rw [← hw, ← ht2] at hpB
  refine .bind hpB.tq fun x hx => ?_
  subst hx
  obtain ⟨v, d6, _, hv, hb4⟩ := below_ans d5 (n := (m : Int)) hd5 (by omega)
  rw [← hw] at hb4
  refine .bind hb4.tq fun x hx => ?_
  subst hx
  obtain ⟨u, hu⟩ := Int.eq_ofNat_of_zero_le hv.1
  have hum : u < m := by omega
  refine .bind (and_f gA gB hm).tq fun x hx => ?_
  subst hx
  refine .bind (or_f gA gB hm).tq fun x hx => ?_
  subst hx
  have hsm := some_f lA hm hum
  have hfx := fix_f lA true hm hum
  rw [← hu] at hsm hfx
  refine .bind hsm.tq fun x hx => ?_
  subst hx
  refine .bind hfx.tq fun x hx => ?_
  subst hx
  refine .bind (not_f gA hm).tq fun x hx => ?_
  subst hx
  refine .bind (okI_f (fun f => opB true (gA f) (gB f)) hm).tq fun x hx => ?_
  subst hx
  refine .bind (okI_f (fun f => !gA f) hm).tq fun x hx => ?_
  subst hx
  have hp := pow10 hm
  have hp5 : 2 ^ m ≤ 32 := Nat.pow_le_pow_right (n := 2) (by omega) hm5
  have lU := fun b => lA.upd u b
  have lS : Pf.Loc m fun f => gA (upd f u false) || gA (upd f u true) := fun f f' e => by
    show (gA (upd f u false) || gA (upd f u true)) = (gA (upd f' u false) || gA (upd f' u true))
    have h1 : gA (upd f u false) = gA (upd f' u false) := lU false f f' e
    have h2 : gA (upd f u true) = gA (upd f' u true) := lU true f f' e
    rw [h1, h2]
  have key : ∀ (n j : Nat), 2 ^ m - j = n → j ≤ 2 ^ m → Tq (n + 1) (fun k q => laws_FnDiaBits.L0 (cl k) k ((i, ()), d1, ()) ((fD m gA, ()), d3, ()) ((fD m gB, ()), d5, ()) ((v, ()), d6, ())
      ((fD m fun f => opB true (gA f) (gB f), true, ()), ()) ((fD m fun f => opB false (gA f) (gB f), true, ()), ()) ((fD m fun f => gA (upd f u false) || gA (upd f u true), true, ()), ())
      ((fD m fun f => gA (upd f u true), true, ()), ()) ((fD m fun f => !gA f, ()), ()) q (j : Int)) fun (r : (Bool × Unit) × Unit) => r.1.1 = true := by
    intro n
    induction n with
    | zero =>
      intro j hn hj
      refine .succ (.bf (decide_eq_false (by show ¬ IntKind.i64.wrap (1 + i) < 0; omega)) (.bf (decide_eq_false (by show ¬ (j : Int) < shlI .i64 1 (IntKind.i64.wrap (1 + i)); rw [hw, shl1 hm]; omega)) (.ret rfl)))
    | succ n ih =>
      intro j hn hj
      obtain ⟨bo, hbo, hbits⟩ := bitsOf_gv m j hm (by omega)
      subst hbo
      rw [← hw] at hbits
      have hL := loB_len m j
      refine .succ (.bf (decide_eq_false (by show ¬ IntKind.i64.wrap (1 + i) < 0; omega)) (.bt (decide_eq_true (by show (j : Int) < shlI .i64 1 (IntKind.i64.wrap (1 + i)); rw [hw, shl1 hm]; omega)) (.bind hbits.tq fun x hx => ?_)))
      subst hx
      have e1 : bf ((loB m j).set u true) = upd (bf (loB m j)) u true := funext fun w => bf_set (by omega) true w
      have e2 : bf (((loB m j).set u true).set u false) = upd (bf (loB m j)) u false := funext fun w => by
        rw [bf_set (by rw [List.length_set]; omega), e1]
        unfold upd
        by_cases h : w = u
        · rw [if_pos h, if_pos h]
        · rw [if_neg h, if_neg h, if_neg h]
      have hP := yesI lA hm hL
      have hQ := yesI lB hm hL
      have hR := yesI lA hm (l := (loB m j).set u true) (by rw [List.length_set]; exact hL)
      have hR2 := yesI lA hm (l := ((loB m j).set u true).set u false) (by rw [List.length_set, List.length_set]; exact hL)
      have hFix := yesI (lA.upd u true) hm hL
      have hAnd := yesI (lA.both true lB) hm hL
      have hOr := yesI (lA.both false lB) hm hL
      have hNot := yesI lA.not hm hL
      have hSome := yesI lS hm hL
      have hSp := yesS lA hm hL
      rw [e1] at hR
      rw [e2] at hR2
      have hvu : v.toNat = u := by omega
      have hnext : Tq (n + 1) (fun k q => laws_FnDiaBits.L0 (cl k) k ((i, ()), d1, ()) ((fD m gA, ()), d3, ()) ((fD m gB, ()), d5, ()) ((v, ()), d6, ())
          ((fD m fun f => opB true (gA f) (gB f), true, ()), ()) ((fD m fun f => opB false (gA f) (gB f), true, ()), ()) ((fD m fun f => gA (upd f u false) || gA (upd f u true), true, ()), ())
          ((fD m fun f => gA (upd f u true), true, ()), ()) ((fD m fun f => !gA f, ()), ()) q (IntKind.i64.wrap ((j : Int) + 1))) fun (r : (Bool × Unit) × Unit) => r.1.1 = true := by
        rw [ws (show j < 2 ^ m by omega) (by omega)]
        exact ih (j + 1) (by omega) (by omega)
      refine .bind hP.tq fun x hx => ?_
      subst hx
      refine .bind hQ.tq fun x hx => ?_
      subst hx
      have hul : u < (loB m j).length := by omega
      have hul2 : u < ((loB m j).set u true).length := by rw [List.length_set]; omega
      have c1 : (decide ((0 : Int) ≤ v) && decide (v.toNat < (loB m j).length)) = true := by rw [hvu, decide_eq_true hv.1, decide_eq_true hul]; rfl
      have c2 : (decide ((0 : Int) ≤ v) && decide (v.toNat < ((loB m j).set v.toNat true).length)) = true := by rw [hvu, decide_eq_true hv.1, decide_eq_true hul2]; rfl
      refine .bt c1 (.some (lgn (show v.toNat < (loB m j).length by omega)) ?_)
      rw [← hvu] at hR hR2
      refine .bind hR.tq fun x hx => ?_
      subst hx
      refine .bind hbits.tq fun x hx => ?_
      subst hx
      refine .bind hFix.tq fun x hx => ?_
      subst hx
      rw [hvu] at hR2
      refine .bf (by show (!(gA (upd (bf (loB m j)) u true) == gA (upd (bf (loB m j)) v.toNat true))) = false; rw [hvu, beq_self_eq_true]; rfl) (.bt c2 (.some (lgn (show v.toNat < ((loB m j).set v.toNat true).length by rw [hvu]; exact hul2)) ?_))
      rw [hvu]
      generalize gA (bf (loB m j)) = p at *
      generalize gB (bf (loB m j)) = q at *
      generalize gA (upd (bf (loB m j)) u true) = r at *
      generalize gA (upd (bf (loB m j)) u false) = s at *
      clear c1 c2 hP hQ hR hFix
      cases r
      · cases p <;> cases q <;> cases s
        all_goals (refine .bind hR2.tq fun x hx => ?_; subst hx; refine .bind hbits.tq fun x hx => ?_; subst hx; refine .bind hAnd.tq fun x hx => ?_; subst hx; refine .bind hOr.tq fun x hx => ?_; subst hx; refine .bind hNot.tq fun x hx => ?_; subst hx; refine .bind hSome.tq fun x hx => ?_; subst hx; refine .bind hSp.tq fun x hx => ?_; subst hx; exact hnext)
      · cases p <;> cases q <;> cases s
        all_goals (refine .bind hbits.tq fun x hx => ?_; subst hx; refine .bind hAnd.tq fun x hx => ?_; subst hx; refine .bind hOr.tq fun x hx => ?_; subst hx; refine .bind hNot.tq fun x hx => ?_; subst hx; refine .bind hSome.tq fun x hx => ?_; subst hx; refine .bind hSp.tq fun x hx => ?_; subst hx; exact hnext)
  exact (key _ 0 rfl (Nat.zero_le _)).diag
end Go.Proofs.Ytcmgjdmhemfecaa.fnDiaBits
