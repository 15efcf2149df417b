/- The law on unts, over plain values: it answers yes. No condition. -/
import Derived.Test.YtcmgjdmhemfecaaPfQ
import Derived.Test.YtcmgjdmhemfecaaPfTLDiaCounts
namespace Go.Proofs.Ytcmgjdmhemfecaa.fnDiaCounts
open Go Go.Pv Pf
theorem pure : ∀ (a0 : Ty.den (.slc (.int .u8))) (_ : Fits (.slc (.int .u8)) a0), ∃ r : Sg.R Pf.s_laws_FnDiaCounts |>.den, (∃ k, sem Pf.E (fun _ _ => none) k Pf.n_laws_FnDiaCounts Pf.s_laws_FnDiaCounts (a0, ()) = some r) ∧ r.1.1 = true := by
  intro code ⟨f1, f2⟩
  have hc : ∀ y ∈ code, 0 ≤ y ∧ y ≤ 255 := fun y hy => u8_of (f2 y hy)
  suffices h : Gv Pf.n_laws_FnDiaCounts Pf.s_laws_FnDiaCounts (code, ()) fun (r : (Bool × Unit) × Unit) => r.1.1 = true by
    obtain ⟨r, hr, h⟩ := h
    exact ⟨r, h.sem, hr⟩
  refine .of (fun k => laws_FnDiaCounts.F_eq (cl k) k code) (.bind (big_ans code).tq fun x hx => ?_)
  subst hx
  refine .bif (fun _ => .ret rfl) fun _ => .bind (drawAnd_gv code f1 hc).tq fun x ⟨l1, l2⟩ => ?_
  obtain ⟨⟨a, b, _⟩, _⟩ := x
  have l1 : a.2.2.1.length ≤ 1048576 := Nat.le_trans l1 (by omega)
  have l2 : b.2.2.1.length ≤ 1048576 := Nat.le_trans l2 (by omega)
  refine .bind (impl_AndDia_ans a b l1 l2).tq fun x hx => ?_
  subst hx
  refine .bind (impl_OrDia_ans a b l1 l2).tq fun x hx => ?_
  subst hx
  refine .bind (spec_AndDia_ans a b l1 l2).tq fun x hx => ?_
  subst hx
  have e1 : ∀ and, (both and a b).2.1 = decide (diaOk a ∧ diaOk b ∧ a.1 = b.1) := fun and => by
    unfold both
    by_cases h : diaOk a ∧ diaOk b ∧ a.1 = b.1
    · rw [if_pos h, decide_eq_true h]
    · rw [if_neg h, decide_eq_false h]
  refine .bf (by simp) (.bf (by show (!(both false a b).2.1 == (both true a b).2.1) = false; rw [e1, e1]; simp) (.bif (fun _ => ?_) fun e => ?_))
  · refine .bind (impl_CountDia_ans a l1).tq fun x hx => ?_
    subst hx
    refine .bind (spec_CountDia_ans a l1).tq fun x hx => ?_
    subst hx
    exact .ret (beq_self_eq_true _)
  · have e : (!(both true a b).2.1) = false := e
    rw [e1] at e
    simp only [Bool.not_eq_false', decide_eq_true_eq] at e
    obtain ⟨ha, hb, hab⟩ := e
    obtain ⟨m2, m3, g, lg, hg⟩ := ok_fD ha
    obtain ⟨_, _, h, lh, hh⟩ := ok_fD hb
    rw [← hab] at hh
    generalize a.1.toNat = m at *
    subst hg
    subst hh
    have cD : ∀ g : Bf, countDia (fD m g) = cnt (fT m g) := fun g => by
      unfold countDia
      rw [if_pos (fD_ok g m2), fD_nat, fD_tab g m2]
    have hp := pow10 m2
    have lD : ∀ g : Bf, (fD m g).2.2.1.length ≤ 1048576 := fun g => by have := fD_len g m2; omega
    have cle : ∀ l : List Bool, 0 ≤ cnt l ∧ cnt l ≤ l.length := cnt_le
    have c0 := fun g : Bf => cle (fT m g)
    simp only [fT_len] at c0
    rw [both_fD true g h m2, both_fD false g h m2]
    refine .bind (impl_CountDia_ans (fD m fun f => opB true (g f) (h f)) (lD _)).tq fun x hx => ?_
    subst hx
    refine .bind (impl_CountDia_ans (fD m fun f => opB false (g f) (h f)) (lD _)).tq fun x hx => ?_
    subst hx
    refine .bind (spec_CountDia_ans (fD m g) (lD _)).tq fun x hx => ?_
    subst hx
    refine .bind (spec_CountDia_ans (fD m h) (lD _)).tq fun x hx => ?_
    subst hx
    rw [cD, cD, cD, cD]
    have hsum := cnt_both (fun n => g (bitN m n)) (fun n => h (bitN m n)) (List.range (2 ^ m))
    have hsum : cnt (fT m fun f => opB true (g f) (h f)) + cnt (fT m fun f => opB false (g f) (h f)) = cnt (fT m g) + cnt (fT m h) := hsum
    refine .bt (by rw [hsum]; exact beq_self_eq_true _) (.bind (not_f g m2).tq fun x hx => ?_)
    subst hx
    refine .bind (impl_CountDia_ans (fD m fun f => !g f) (lD _)).tq fun x hx => ?_
    subst hx
    refine .bf (decide_eq_false (by show ¬ (m : Int) < 0; omega)) (.bind (spec_CountDia_ans (fD m g) (lD _)).tq fun x hx => ?_)
    subst hx
    have hnot : cnt (fT m fun f => !g f) = ((2 ^ m : Nat) : Int) - cnt (fT m g) := by
      have := cnt_not (fun n => g (bitN m n)) (List.range (2 ^ m))
      rw [List.length_range] at this
      exact this
    refine .ret ?_
    rw [cD, cD, hnot]
    have := c0 g
    show ((((2 ^ m : Nat) : Int) - cnt (fT m g)) == IntKind.i64.wrap (shlI .i64 1 (m : Int) - cnt (fT m g))) = true
    rw [shl1 m2, w64 (by omega) (by omega)]
    exact beq_self_eq_true _
end Go.Proofs.Ytcmgjdmhemfecaa.fnDiaCounts
