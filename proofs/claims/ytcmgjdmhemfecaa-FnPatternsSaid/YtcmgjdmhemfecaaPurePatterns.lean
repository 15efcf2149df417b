/- The law on rns, over plain values: it answers yes. No condition. -/
import Derived.Test.YtcmgjdmhemfecaaPfZ
import Derived.Test.YtcmgjdmhemfecaaPfTLPatterns
namespace Go.Proofs.Ytcmgjdmhemfecaa.fnPatterns
open Go Go.Pv Pf
theorem pure : ∀ (a0 : Ty.den (.slc (.int .u8))) (_ : Fits (.slc (.int .u8)) a0), ∃ r : Sg.R Pf.s_laws_FnPatterns |>.den, (∃ k, sem Pf.E (fun _ _ => none) k Pf.n_laws_FnPatterns Pf.s_laws_FnPatterns (a0, ()) = some r) ∧ r.1.1 = true := by
  intro code ⟨f1, f2⟩
  have hc : ∀ y ∈ code, 0 ≤ y ∧ y ≤ 255 := fun y hy => u8_of (f2 y hy)
  suffices h : Gv Pf.n_laws_FnPatterns Pf.s_laws_FnPatterns (code, ()) fun (r : (Bool × Unit) × Unit) => r.1.1 = true by
    obtain ⟨r, hr, h⟩ := h
    exact ⟨r, h.sem, hr⟩
  refine .of (fun k => laws_FnPatterns.F_eq (cl k) k code) (.bind (big_ans code).tq fun x hx => ?_)
  subst hx
  refine .bif (fun _ => .ret rfl) fun _ => .bind (drawPat_gv code f1 hc).tq fun x hf => ?_
  obtain ⟨⟨c, keep, _⟩, _⟩ := x
  obtain ⟨hf, hk⟩ := hf
  have hf : Few 61 c.2.1 := hf
  have hk : keep.length ≤ 301 := hk
  have hk2 : keep.length ≤ 1048576 := by omega
  have hs : Small c := hf.small (by omega)
  have lp : (toI (patM c keep)).length ≤ maxLen := by rw [toI_len, maxLen_eq]; have := patM_len c keep; omega
  have lc : (toI (countM c)).length ≤ maxLen := by rw [toI_len, maxLen_eq]; have := countM_len c; omega
  refine .bind (impl_PatternsOf_ans c hs keep hk2).tq fun x hx => ?_
  subst hx
  refine .bind (spec_PatternsOf_ans c hs keep hk2).tq fun x hx => ?_
  subst hx
  refine .bind (likeInts_ans _ lp).tq fun x hx => ?_
  subst hx
  rcases CnfOkS_cases c hs with ⟨h, hS, _⟩ | ⟨h, hS, _⟩
  case inr =>
    refine .bind hS.tq fun x hx => ?_
    subst hx
    refine .bind (impl_PatternsOf_ans c hs [] (by simp)).tq fun x hx => ?_
    subst hx
    have e : patM c [] = [] := by unfold patM; rw [if_neg (fun hh => h hh.1)]
    rw [e]
    exact .ret rfl
  refine .bind hS.tq fun x hx => ?_
  subst hx
  have h300 := h.1
  have key : ∀ (n j : Nat), c.1.toNat - j = n → j ≤ c.1.toNat → Tq (n + 1) (fun k q => laws_FnPatterns.L0 (cl k) k ((c, keep, ()), ()) ((toI (patM c keep), ()), ()) q ((j : Int) + 1) (allL j)) fun (r : (Bool × Unit) × Unit) => r.1.1 = true := by
    intro n
    induction n with
    | zero =>
      intro j hn hj
      obtain rfl : j = c.1.toNat := by omega
      refine .succ (.bf (decide_eq_false (by show ¬ ((c.1.toNat : Nat) : Int) + 1 ≤ c.1; omega)) ?_)
      refine .bind (impl_PatternsOf_ans c hs (allL c.1.toNat) (by rw [allL_len]; omega)).tq fun x hx => ?_
      subst hx
      refine .bind (impl_PatternsOf_ans c hs [] (by simp)).tq fun x hx => ?_
      subst hx
      refine .bind (spec_CountCnf_ans c hs).tq fun x hx => ?_
      subst hx
      rw [pat_all h]
      refine .bind (likeInts_ans _ lc).tq fun x hx => ?_
      subst hx
      have e2 : countM c = dig ((models (usedL c.2.1) c.2.1).length * 2 ^ (c.1.toNat - (usedL c.2.1).length)) := by unfold countM; rw [if_pos h]
      have hb : (decide (((toI (countM c)).length : Int) > 0) == (((toI (patM c [])).length : Int) == 1)) = true := by
        rw [pat_none h, toI_len, toI_len]
        by_cases hL : models (usedL c.2.1) c.2.1 = []
        · rw [if_pos hL, e2, hL, List.length_nil, dig_nil.2 rfl]; rfl
        · rw [if_neg hL]
          have : countM c ≠ [] := fun e => by
            rw [e2] at e
            exact hL (List.length_eq_zero_iff.1 (dig_nil.1 e))
          have := List.length_pos_iff.2 this
          rw [decide_eq_true (by omega)]; rfl
      refine .bt rfl (.bt hb ?_)
      have l1 := patM_len c keep
      have l2 := countM_len c
      refine .bind (cmp_gv (patM_can c keep) (countM_can c) (by omega) (by omega) (pat_le h keep)).tq fun x hx => .ret ?_
      exact decide_eq_true hx
    | succ n ih =>
      intro j hn hj
      have hw : IntKind.i64.wrap ((j : Int) + 1 + 1) = ((j + 1 : Nat) : Int) + 1 := by rw [w64 (by omega) (by omega)]; omega
      have hl : (allL j).length ≤ 1000000 := by rw [allL_len]; omega
      refine .succ (.bt (decide_eq_true (by show (j : Int) + 1 ≤ c.1; omega)) (.bt (apW2 hl) ?_))
      rw [hw, ← allL_succ]
      exact ih (j + 1) (by omega) (by omega)
  exact (key _ 0 rfl (Nat.zero_le _)).diag
end Go.Proofs.Ytcmgjdmhemfecaa.fnPatterns
