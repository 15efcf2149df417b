/- The law on , over plain values: it answers yes. No condition. -/
import Derived.Test.YtcmgjdmhemfecaaPfX
import Derived.Test.YtcmgjdmhemfecaaPfTLSplit
namespace Go.Proofs.Ytcmgjdmhemfecaa.fnSplit
open Go Go.Pv Pf
theorem pure : ∀ (a0 : Ty.den (.slc (.int .u8))) (_ : Fits (.slc (.int .u8)) a0), ∃ r : Sg.R Pf.s_laws_FnSplit |>.den, (∃ k, sem Pf.E (fun _ _ => none) k Pf.n_laws_FnSplit Pf.s_laws_FnSplit (a0, ()) = some r) ∧ r.1.1 = true := by
  intro code ⟨f1, f2⟩
  have hc : ∀ y ∈ code, 0 ≤ y ∧ y ≤ 255 := fun y hy => u8_of (f2 y hy)
  suffices h : Gv Pf.n_laws_FnSplit Pf.s_laws_FnSplit (code, ()) fun (r : (Bool × Unit) × Unit) => r.1.1 = true by
    obtain ⟨r, hr, h⟩ := h
    exact ⟨r, h.sem, hr⟩
  refine .of (fun k => laws_FnSplit.F_eq (cl k) k code) (.bind (big_ans code).tq fun x hx => ?_)
  subst hx
  refine .bif (fun _ => .ret rfl) fun _ => .bind (drawCount_gv code f1 hc).tq fun x hf => ?_
  obtain ⟨⟨c, _⟩, _⟩ := x
  have hf : Few 61 c.2.1 := hf
  have hs : Small c := hf.small (by omega)
  have lc : (toI (countM c)).length ≤ maxLen := by rw [toI_len, maxLen_eq]; have := countM_len c; omega
  refine .bind (impl_CountCnf_ans c hs).tq fun x hx => ?_
  subst hx
  refine .bind (spec_CountCnf_ans c hs).tq fun x hx => ?_
  subst hx
  refine .bind (likeInts_ans _ lc).tq fun x hx => ?_
  subst hx
  rcases CnfOkS_cases c hs with ⟨h, hS, hI⟩ | ⟨h, hS, hI⟩
  case inr =>
    refine .bind hI.tq fun x hx => ?_
    subst hx
    refine .bind hS.tq fun x hx => ?_
    subst hx
    refine .bind (impl_FirstModel_ans c hs).tq fun x hx => ?_
    subst hx
    refine .bind hS.tq fun x hx => ?_
    subst hx
    have e1 : firstM c = ([], false, ()) := by unfold firstM; rw [if_neg h]
    have e2 : countM c = [] := by unfold countM; rw [if_neg h]
    rw [e1, e2]
    exact .ret rfl
  refine .bind hI.tq fun x hx => ?_
  subst hx
  refine .bind hS.tq fun x hx => ?_
  subst hx
  refine .bind (impl_FirstModel_ans c hs).tq fun x hx => ?_
  subst hx
  refine .bind hS.tq fun x hx => ?_
  subst hx
  have e1 : firstM c = firstL (usedL c.2.1) c.1.toNat (models (usedL c.2.1) c.2.1) := by unfold firstM; rw [if_pos h]
  have e2 : countM c = dig ((models (usedL c.2.1) c.2.1).length * 2 ^ (c.1.toNat - (usedL c.2.1).length)) := by unfold countM; rw [if_pos h]
  have e3 : usedIn c = usedL c.2.1 := by unfold usedIn; rw [if_pos h]
  have e4 : forcedM c = if models (usedL c.2.1) c.2.1 = [] then [] else forceL (usedL c.2.1) (models (usedL c.2.1) c.2.1) (usedL c.2.1) := by unfold forcedM; rw [if_pos h]
  have lu : (usedIn c).length ≤ maxLen := by rw [maxLen_eq]; have := usedIn_len c; omega
  -- what comes after the forced ones
  have tail : ∀ (d : Nat) (is : Bool) (m : List Bool) (y : (List Int × Unit) × Unit), Tq d (fun k _ => (cl k 37 s_spec_UsedIn ((c.1, c.2.1, ()), ())).bind fun (y19 : (List Int × PUnit) × PUnit) =>
      bif (↑(List.length y19.fst.fst) : Int) == (0 : Int) then some ((true, ()), ())
      else
        bif (↑c.2.1.length : Int) == (60 : Int) then some ((true, ()), ())
        else
          (cl k (54 : Nat) s_laws_roll (code, (22 : Int), ())).bind
            fun (y20 : ((List Int × Int × Int × PUnit) × PUnit) × PUnit) =>
            (cl k (55 : Nat) s_laws_dice_below
                  ((y20.fst.fst.fst, y20.fst.fst.snd.fst, y20.fst.fst.snd.snd.fst, y20.fst.fst.snd.snd.snd),
                    (↑(List.length y19.fst.fst) : Int), ())).bind
              fun (y21 : (Int × PUnit) × (List Int × Int × Int × PUnit) × PUnit) =>
              bif decide ((0 : Int) ≤ y21.fst.fst) && decide (Int.toNat y21.fst.fst < List.length y19.fst.fst) then
                (lget y19.fst.fst (Int.toNat y21.fst.fst)).bind fun (y22 : Int) =>
                  bif decide (((0 : Nat) + c.2.1.length) * ti41.bytes ≤ (140737488355328 : Nat)) then
                    bif decide ((([] ++ c.2.1).length + [[y22]].length) * ti41.bytes ≤ (140737488355328 : Nat)) then
                      (cl k (79 : Nat) s_impl_CountCnf ((c.1, [] ++ c.2.1 ++ [[y22]], ()), ())).bind
                        fun (y23 : (List Int × PUnit) × PUnit) =>
                        bif decide (((0 : Nat) + c.2.1.length) * ti41.bytes ≤ (140737488355328 : Nat)) then
                          bif
                              decide
                                ((([] ++ c.2.1).length + [[IntKind.i64.wrap ((0 : Int) - y22)]].length) * ti41.bytes ≤
                                  (140737488355328 : Nat)) then
                            (cl k (79 : Nat) s_impl_CountCnf
                                  ((c.1, [] ++ c.2.1 ++ [[IntKind.i64.wrap ((0 : Int) - y22)]], ()), ())).bind
                              fun (y24 : (List Int × PUnit) × PUnit) =>
                              (cl k (85 : Nat) s_spec_AddNat (y23.fst.fst, y24.fst.fst, ())).bind
                                fun (y25 : (List Int × Bool × PUnit) × PUnit) =>
                                (cl k (84 : Nat) s_laws_likeInts (y25.fst.fst, toI (countM c), ())).bind
                                  fun (y26 : (Bool × PUnit) × PUnit) => some ((y26.fst.fst, ()), ())
                          else none
                        else none
                    else none
                  else none
              else none) fun (r : (Bool × Unit) × Unit) => r.1.1 = true := by
    intro d is m y
    refine .bind (spec_UsedIn_ans c hs).tq fun x hx => ?_
    subst hx
    refine .bif (fun _ => .ret rfl) fun h0 => .bif (fun _ => .ret rfl) fun h60 => ?_
    have h0 : (usedIn c).length ≠ 0 := fun e => by
      have : (((usedIn c).length : Int) == 0) = false := h0
      rw [e] at this; cases this
    have h60 : c.2.1.length ≠ 60 := fun e => by rw [e] at h60; cases h60
    have hl60 : c.2.1.length < 60 := by have := h.2.1; omega
    obtain ⟨d0, hd0, hr⟩ := roll_ans code 22 f1 hc
    refine .bind hr.tq fun x hx => ?_
    subst hx
    obtain ⟨i, d1, _, hi, hb⟩ := below_ans d0 (n := ((usedIn c).length : Int)) hd0 (by omega)
    refine .bind hb.tq fun x hx => ?_
    subst hx
    have hi2 : i.toNat < (usedIn c).length := by omega
    refine .bt (by show (decide (0 ≤ i) && decide (i.toNat < (usedIn c).length)) = true; rw [decide_eq_true hi.1, decide_eq_true hi2]; rfl) (.some (lgn hi2) ?_)
    have hv : (usedIn c)[i.toNat] ∈ usedL c.2.1 := by rw [← e3]; exact List.getElem_mem hi2
    generalize (usedIn c)[i.toNat] = v at hv
    have hvr := h.uV hv
    have hw : IntKind.i64.wrap (0 - v) = -v := wneg hvr.1 (by have := h.1; omega)
    obtain ⟨a, b, ea, eb, eab, l3, l1, l2⟩ := more_sum h hl60 hv
    have hl1 := hs.1
    have hsm : ∀ x, Small (more c x) := fun x => by
      refine ⟨?_, fun l hl => ?_⟩
      · show (c.2.1 ++ [[x]]).length ≤ 1048576
        rw [List.length_append, List.length_singleton]; omega
      · rcases List.mem_append.1 hl with hl | hl
        · exact hs.2 l hl
        · rw [List.mem_singleton.1 hl]; simp
    have b1 : decide ((0 + c.2.1.length) * ti41.bytes ≤ (140737488355328 : Nat)) = true := decide_eq_true (by show (0 + c.2.1.length) * 24 ≤ _; omega)
    have b2 : decide ((([] ++ c.2.1).length + 1) * ti41.bytes ≤ (140737488355328 : Nat)) = true := apW41 (by rw [List.nil_append]; omega)
    refine .bt b1 (.bt b2 ?_)
    rw [hw]
    refine .bind (impl_CountCnf_ans (more c v) (hsm v)).tq fun x hx => ?_
    subst hx
    refine .bt b1 (.bt b2 (.bind (impl_CountCnf_ans (more c (-v)) (hsm _)).tq fun x hx => ?_))
    subst hx
    rw [ea, eb]
    have hadd := addNat_ans (dig_can a) (dig_can b) (by omega) (by omega) (by rw [dig_val, dig_val]; omega)
    rw [dig_val, dig_val] at hadd
    refine .bind hadd.tq fun x hx => ?_
    subst hx
    have hlk := likeInts_ans _ lc
    rw [eab] at hlk ⊢
    refine .bind hlk.tq fun x hx => ?_
    subst hx
    exact .ret rfl
  -- the forced ones
  have body : ∀ (is : Bool) (m : List Bool), (is = true → ∃ n L, models (usedL c.2.1) c.2.1 = n :: L ∧ m = modelL (usedL c.2.1) c.1.toNat n) → (is = false → models (usedL c.2.1) c.2.1 = []) →
      Tq 0 (fun k _ => laws_FnSplit.L0 (cl k) k code k is m (toI (countM c)) c.1 c.2.1) fun (r : (Bool × Unit) × Unit) => r.1.1 = true := by
    intro is m hyes hno
    refine Tq.diag (d := 1) (f := fun k q => laws_FnSplit.L0 (cl k) k code q is m (toI (countM c)) c.1 c.2.1) (.succ (.bind (impl_ForcedIn_ans c hs).tq fun x hx => ?_))
    subst hx
    have hlf := forcedM_len c
    have key : ∀ (n j : Nat), (forcedM c).length - j = n → j ≤ (forcedM c).length → Tq (n + 1) (fun k q => laws_FnSplit.L1 (cl k) k code is m (toI (countM c)) c.1 c.2.1 ((forcedM c, ()), ()) q (j : Int)) fun (r : (Bool × Unit) × Unit) => r.1.1 = true := by
      intro n
      induction n with
      | zero =>
        intro j hn hj
        exact .succ (.bf (dnlt (show (forcedM c).length ≤ j by omega)) (tail _ is m ((forcedM c, ()), ())))
      | succ n ih =>
        intro j hn hj
        have hj : j < (forcedM c).length := by omega
        have hy := List.getElem_mem hj
        have hne : models (usedL c.2.1) c.2.1 ≠ [] := fun e => by
          rw [e4, if_pos e] at hj; cases hj
        have his : is = true := by
          cases is with
          | true => rfl
          | false => exact (hne (hno rfl)).elim
        obtain ⟨n0, L, hL, hm⟩ := hyes his
        have hy2 : (forcedM c)[j] ∈ forceL (usedL c.2.1) (n0 :: L) (usedL c.2.1) := by
          have e5 : forcedM c = forceL (usedL c.2.1) (n0 :: L) (usedL c.2.1) := by rw [e4, if_neg hne, hL]
          exact e5 ▸ hy
        obtain ⟨x, hx, hcase⟩ := forced_ok hy2
        have hxr := h.uV hx
        have h300 := h.1
        have hjj : (decide ((0 : Int) ≤ (j : Int)) && decide (((j : Int)).toNat < (forcedM c).length)) = true := by
          rw [decide_eq_true (show (0 : Int) ≤ (j : Int) by omega), Int.toNat_natCast, decide_eq_true hj]; rfl
        obtain ⟨z, hz⟩ : ∃ z : Nat, x = (z : Int) + 1 := ⟨(x - 1).toNat, by omega⟩
        have hzV : z < c.1.toNat := by omega
        have hml : m.length = c.1.toNat := by rw [hm, modelL_len]
        have hmz : lget m z = some (valU (usedL c.2.1) n0 x) := by
          rw [hm, hz]
          have hzl : z < (modelL (usedL c.2.1) c.1.toNat n0).length := by rw [modelL_len]; exact hzV
          rw [lgn hzl]
          have := modelL_at (u := usedL c.2.1) (n := n0) hzV
          rw [List.getElem?_eq_getElem hzl] at this
          exact this
        have hw1 : IntKind.i64.wrap (x - 1) = (z : Int) := by rw [w64 (by omega) (by omega)]; omega
        have hb1 : (decide ((0 : Int) ≤ (z : Int)) && decide (((z : Int)).toNat < m.length)) = true := by
          rw [decide_eq_true (show (0 : Int) ≤ (z : Int) by omega), Int.toNat_natCast, decide_eq_true (show z < m.length by omega)]; rfl
        have hnext : Tq (n + 1) (fun k q => laws_FnSplit.L1 (cl k) k code is m (toI (countM c)) c.1 c.2.1 ((forcedM c, ()), ()) q (IntKind.i64.wrap ((j : Int) + 1))) fun (r : (Bool × Unit) × Unit) => r.1.1 = true := by
          rw [ws hj (by omega)]
          exact ih (j + 1) (by omega) (by omega)
        refine .succ (.bt (dlt hj) (.bt hjj (.some (lg hj) ?_)))
        rcases hcase with ⟨ey, ev⟩ | ⟨ey, ev⟩
        · rw [ey]
          refine .bf (decide_eq_false (by omega)) (.bf (by rw [his]; rfl) (.bf (decide_eq_false (by omega)) (.bf (decide_eq_false (by omega)) ?_)))
          rw [hw1]
          refine .bt hb1 (.some (by rw [Int.toNat_natCast]; exact hmz) (.bt hjj (.some (lg hj) (.bf ?_ hnext))))
          rw [ev, ey, decide_eq_true (show x > 0 by omega)]; rfl
        · rw [ey]
          have hw0 : IntKind.i64.wrap (0 - -x) = x := by rw [w64 (by omega) (by omega)]; omega
          refine .bt (decide_eq_true (by omega)) (.bf (by rw [his]; rfl) ?_)
          rw [hw0]
          refine .bf (decide_eq_false (by omega)) (.bf (decide_eq_false (by omega)) ?_)
          rw [hw1]
          refine .bt hb1 (.some (by rw [Int.toNat_natCast]; exact hmz) (.bt hjj (.some (lg hj) (.bf ?_ hnext))))
          rw [ev, ey, decide_eq_false (show ¬ -x > 0 by omega)]; rfl
    exact (key _ 0 rfl (Nat.zero_le _)).diag
  refine .bf rfl ?_
  rw [e1]
  cases hM : models (usedL c.2.1) c.2.1 with
  | nil =>
    have e2' : countM c = [] := by rw [e2, hM]; exact dig_nil.2 rfl
    refine .bf (by rw [e2']; rfl) ?_
    refine .bind (impl_UsedIn_ans c hs).tq fun x hx => ?_
    subst hx
    refine .bind (spec_UsedIn_ans c hs).tq fun x hx => ?_
    subst hx
    refine .bind (likeInts_ans _ lu).tq fun x hx => ?_
    subst hx
    exact body false [] (fun e => by cases e) fun _ => hM
  | cons n L =>
    have hpos : 0 < (toI (countM c)).length := by
      rw [toI_len, e2, hM]
      cases e : dig ((n :: L).length * 2 ^ (c.1.toNat - (usedL c.2.1).length)) with
      | nil => have := dig_nil.1 e; cases this
      | cons a l => exact Nat.succ_pos _
    refine .bf (by show (!(true == decide (((toI (countM c)).length : Int) > 0))) = false; rw [decide_eq_true (by omega)]; rfl) ?_
    refine .bind (spec_IsModel_ans c hs _).tq fun x hx => ?_
    subst hx
    have hV : ((modelL (usedL c.2.1) c.1.toNat n).length : Int) = c.1 := by rw [modelL_len]; have := h.1; omega
    have hIs : isModel c (modelL (usedL c.2.1) c.1.toNat n) = true := by
      unfold isModel
      rw [if_pos ⟨h, hV⟩, hold_eq h.lits]
      have : n ∈ models (usedL c.2.1) c.2.1 := by rw [hM]; exact List.mem_cons_self
      exact (List.mem_filter.1 this).2
    refine .bf (by show (!isModel c (modelL (usedL c.2.1) c.1.toNat n)) = false; rw [hIs]; rfl) ?_
    refine .bind (impl_UsedIn_ans c hs).tq fun x hx => ?_
    subst hx
    refine .bind (spec_UsedIn_ans c hs).tq fun x hx => ?_
    subst hx
    refine .bind (likeInts_ans _ lu).tq fun x hx => ?_
    subst hx
    exact body true _ (fun _ => ⟨n, L, hM, rfl⟩) fun e => by cases e
end Go.Proofs.Ytcmgjdmhemfecaa.fnSplit
