/- Clauses: the first model, what is forced. No condition. -/
import Derived.Test.YtcmgjdmhemfecaaPfR
namespace Go.Proofs.Ytcmgjdmhemfecaa.Pf
open Go Go.Pv

theorem CnfOkS_cases (c : Cnf) (hs : Small c) : (CnfRight c ∧ Ans 33 s_spec_CnfOk (c, ()) ((true, ()), ()) ∧ Ans 35 s_impl_CnfOk (c, ()) ((true, ()), ())) ∨ (¬CnfRight c ∧ Ans 33 s_spec_CnfOk (c, ()) ((false, ()), ()) ∧ Ans 35 s_impl_CnfOk (c, ()) ((false, ()), ())) := by
  obtain ⟨b, hb, hb2⟩ := spec_CnfOk_ans c hs
  obtain ⟨b', hb', hb2'⟩ := impl_CnfOk_ans c hs
  by_cases h : CnfRight c
  · rw [hb2.2 h] at hb
    rw [hb2'.2 h] at hb'
    exact .inl ⟨h, hb, hb'⟩
  · have e : b = false := by cases b <;> first | rfl | exact absurd (hb2.1 rfl) h
    have e' : b' = false := by cases b' <;> first | rfl | exact absurd (hb2'.1 rfl) h
    rw [e] at hb
    rw [e'] at hb'
    exact .inr ⟨h, hb, hb'⟩

def firstL (u : List Int) (V : Nat) : List Nat → List Bool × (Bool × Unit)
  | [] => ([], false, ())
  | n :: _ => (modelL u V n, true, ())
noncomputable def firstM (c : Cnf) : List Bool × (Bool × Unit) := by
  classical exact if CnfRight c then firstL (usedL c.2.1) c.1.toNat (models (usedL c.2.1) c.2.1) else ([], false, ())
theorem models_lt {u : List Int} {c : List (List Int)} {n : Nat} (h : n ∈ models u c) : n < 2 ^ u.length := List.mem_range.1 (List.mem_filter.1 h).1
theorem firstM_len (c : Cnf) : (firstM c).1.length ≤ 300 := by
  unfold firstM
  split
  · rename_i h
    have := h.1
    cases models (usedL c.2.1) c.2.1 with
    | nil => exact Nat.zero_le _
    | cons n l => show (modelL _ _ n).length ≤ 300; rw [modelL_len]; omega
  · exact Nat.zero_le _
theorem modelL_at {u : List Int} {V n v : Nat} (h : v < V) : (modelL u V n)[v]? = some (valU u n ((v : Int) + 1)) := by simp [modelL, h]

theorem spec_FirstModel_ans (c : Cnf) (hs : Small c) : Ans 70 s_spec_FirstModel (c, ()) (firstM c, ()) := by
  unfold firstM
  refine (Gv.of (fun k => spec_FirstModel.F_eq (cl k) k c) ?_).ans
  rcases CnfOkS_cases c hs with ⟨h, h1, _⟩ | ⟨h, h1, _⟩
  · rw [if_pos h]
    refine .bind h1.tq fun x hx => ?_
    subst hx
    refine .bf rfl (.bind (l14Models_ans c hs h).tq fun x hx => ?_)
    subst hx
    cases models (usedL c.2.1) c.2.1 with
    | nil => exact .bt rfl (.ret rfl)
    | cons n l => exact .bf (beq_false_of_ne (by show ((List.length (List.map _ (n :: l)) : Nat) : Int) ≠ 0; rw [List.length_map, List.length_cons]; omega)) (.some (x := modelL (usedL c.2.1) c.1.toNat n) rfl (.ret rfl))
  · rw [if_neg h]
    refine .bind h1.tq fun x hx => ?_
    subst hx
    exact .bt rfl (.ret rfl)

theorem impl_FirstModel_ans (c : Cnf) (hs : Small c) : Ans 71 s_impl_FirstModel (c, ()) (firstM c, ()) := by
  unfold firstM
  refine (Gv.of (fun k => impl_FirstModel.F_eq (cl k) k c) ?_).ans
  rcases CnfOkS_cases c hs with ⟨h, _, h1⟩ | ⟨h, _, h1⟩
  · rw [if_pos h]
    refine .bind h1.tq fun x hx => ?_
    subst hx
    refine .bf rfl (.bind (searchOf_ans c hs h).tq fun x hx => ?_)
    subst hx
    have hm : ∀ n ∈ models (usedL c.2.1) c.2.1, n < 2 ^ (usedL c.2.1).length := fun n => models_lt
    have hrise := usedL_rise c.2.1
    have hr0 : ∀ x ∈ usedL c.2.1, 1 ≤ x ∧ x ≤ c.1 := fun x hx => h.uV hx
    have hu : (usedL c.2.1).length ≤ 12 := h.2.2.2
    generalize usedL c.2.1 = u at *
    have hp := pow12 hu
    have hV := h.1
    obtain ⟨V, hVe⟩ := Int.eq_ofNat_of_zero_le hV.1
    have hVn : c.1.toNat = V := by rw [hVe, Int.toNat_natCast]
    have hV3 : V ≤ 300 := by have := hV.2; rw [hVe] at this; omega
    cases hml : models u c.2.1 with
    | nil => exact .bt rfl (.ret rfl)
    | cons n l =>
      have hn : n ≤ 4096 := by have := hm n (by rw [hml]; exact List.mem_cons_self); omega
      have key : ∀ (d j : Nat), u.length - j = d → j ≤ u.length → Tq (d + 1) (fun k q => impl_FirstModel.L0 (cl k) k (((u, (n :: l).map fun (n : Nat) => (n : Int), ()), ()), ()) q (j : Int) (partL u V n j)) (· = ((modelL u V n, true, ()), ())) := by
        intro d
        induction d with
        | zero =>
          intro j hd hj
          obtain rfl : j = u.length := by omega
          exact .succ (.bf (dnlt (Nat.le_refl _)) (.ret (by rw [partL_all])))
        | succ d ih =>
          intro j hd hj
          have hj : j < u.length := by omega
          have h1 := hr0 _ (List.getElem_mem hj)
          rw [hVe] at h1
          obtain ⟨v, hv⟩ := Int.eq_ofNat_of_zero_le (show 0 ≤ u[j] - 1 by omega)
          have hv' : u[j] = (v : Int) + 1 := by omega
          have hv2 : v < V := by omega
          have hw : IntKind.i64.wrap (u[j] - 1) = (v : Int) := by rw [w64 (by omega) (by omega)]; exact hv
          have hpl : v < (partL u V n j).length := by rw [partL_len]; exact hv2
          have hbo : Ans 128 s_impl_search_bitOf ((u, (n :: l).map fun (n : Nat) => (n : Int), ()), (n : Int), (j : Int), ()) ((bitN u.length n j, ()), ()) := bitOf_ev.mono fun k hk => hk _ _ _ _ hu hn hj
          refine .succ (.bt (dlt hj) (.bt (by rw [dle0, Int.toNat_natCast, decide_eq_true hj]; rfl) (.some (lg hj) (.bt ?_ (.some (x := (n : Int)) rfl (.bind hbo.tq fun x hx => ?_))))))
          · show (true && decide (0 < (List.map _ (n :: l)).length)) = true
            rw [List.length_map, List.length_cons, decide_eq_true (Nat.succ_pos _)]; rfl
          subst hx
          simp only [hw]
          refine .bt (by rw [dle0, Int.toNat_natCast, decide_eq_true hpl]; rfl) (.some (lg hpl) ?_)
          have ih := ih (j + 1) (by omega) (by omega)
          rw [← partL_set hrise hj hv' hv2] at ih
          simp only [ws hj (show u.length ≤ 9223372036854775807 by omega), Int.toNat_natCast]
          exact ih
      refine .bf (beq_false_of_ne (by show ((List.length (List.map _ (n :: l)) : Nat) : Int) ≠ 0; rw [List.length_map, List.length_cons]; omega)) (.bt (by rw [hVe]; exact mk_ok (n := V) (b := ti4.bytes) (by show V * 1 ≤ _; omega)) ?_)
      have := key _ 0 rfl (Nat.zero_le _)
      have e0 : partL u V n 0 = List.replicate V false := by
        unfold partL
        rw [List.take_zero]
        simp only [List.not_mem_nil, if_false, List.map_const', List.length_range]
      rw [e0] at this
      rw [hVn]
      exact this.diag
  · rw [if_neg h]
    refine .bind h1.tq fun x hx => ?_
    subst hx
    exact .bt rfl (.ret rfl)

/-! ### What is forced -/
def forceAt (u : List Int) (L : List Nat) (x : Int) : List Int := if L.all (fun n => valU u n x) then [x] else if L.all (fun n => !valU u n x) then [-x] else []
def forceL (u : List Int) (L : List Nat) (l : List Int) : List Int := l.flatMap (forceAt u L)
theorem forceAt_len (u : List Int) (L : List Nat) (x : Int) : (forceAt u L x).length ≤ 1 := by
  unfold forceAt
  split
  · exact Nat.le_refl _
  · split
    · exact Nat.le_refl _
    · exact Nat.zero_le _
theorem forceL_len (u : List Int) (L : List Nat) : ∀ l : List Int, (forceL u L l).length ≤ l.length
  | [] => Nat.le_refl _
  | x :: l => by
    have h1 := forceAt_len u L x
    have h2 := forceL_len u L l
    show (List.flatMap (forceAt u L) (x :: l)).length ≤ _
    rw [List.flatMap_cons, List.length_append, List.length_cons]
    have h2 : (List.flatMap (forceAt u L) l).length ≤ l.length := h2
    omega
noncomputable def forcedM (c : Cnf) : List Int := by
  classical exact if CnfRight c then (if models (usedL c.2.1) c.2.1 = [] then [] else forceL (usedL c.2.1) (models (usedL c.2.1) c.2.1) (usedL c.2.1)) else []
theorem forcedM_len (c : Cnf) : (forcedM c).length ≤ 301 := by
  unfold forcedM
  split
  · split
    · exact Nat.zero_le _
    · exact Nat.le_trans (forceL_len _ _ _) (usedL_len _)
  · exact Nat.zero_le _

/-- What the reference puts for a variable, where the first model says b. -/
def exL (x : Int) (b same : Bool) : List Int := bif same then (bif b then [x] else [-x]) else []
theorem exL_eq (u : List Int) (n : Nat) (l : List Nat) (x : Int) : exL x (valU u n x) ((n :: l).all fun m => valU u m x == valU u n x) = forceAt u (n :: l) x := by
  unfold exL forceAt
  cases h : valU u n x with
  | true =>
    simp only [List.all_cons, h, beq_self_eq_true, Bool.true_and, Bool.not_true, Bool.false_and, cond_true]
    have e : (l.all fun m => valU u m x == true) = l.all fun m => valU u m x := by simp
    rw [e]
    cases l.all fun m => valU u m x <;> simp
  | false =>
    simp only [List.all_cons, h, beq_self_eq_true, Bool.true_and, Bool.not_false, Bool.false_and, cond_false]
    have e : (l.all fun m => valU u m x == false) = l.all fun m => !valU u m x := by simp
    rw [e]
    cases l.all fun m => !valU u m x <;> simp
theorem cnt_all {f : Nat → Bool} : ∀ l : List Nat, (cnt (l.map f) = l.length ↔ l.all f = true) ∧ (cnt (l.map f) = 0 ↔ (l.all fun n => !f n) = true)
  | [] => by simp [cnt]
  | n :: l => by
    obtain ⟨h1, h2⟩ := cnt_all (f := f) l
    have h3 := cnt_le (l.map f)
    rw [List.length_map] at h3
    have e : cnt ((n :: l).map f) = bit (f n) + cnt (l.map f) := rfl
    rw [e, List.all_cons, List.all_cons, List.length_cons]
    cases hf : f n with
    | true =>
      refine ⟨?_, ?_⟩
      · rw [Bool.true_and, ← h1]; show (1 : Int) + _ = _ ↔ _; omega
      · rw [Bool.not_true, Bool.false_and]
        constructor
        · intro h; have h : (1 : Int) + cnt (l.map f) = 0 := h; omega
        · intro h; cases h
    | false =>
      refine ⟨?_, ?_⟩
      · rw [Bool.false_and]
        constructor
        · intro h; have h : (0 : Int) + cnt (l.map f) = ((l.length + 1 : Nat) : Int) := h; omega
        · intro h; cases h
      · rw [Bool.not_false, Bool.true_and, ← h2]; show (0 : Int) + _ = _ ↔ _; omega

theorem ap2 {n : Nat} (h : n ≤ 10000000) : decide ((n + 1) * ti2.bytes ≤ (140737488355328 : Nat)) = true := decide_eq_true (by show (n + 1) * 8 ≤ _; omega)
theorem wneg {x : Int} (h0 : 1 ≤ x) (h1 : x ≤ 300) : IntKind.i64.wrap ((0 : Int) - x) = -x := by rw [w64 (by omega) (by omega)]; omega

theorem spec_ForcedIn_ans (c : Cnf) (hs : Small c) : Ans 76 s_spec_ForcedIn (c, ()) ((forcedM c, ()), ()) := by
  unfold forcedM
  refine (Gv.of (fun k => spec_ForcedIn.F_eq (cl k) k c) ?_).ans
  rcases CnfOkS_cases c hs with ⟨h, h1, _⟩ | ⟨h, h1, _⟩
  · rw [if_pos h]
    refine .bind h1.tq fun x hx => ?_
    subst hx
    refine .bf rfl (.bind (l14Models_ans c hs h).tq fun x hx => ?_)
    subst hx
    refine .bind (l14Used_ans c.1 c.2.1 (by have := h.2.1; omega) h.range').tq fun x hx => ?_
    subst hx
    have hr0 : ∀ x ∈ usedL c.2.1, 1 ≤ x ∧ x ≤ c.1 := fun x hx => h.uV hx
    have hu : (usedL c.2.1).length ≤ 12 := h.2.2.2
    have hm : (models (usedL c.2.1) c.2.1).length ≤ 4096 := Nat.le_trans (List.length_filter_le _ _) (by rw [List.length_range]; exact pow12 hu)
    generalize usedL c.2.1 = u at *
    have hV := h.1
    obtain ⟨V, hVe⟩ := Int.eq_ofNat_of_zero_le hV.1
    have hVn : c.1.toNat = V := by rw [hVe, Int.toNat_natCast]
    have hV3 : V ≤ 300 := by have := hV.2; rw [hVe] at this; omega
    rw [hVn]
    generalize models u c.2.1 = L at *
    cases L with
    | nil =>
      rw [if_pos rfl]
      refine Tq.diag (d := 1) (f := fun k q => spec_ForcedIn.L0 (cl k) k (([], ()), ()) ((u, ()), ()) q 0 []) (.succ (.bif (fun _ => .bf rfl (.ret rfl)) fun _ => .ret rfl))
    | cons n l =>
      rw [if_neg (by simp)]
      have hg : ∀ (m v : Nat), v < V → ∀ e : ∀ x : Int, x = (v : Int) → x.toNat = v, lget (modelL u V m) v = some (valU u m ((v : Int) + 1)) := fun m v hv _ => modelL_at hv
      have key1 : ∀ (i v : Nat) (acc : List Int), acc.length ≤ 100 → i < 4096 → v < V → ∀ (d j : Nat) (same : Bool), (n :: l).length - j = d → j ≤ (n :: l).length → ∀ (k : Nat) (r0 : Int → List Int → Option spec_ForcedIn.R) q, d < q →
          spec_ForcedIn.L1 (cl k) k (((n :: l).map (modelL u V), ()), ()) (i : Int) acc ((v : Int) + 1) r0 q same (j : Int) = r0 ((i + 1 : Nat) : Int) (acc ++ exL ((v : Int) + 1) (valU u n ((v : Int) + 1)) (same && ((n :: l).drop j).all fun m => valU u m ((v : Int) + 1) == valU u n ((v : Int) + 1))) := by
        intro i v acc hacc hi hv d
        have hw1 : IntKind.i64.wrap ((i : Int) + 1) = ((i + 1 : Nat) : Int) := ws (n := 5000) (by omega) (by omega)
        have hw2 : IntKind.i64.wrap ((v : Int) + 1 - 1) = (v : Int) := by rw [w64 (by omega) (by omega)]; omega
        have hw3 := wneg (x := (v : Int) + 1) (by omega) (by omega)
        have g0 : lget ((n :: l).map (modelL u V)) (Int.toNat (0 : Int)) = some (modelL u V n) := rfl
        have g1 : lget (modelL u V n) (v : Int).toNat = some (valU u n ((v : Int) + 1)) := by rw [Int.toNat_natCast]; exact modelL_at hv
        induction d with
        | zero =>
          intro j same hd hj k r0 q hq
          obtain ⟨q, rfl⟩ : ∃ p, q = p + 1 := ⟨q - 1, by omega⟩
          have e : j = (n :: l).length := by omega
          rw [List.drop_of_length_le (by omega), List.all_nil, Bool.and_true]
          have hlt : decide ((j : Int) < (((n :: l).map (modelL u V)).length : Int)) = false := dnlt (by rw [List.length_map]; omega)
          simp only [spec_ForcedIn.L1, spec_ForcedIn.step1, hlt, cond_false, hw2, g0, g1, Option.bind_some, dle0, cond_true, hw1, hw3]
          cases same with
          | false => rw [cond_false, cond_false]; show _ = r0 _ (acc ++ []); rw [List.append_nil]
          | true =>
            rw [cond_true, cond_true]
            cases valU u n ((v : Int) + 1) with
            | true =>
              rw [cond_true]
              exact bif_t (ap2 (n := acc.length) (by omega)) (bif_f rfl rfl)
            | false =>
              rw [cond_false]
              exact bif_t rfl (bif_t rfl (bif_t (ap2 (n := acc.length) (by omega)) rfl))
        | succ d ih =>
          intro j same hd hj k r0 q hq
          obtain ⟨q, rfl⟩ : ∃ p, q = p + 1 := ⟨q - 1, by omega⟩
          have hj : j < (n :: l).length := by omega
          have hjm : j < ((n :: l).map (modelL u V)).length := by rw [List.length_map]; exact hj
          have hlt : decide ((j : Int) < (((n :: l).map (modelL u V)).length : Int)) = true := dlt hjm
          have gj : lget ((n :: l).map (modelL u V)) (j : Int).toNat = some (modelL u V (n :: l)[j]) := by rw [lg hjm, List.getElem_map]
          have gjv : lget (modelL u V (n :: l)[j]) (v : Int).toNat = some (valU u (n :: l)[j] ((v : Int) + 1)) := by rw [Int.toNat_natCast]; exact modelL_at hv
          have hwj : IntKind.i64.wrap ((j : Int) + 1) = ((j + 1 : Nat) : Int) := ws hj (by omega)
          simp only [spec_ForcedIn.L1, spec_ForcedIn.step1, hlt, cond_true, hw2, g0, g1, gj, gjv, Option.bind_some, dle0, hwj]
          rw [all_drop _ _ _ hj]
          cases same with
          | false =>
            rw [cond_false, ih (j + 1) false (by omega) (by omega) k r0 q (by omega), Bool.false_and, Bool.false_and]
          | true =>
            rw [cond_true, ih (j + 1) _ (by omega) (by omega) k r0 q (by omega), Bool.true_and]
      have key0 : ∀ (d i : Nat), u.length - i = d → i ≤ u.length → Tq (d + 1) (fun k q => spec_ForcedIn.L0 (cl k) k (((n :: l).map (modelL u V), ()), ()) ((u, ()), ()) q (i : Int) (forceL u (n :: l) (u.take i))) (· = ((forceL u (n :: l) u, ()), ())) := by
        intro d
        induction d with
        | zero =>
          intro i hd hi
          obtain rfl : i = u.length := by omega
          exact .succ (.bf (dnlt (Nat.le_refl _)) (.ret (by rw [List.take_length])))
        | succ d ih =>
          intro i hd hi
          have hi : i < u.length := by omega
          have h1 := hr0 _ (List.getElem_mem hi)
          rw [hVe] at h1
          obtain ⟨v, hv⟩ := Int.eq_ofNat_of_zero_le (show 0 ≤ u[i] - 1 by omega)
          have hv' : u[i] = (v : Int) + 1 := by omega
          have hv2 : v < V := by omega
          refine .succ (.bt (dlt hi) (.bt (decide_eq_true (by show ((List.length (List.map _ (n :: l)) : Nat) : Int) > 0; rw [List.length_map, List.length_cons]; omega)) (.bt (by rw [dle0, Int.toNat_natCast, decide_eq_true hi]; rfl) (.some (lg hi) ?_))))
          have ih := ih (i + 1) (by omega) (by omega)
          have e : forceL u (n :: l) (u.take (i + 1)) = forceL u (n :: l) (u.take i) ++ forceAt u (n :: l) ((v : Int) + 1) := by
            unfold forceL
            rw [List.take_succ_eq_append_getElem hi, List.flatMap_append, hv']
            simp
          rw [e] at ih
          refine .evEq ((Ev.ge (l.length + 2)).mono fun k hge q hq => ?_) ih
          have hlen : (forceL u (n :: l) (u.take i)).length ≤ 100 := Nat.le_trans (forceL_len _ _ _) (by rw [List.length_take]; omega)
          have := key1 i v _ hlen (by omega) hv2 _ 0 true rfl (Nat.zero_le _) k (spec_ForcedIn.L0 (cl k) k (((n :: l).map (modelL u V), ()), ()) ((u, ()), ()) q) k (by show l.length + 1 - 0 < k; omega)
          rw [List.drop_zero, Bool.true_and, exL_eq] at this
          rw [hv']
          exact this
      exact (key0 _ 0 rfl (Nat.zero_le _)).diag
  · rw [if_neg h]
    refine .bind h1.tq fun x hx => ?_
    subst hx
    exact .bt rfl (.ret rfl)

theorem impl_ForcedIn_ans (c : Cnf) (hs : Small c) : Ans 77 s_impl_ForcedIn (c, ()) ((forcedM c, ()), ()) := by
  unfold forcedM
  refine (Gv.of (fun k => impl_ForcedIn.F_eq (cl k) k c) ?_).ans
  rcases CnfOkS_cases c hs with ⟨h, _, h1⟩ | ⟨h, _, h1⟩
  · rw [if_pos h]
    refine .bind h1.tq fun x hx => ?_
    subst hx
    refine .bf rfl (.bind (searchOf_ans c hs h).tq fun x hx => ?_)
    subst hx
    have hrise := usedL_rise c.2.1
    have hr0 : ∀ x ∈ usedL c.2.1, 1 ≤ x ∧ x ≤ 300 := fun x hx => usedL_range h.range' hx
    have hu : (usedL c.2.1).length ≤ 12 := h.2.2.2
    have hm : (models (usedL c.2.1) c.2.1).length ≤ 4096 := Nat.le_trans (List.length_filter_le _ _) (by rw [List.length_range]; exact pow12 hu)
    have hm2 : ∀ n ∈ models (usedL c.2.1) c.2.1, n ≤ 4096 := fun n hn => Nat.le_trans (Nat.le_of_lt (models_lt hn)) (pow12 hu)
    generalize usedL c.2.1 = u at *
    generalize models u c.2.1 = L at *
    by_cases hL : L = []
    · subst hL
      rw [if_pos rfl]
      exact .bt rfl (.ret rfl)
    rw [if_neg hL]
    have hL0 : 0 < L.length := List.length_pos_iff.2 hL
    refine .bf (beq_false_of_ne (by show ((List.length (List.map _ L) : Nat) : Int) ≠ 0; rw [List.length_map]; omega)) ?_
    have key1 : ∀ (i : Nat) (hi : i < u.length) (acc : List Int), acc.length ≤ 100 → ∀ (k : Nat), BitOfK k → TruthK k → ∀ (d j : Nat) (yes : Int), L.length - j = d → j ≤ L.length → 0 ≤ yes → yes ≤ j → ∀ (r0 : Int → List Int → Option impl_ForcedIn.R) q, d < q →
        impl_ForcedIn.L1 (cl k) k (((u, L.map fun (n : Nat) => (n : Int), ()), ()), ()) (i : Int) acc u[i] r0 q yes (j : Int) = r0 ((i + 1 : Nat) : Int) (acc ++ (if yes + cnt ((L.drop j).map fun n => bitN u.length n i) = L.length then [u[i]] else if yes + cnt ((L.drop j).map fun n => bitN u.length n i) = 0 then [-u[i]] else [])) := by
      intro i hi acc hacc k hk hk2 d
      have hw1 : IntKind.i64.wrap ((i : Int) + 1) = ((i + 1 : Nat) : Int) := ws hi (by omega)
      have hx := hr0 _ (List.getElem_mem hi)
      have hw3 := wneg hx.1 hx.2
      induction d with
      | zero =>
        intro j yes hd hj y0 y1 r0 q hq
        obtain ⟨q, rfl⟩ : ∃ p, q = p + 1 := ⟨q - 1, by omega⟩
        rw [List.drop_of_length_le (by omega)]
        have hlt : decide ((j : Int) < (L.length : Int)) = false := dnlt (by omega)
        simp only [impl_ForcedIn.L1, impl_ForcedIn.step1, hlt, cond_false, hw1, hw3, List.length_map, List.map_nil, cnt, Int.add_zero]
        by_cases e1 : yes = L.length
        · rw [if_pos e1]
          exact bif_t (by rw [e1]; exact beq_self_eq_true _) (bif_t (ap2 (n := acc.length) (by omega)) rfl)
        · rw [if_neg e1]
          refine bif_f (beq_false_of_ne e1) ?_
          by_cases e2 : yes = 0
          · rw [if_pos e2]
            exact bif_t (by rw [e2]; rfl) (bif_t (ap2 (n := acc.length) (by omega)) rfl)
          · rw [if_neg e2, List.append_nil]
            exact bif_f (beq_false_of_ne e2) rfl
      | succ d ih =>
        intro j yes hd hj y0 y1 r0 q hq
        obtain ⟨q, rfl⟩ : ∃ p, q = p + 1 := ⟨q - 1, by omega⟩
        have hj : j < L.length := by omega
        have hjm : j < (L.map fun (n : Nat) => (n : Int)).length := by rw [List.length_map]; exact hj
        have gj : lget (L.map fun (n : Nat) => (n : Int)) (j : Int).toNat = some (L[j] : Int) := by rw [lg hjm, List.getElem_map]
        have hbit := bit_le (bitN u.length L[j] i)
        have hw : IntKind.i64.wrap (yes + bit (bitN u.length L[j] i)) = yes + bit (bitN u.length L[j] i) := w64 (by omega) (by omega)
        have hb := hk u (L.map fun (n : Nat) => (n : Int)) L[j] i hu (hm2 _ (List.getElem_mem hj)) hi
        unfold impl_ForcedIn.L1 impl_ForcedIn.step1
        refine bif_t (dlt hjm) (bif_t (by rw [dle0, Int.toNat_natCast]; show (true && decide (j < (L.map fun (n : Nat) => (n : Int)).length)) = true; rw [decide_eq_true hjm]; rfl) (bind_k gj (bind_k hb (bind_k (hk2 _) ?_))))
        rw [hw, ws hj (show L.length ≤ 9223372036854775807 by omega)]
        refine (ih (j + 1) _ (by omega) (by omega) (by omega) (by omega) r0 q (by omega)).trans ?_
        rw [List.drop_eq_getElem_cons hj, List.map_cons]
        have e : cnt (bitN u.length L[j] i :: (L.drop (j + 1)).map fun n => bitN u.length n i) = bit (bitN u.length L[j] i) + cnt ((L.drop (j + 1)).map fun n => bitN u.length n i) := rfl
        rw [e, Int.add_assoc]
    have key0 : ∀ (d i : Nat), u.length - i = d → i ≤ u.length → Tq (d + 1) (fun k q => impl_ForcedIn.L0 (cl k) k (((u, L.map fun (n : Nat) => (n : Int), ()), ()), ()) q (i : Int) (forceL u L (u.take i))) (· = ((forceL u L u, ()), ())) := by
      intro d
      induction d with
      | zero =>
        intro i hd hi
        obtain rfl : i = u.length := by omega
        exact .succ (.bf (dnlt (Nat.le_refl _)) (.ret (by rw [List.take_length])))
      | succ d ih =>
        intro i hd hi
        have hi : i < u.length := by omega
        refine .succ (.bt (dlt hi) (.bt (by rw [dle0, Int.toNat_natCast, decide_eq_true hi]; rfl) (.some (lg hi) ?_)))
        have ih := ih (i + 1) (by omega) (by omega)
        have hval : (fun n => bitN u.length n i) = fun n => valU u n u[i] := by
          funext n
          unfold valU
          rw [if_pos (List.getElem_mem hi), pos_get hrise hi]
        have e : forceL u L (u.take (i + 1)) = forceL u L (u.take i) ++ forceAt u L u[i] := by
          unfold forceL
          rw [List.take_succ_eq_append_getElem hi, List.flatMap_append]
          simp
        rw [e] at ih
        refine .evEq ((bitOf_ev.and (truth_ev.and (Ev.ge (L.length + 2)))).mono fun k ⟨hk, hk2, hge⟩ q hq => ?_) ih
        have hlen : (forceL u L (u.take i)).length ≤ 100 := Nat.le_trans (forceL_len _ _ _) (by rw [List.length_take]; omega)
        have := key1 i hi _ hlen k hk hk2 _ 0 0 rfl (Nat.zero_le _) (Int.le_refl _) (Int.le_refl _) (impl_ForcedIn.L0 (cl k) k (((u, L.map fun (n : Nat) => (n : Int), ()), ()), ()) q) k (by omega)
        rw [List.drop_zero, Int.zero_add, hval] at this
        refine this.trans ?_
        unfold forceAt
        have hc := cnt_all (f := fun n => valU u n u[i]) L
        by_cases e1 : cnt (L.map fun n => valU u n u[i]) = L.length
        · rw [if_pos e1, if_pos (hc.1.1 e1)]
        · rw [if_neg e1, if_neg fun h => e1 (hc.1.2 h)]
          by_cases e2 : cnt (L.map fun n => valU u n u[i]) = 0
          · rw [if_pos e2, if_pos (hc.2.1 e2)]
          · rw [if_neg e2, if_neg fun h => e2 (hc.2.2 h)]
    exact (key0 _ 0 rfl (Nat.zero_le _)).diag
  · rw [if_neg h]
    refine .bind h1.tq fun x hx => ?_
    subst hx
    exact .bt rfl (.ret rfl)

end Go.Proofs.Ytcmgjdmhemfecaa.Pf
