/- Clauses: patterns of models. No condition. -/
import Derived.Test.YtcmgjdmhemfecaaPfU
import Derived.Test.YtcmgjdmhemfecaaPfT8
namespace Go.Proofs.Ytcmgjdmhemfecaa.Pf
open Go Go.Pv

/-! ### What is kept -/
def keepAt (V : Int) (keep : List Int) (j : Nat) : Prop := ∀ h : j < keep.length, (1 ≤ keep[j] ∧ keep[j] ≤ V) ∧ (0 < j → keep[j - 1]'(by omega) < keep[j])
def KeepOk (V : Int) (keep : List Int) : Prop := ∀ j, keepAt V keep j
theorem KeepOk.lt {V : Int} {keep : List Int} (h : KeepOk V keep) : ∀ {d i : Nat} (hj : i + d + 1 < keep.length), keep[i]'(by omega) < keep[i + d + 1]
  | 0, i, hj => (h (i + 1) hj).2 (by omega)
  | d + 1, i, hj => by
    have h1 := KeepOk.lt h (d := d) (i := i) (by omega)
    have h2 := (h (i + (d + 1) + 1) hj).2 (by omega)
    have e : i + (d + 1) + 1 - 1 = i + d + 1 := by omega
    simp only [e] at h2
    omega
theorem KeepOk.rise {V : Int} {keep : List Int} (h : KeepOk V keep) : Rise keep := List.pairwise_iff_getElem.2 fun i j hi hj hij => by
  have := h.lt (d := j - i - 1) (i := i) (by omega)
  have e : i + (j - i - 1) + 1 = j := by omega
  simp only [e] at this
  exact this
theorem KeepOk.range {V : Int} {keep : List Int} (h : KeepOk V keep) : ∀ x ∈ keep, 1 ≤ x ∧ x ≤ V := fun x hx => by
  obtain ⟨i, hi, rfl⟩ := List.getElem_of_mem hx
  exact (h i hi).1
theorem KeepOk.len {V : Int} {keep : List Int} (h : KeepOk V keep) : (keep.length : Int) ≤ max 0 (V - 1 + 1) := rise_len h.rise h.range
/-- The first place that is wrong. -/
theorem keep_bad {V : Int} {keep : List Int} (h : ¬KeepOk V keep) : ∃ b, b < keep.length ∧ (∀ j, j < b → keepAt V keep j) ∧ ¬keepAt V keep b := by
  have h1 : ∃ j, ¬keepAt V keep j := Classical.not_forall.1 h
  have key : ∀ n, (∃ j, j < n ∧ ¬keepAt V keep j) → ∃ b, (∀ j, j < b → keepAt V keep j) ∧ ¬keepAt V keep b := by
    intro n
    induction n with
    | zero => rintro ⟨j, hj, _⟩; omega
    | succ n ih =>
      rintro ⟨j, hj, hb⟩
      by_cases e : ∃ j, j < n ∧ ¬keepAt V keep j
      · exact ih e
      · have : ∀ j, j < n → keepAt V keep j := fun i hi => Classical.byContradiction fun h => e ⟨i, hi, h⟩
        by_cases hn : j < n
        · exact absurd (this j hn) hb
        · obtain rfl : j = n := by omega
          exact ⟨j, this, hb⟩
  obtain ⟨j, hj⟩ := h1
  obtain ⟨b, h2, h3⟩ := key (j + 1) ⟨j, by omega, hj⟩
  refine ⟨b, ?_, h2, h3⟩
  refine Classical.byContradiction fun h => h3 fun hb => absurd hb h

/-! ### Patterns, as they come -/
def addF (key : Nat → Nat) (acc : List Nat) (n : Nat) : List Nat := if acc.any (fun m => key m == key n) then acc else acc ++ [n]
def firsts (key : Nat → Nat) (l : List Nat) : List Nat := l.foldl (addF key) []
theorem firsts_snoc (key : Nat → Nat) (l : List Nat) (n : Nat) : firsts key (l ++ [n]) = addF key (firsts key l) n := by
  unfold firsts
  rw [List.foldl_append]; rfl
theorem addF_len (key : Nat → Nat) (acc : List Nat) (n : Nat) : (addF key acc n).length ≤ acc.length + 1 := by
  unfold addF
  split
  · omega
  · rw [List.length_append]; exact Nat.le_refl _
theorem addF_mem {key : Nat → Nat} {acc : List Nat} {n m : Nat} (h : m ∈ addF key acc n) : m ∈ acc ∨ m = n := by
  unfold addF at h
  split at h
  · exact .inl h
  · rcases List.mem_append.1 h with h | h
    · exact .inl h
    · exact .inr (List.mem_singleton.1 h)
theorem firsts_take (key : Nat → Nat) (l : List Nat) : ∀ j, j ≤ l.length → (firsts key (l.take j)).length ≤ j ∧ ∀ m ∈ firsts key (l.take j), m ∈ l := by
  intro j
  induction j with
  | zero => intro _; rw [List.take_zero]; exact ⟨Nat.le_refl _, fun m h => by cases h⟩
  | succ j ih =>
    intro hj
    obtain ⟨h1, h2⟩ := ih (by omega)
    rw [List.take_succ_eq_append_getElem (by omega), firsts_snoc]
    refine ⟨Nat.le_trans (addF_len _ _ _) (by omega), fun m hm => ?_⟩
    rcases addF_mem hm with h | rfl
    · exact h2 m h
    · exact List.getElem_mem _
theorem firsts_len (key : Nat → Nat) (l : List Nat) : (firsts key l).length ≤ l.length := by
  have := (firsts_take key l l.length (Nat.le_refl _)).1
  rwa [List.take_length] at this

/-- The bits of what is kept. -/
def maskJ (u keep : List Int) : Nat → Nat
  | 0 => 0
  | j + 1 => if u.getD j 0 ∈ keep then maskJ u keep j ||| 2 ^ (u.length - 1 - j) else maskJ u keep j
theorem maskJ_lt (u keep : List Int) : ∀ j, j ≤ u.length → maskJ u keep j < 2 ^ u.length
  | 0, _ => Nat.pow_pos (by omega)
  | j + 1, h => by
    have h1 := maskJ_lt u keep j (by omega)
    unfold maskJ
    split
    · exact Nat.or_lt_two_pow h1 (Nat.pow_lt_pow_right (by omega) (by omega))
    · exact h1
theorem maskJ_bit (u keep : List Int) (i : Nat) (hi : i < u.length) : ∀ j, j ≤ u.length → ((maskJ u keep j).testBit (u.length - 1 - i) = true ↔ i < j ∧ u[i] ∈ keep)
  | 0, _ => by
    rw [show maskJ u keep 0 = 0 from rfl, Nat.zero_testBit]
    constructor
    · intro h; cases h
    · intro h; omega
  | j + 1, h => by
    have ih := maskJ_bit u keep i hi j (by omega)
    have hg : u.getD j 0 = u[j] := by rw [List.getD_eq_getElem?_getD, List.getElem?_eq_getElem (by omega)]; rfl
    have hpow : (2 ^ (u.length - 1 - j)).testBit (u.length - 1 - i) = decide (j = i) := by
      rw [Nat.testBit_two_pow]
      by_cases e : j = i
      · rw [decide_eq_true e, decide_eq_true (by omega)]
      · rw [decide_eq_false e, decide_eq_false (by omega)]
    unfold maskJ
    rw [hg]
    by_cases hk : u[j] ∈ keep
    · rw [if_pos hk, Nat.testBit_or, Bool.or_eq_true, ih, hpow, decide_eq_true_eq]
      constructor
      · rintro (h | h)
        · exact ⟨by omega, h.2⟩
        · subst h; exact ⟨by omega, hk⟩
      · rintro ⟨h1, h2⟩
        by_cases e : j = i
        · exact .inr e
        · exact .inl ⟨by omega, h2⟩
    · rw [if_neg hk, ih]
      constructor
      · rintro ⟨h1, h2⟩; exact ⟨by omega, h2⟩
      · rintro ⟨h1, h2⟩
        refine ⟨?_, h2⟩
        rcases Nat.lt_succ_iff_lt_or_eq.1 h1 with h | h
        · exact h
        · subst h; exact absurd h2 hk
def maskU (u keep : List Int) : Nat := maskJ u keep u.length
def keyU (u keep : List Int) (n : Nat) : Nat := n &&& maskU u keep
/-- Alike in what is kept. -/
def likeU (u kept : List Int) (n m : Nat) : Bool := kept.all fun x => valU u n x == valU u m x
def keptL (u keep : List Int) : List Int := keep.filter fun x => decide (x ∈ u)
theorem likeU_eq {u keep : List Int} (hr : Rise u) (n m : Nat) : likeU u (keptL u keep) n m = (keyU u keep n == keyU u keep m) := by
  have hi : likeU u (keptL u keep) n m = true ↔ keyU u keep n = keyU u keep m := by
    unfold likeU keptL keyU
    rw [List.all_eq_true]
    constructor
    · intro h
      apply Nat.eq_of_testBit_eq
      intro b
      rw [Nat.testBit_and, Nat.testBit_and]
      by_cases hb : b < u.length
      · have hbe : u.length - 1 - (u.length - 1 - b) = b := by omega
        have hi : u.length - 1 - b < u.length := by omega
        have hm := maskJ_bit u keep (u.length - 1 - b) hi u.length (Nat.le_refl _)
        rw [hbe] at hm
        by_cases hk : u[u.length - 1 - b] ∈ keep
        · have := h u[u.length - 1 - b] (List.mem_filter.2 ⟨hk, decide_eq_true (List.getElem_mem hi)⟩)
          have this := beq_iff_eq.1 this
          unfold valU at this
          rw [if_pos (List.getElem_mem hi), if_pos (List.getElem_mem hi), pos_get hr hi] at this
          unfold bitN at this
          rw [hbe] at this
          rw [this]
        · have : (maskU u keep).testBit b = false := by
            cases e : (maskU u keep).testBit b
            · rfl
            · exact absurd (hm.1 e).2 hk
          rw [this, Bool.and_false, Bool.and_false]
      · have : (maskU u keep).testBit b = false := Nat.testBit_lt_two_pow (Nat.lt_of_lt_of_le (maskJ_lt u keep u.length (Nat.le_refl _)) (Nat.pow_le_pow_right (by omega) (by omega)))
        rw [this, Bool.and_false, Bool.and_false]
    · intro h x hx
      obtain ⟨hk, hu⟩ := List.mem_filter.1 hx
      have hu := of_decide_eq_true hu
      have hp := pos_lt hu
      have hm := maskJ_bit u keep (pos u x) hp u.length (Nat.le_refl _)
      have hx2 := pos_at hu
      rw [List.getElem?_eq_getElem hp] at hx2
      have hx2 := Option.some.inj hx2
      have ht : (maskU u keep).testBit (u.length - 1 - pos u x) = true := hm.2 ⟨hp, by rw [hx2]; exact hk⟩
      have h2 := congrArg (fun z => Nat.testBit z (u.length - 1 - pos u x)) h
      simp only [Nat.testBit_and, ht, Bool.and_true] at h2
      unfold valU bitN
      rw [if_pos hu, if_pos hu, h2]
      exact beq_self_eq_true _
  cases h1 : likeU u (keptL u keep) n m
  · cases h2 : (keyU u keep n == keyU u keep m)
    · rfl
    · rw [hi.2 (beq_iff_eq.1 h2)] at h1; cases h1
  · rw [hi.1 h1, beq_self_eq_true]

noncomputable def patM (c : Cnf) (keep : List Int) : List Nat := by
  classical exact if CnfRight c ∧ KeepOk c.1 keep then dig ((firsts (keyU (usedL c.2.1) keep) (models (usedL c.2.1) c.2.1)).length * 2 ^ (keep.length - (keptL (usedL c.2.1) keep).length)) else []
theorem kept_len (u keep : List Int) : (keptL u keep).length ≤ keep.length := List.length_filter_le _ _
theorem KeepOk.len' {c : Cnf} {keep : List Int} (h : KeepOk c.1 keep) (hc : CnfRight c) : keep.length ≤ 300 := by
  have := h.len
  have := hc.1
  omega
theorem patM_len (c : Cnf) (keep : List Int) : (patM c keep).length ≤ 25 := by
  unfold patM
  split
  · rename_i h
    have := h.2.len' h.1
    exact prod_len (Nat.le_trans (firsts_len _ _) (models_len h.1.2.2.2 _)) (by omega)
  · exact Nat.zero_le _

/-! ### The reference's patterns -/
def LikeK (u : List Int) (V : Nat) (kept : List Int) (k : Nat) : Prop := ∀ n m : Nat, cl k 138 s_spec_l14Like (modelL u V n, modelL u V m, kept, ()) = some ((likeU u kept n m, ()), ())
theorem like_ev (u : List Int) (V : Nat) (hV : V ≤ 300) (kept : List Int) (hk : ∀ x ∈ kept, 1 ≤ x ∧ x ≤ V) (hl : kept.length ≤ 1048576) : Ev (LikeK u V kept) := Ev.step (Ev.ge (kept.length + 1)) fun k hge n m => by
  rw [cl_succ, spec_l14Like.F_eq (cl k) k (modelL u V n) (modelL u V m) kept]
  have key : ∀ (d q j : Nat), kept.length - j = d → d < q → j ≤ kept.length → spec_l14Like.L0 (cl k) k (modelL u V n) (modelL u V m) kept q (j : Int) = some (((kept.drop j).all fun x => valU u n x == valU u m x, ()), ()) := by
    intro d
    induction d with
    | zero =>
      intro q j hd hq hj
      obtain ⟨q, rfl⟩ : ∃ p, q = p + 1 := ⟨q - 1, by omega⟩
      unfold spec_l14Like.L0 spec_l14Like.step0
      refine bif_f (dnlt (by omega)) ?_
      rw [List.drop_of_length_le (by omega)]; rfl
    | succ d ih =>
      intro q j hd hq hj
      obtain ⟨q, rfl⟩ : ∃ p, q = p + 1 := ⟨q - 1, by omega⟩
      have hj : j < kept.length := by omega
      have hx := hk _ (List.getElem_mem hj)
      obtain ⟨v, hv⟩ := Int.eq_ofNat_of_zero_le (show 0 ≤ kept[j] - 1 by omega)
      have hv' : kept[j] = (v : Int) + 1 := by omega
      have hv2 : v < V := by omega
      have hw : IntKind.i64.wrap (kept[j] - 1) = (v : Int) := by rw [w64 (by omega) (by omega)]; exact hv
      unfold spec_l14Like.L0 spec_l14Like.step0
      refine bif_t (dlt hj) (bif_t (dle0 j) (bind_k (lg hj) ?_))
      rw [hw]
      refine bif_t (dle0 v) (bind_k (by rw [Int.toNat_natCast]; exact modelL_at hv2) (bif_t (dle0 j) (bind_k (lg hj) ?_)))
      rw [hw]
      refine bif_t (dle0 v) (bind_k (by rw [Int.toNat_natCast]; exact modelL_at hv2) ?_)
      rw [all_drop _ _ _ hj, hv', ws hj (show kept.length ≤ 9223372036854775807 by omega)]
      cases h : (valU u n ((v : Int) + 1) == valU u m ((v : Int) + 1)) with
      | true =>
        refine bif_f rfl ?_
        rw [ih q (j + 1) (by omega) (by omega) (by omega), Bool.true_and]
      | false => exact bif_t rfl (by rw [Bool.false_and])
  have := key kept.length k 0 rfl (by omega) (Nat.zero_le _)
  rw [List.drop_zero] at this
  exact this

theorem filter_take_succ (p : Int → Bool) (l : List Int) {j : Nat} (hj : j < l.length) : (l.take (j + 1)).filter p = (l.take j).filter p ++ (if p l[j] then [l[j]] else []) := by
  rw [List.take_succ_eq_append_getElem hj, List.filter_append]
  congr 1
  cases h : p l[j] <;> simp [h]

theorem spec_PatternsOf_ans (c : Cnf) (hs : Small c) (keep : List Int) (hk : keep.length ≤ 1048576) : Ans 80 s_spec_PatternsOf (c, keep, ()) ((toI (patM c keep), ()), ()) := by
  unfold patM
  refine (Gv.of (fun k => spec_PatternsOf.F_eq (cl k) k c keep) ?_).ans
  rcases CnfOkS_cases c hs with ⟨h, h1, _⟩ | ⟨h, h1, _⟩
  · refine .bind h1.tq fun x hx => ?_
    subst hx
    refine .bf rfl (.bind (l14Used_ans c.1 c.2.1 (by have := h.2.1; omega) h.range').tq fun x hx => ?_)
    subst hx
    have hmod := l14Models_ans c hs h
    have hrise := usedL_rise c.2.1
    have hu : (usedL c.2.1).length ≤ 12 := h.2.2.2
    have hm := models_len hu c.2.1
    generalize usedL c.2.1 = u at *
    generalize models u c.2.1 = L at *
    have hV := h.1
    obtain ⟨V, hVe⟩ := Int.eq_ofNat_of_zero_le hV.1
    have hVn : c.1.toNat = V := by rw [hVe, Int.toNat_natCast]
    have hV3 : V ≤ 300 := by have := hV.2; rw [hVe] at this; omega
    rw [hVn] at hmod
    have hin : ∀ (j : Nat) (hj : j < keep.length), Ans 88 s_spec_l1In (keep[j], (1 : Int), c.1, ()) ((decide (1 ≤ keep[j]) && decide (keep[j] ≤ c.1), ()), ()) := fun j hj => l1In_ev.mono fun k hk => hk _ _ _
    have hin2 : ∀ (j : Nat) (hj : j < keep.length), Ans 137 s_spec_l2In (u, keep[j], ()) ((decide (keep[j] ∈ u), ()), ()) := fun j hj => l2In_ans u _ (by rw [maxLen_eq]; omega)
    have hwj : ∀ j, j < keep.length → IntKind.i64.wrap ((j : Int) + 1) = ((j + 1 : Nat) : Int) := fun j hj => ws hj (by omega)
    -- one step over a place that is right
    have step : ∀ (j : Nat) (hj : j < keep.length), keepAt c.1 keep j → ∀ (other : Nat) (kept : List Int) (d : Nat) (P : spec_PatternsOf.R → Prop), other ≤ 1048576 → kept.length ≤ 1048576 →
        Tq d (fun k q => spec_PatternsOf.L0 (cl k) k c keep ((u, ()), ()) q ((if keep[j] ∈ u then other else other + 1 : Nat) : Int) ((j + 1 : Nat) : Int) (kept ++ if keep[j] ∈ u then [keep[j]] else [])) P →
        Tq (d + 1) (fun k q => spec_PatternsOf.L0 (cl k) k c keep ((u, ()), ()) q (other : Int) (j : Int) kept) P := by
      intro j hj hok other kept d P ho hkl hnext
      obtain ⟨⟨o1, o2⟩, o3⟩ := hok hj
      refine .succ (.bt (dlt hj) (.bt (dle0 j) (.some (lg hj) (.bind (hin j hj).tq fun x hx => ?_))))
      subst hx
      refine .bf (by show (!(decide (1 ≤ keep[j]) && decide (keep[j] ≤ c.1))) = false; rw [decide_eq_true o1, decide_eq_true o2]; rfl) ?_
      have fin : Tq d (fun k q => (cl k 137 s_spec_l2In (u, keep[j], ())).bind fun y7 => bif y7.1.1 then bif decide ((0 : Int) ≤ (j : Int)) then (lget keep (j : Int).toNat).bind fun y8 => bif decide ((kept.length + [y8].length) * ti2.bytes ≤ (140737488355328 : Nat)) then spec_PatternsOf.L0 (cl k) k c keep ((u, ()), ()) q (other : Int) (IntKind.i64.wrap ((j : Int) + (1 : Int))) (kept ++ [y8]) else none else none
          else spec_PatternsOf.L0 (cl k) k c keep ((u, ()), ()) q (IntKind.i64.wrap ((other : Int) + (1 : Int))) (IntKind.i64.wrap ((j : Int) + (1 : Int))) kept) P := by
        refine .bind (hin2 j hj).tq fun x hx => ?_
        subst hx
        by_cases e : keep[j] ∈ u
        · rw [if_pos e, if_pos e] at hnext
          refine .bt (decide_eq_true e) (.bt (dle0 j) (.some (lg hj) (.bt (ap2 (by omega)) ?_)))
          simp only [hwj j hj]
          exact hnext
        · rw [if_neg e, if_neg e, List.append_nil] at hnext
          have hw : IntKind.i64.wrap ((other : Int) + 1) = ((other + 1 : Nat) : Int) := ws (n := 5000000) (by omega) (by omega)
          refine .bf (decide_eq_false e) ?_
          simp only [hwj j hj, hw]
          exact hnext
      by_cases j0 : j = 0
      · exact .bf (decide_eq_false (by omega)) (.bt (dle0 j) (.some (lg hj) fin))
      · have o3 := o3 (by omega)
        have hw : IntKind.i64.wrap ((j : Int) - 1) = ((j - 1 : Nat) : Int) := by rw [w64 (by omega) (by omega)]; omega
        refine .bt (decide_eq_true (by omega)) (.bt (dle0 j) (.some (lg hj) ?_))
        simp only [hw]
        exact .bt (dle0 _) (.some (lg (show j - 1 < keep.length by omega)) (.bf (decide_eq_false (by omega)) (.bt (dle0 j) (.some (lg hj) fin))))
    by_cases hok : KeepOk c.1 keep
    · rw [if_pos ⟨h, hok⟩]
      have hkl := hok.len' h
      have hkeptr : ∀ x ∈ keptL u keep, 1 ≤ x ∧ x ≤ (V : Int) := fun x hx => by
        have := hok.range x (List.mem_filter.1 hx).1
        rw [hVe] at this; exact this
      have hlike := like_ev u V hV3 (keptL u keep) hkeptr (by have := kept_len u keep; omega)
      -- the patterns
      have key2 : ∀ (i : Nat) (hi : i < L.length) (acc : List Nat), acc.length ≤ 4096 → ∀ (k : Nat), LikeK u V (keptL u keep) k → ∀ (d j : Nat) (is : Bool), acc.length - j = d → j ≤ acc.length → ∀ (r1 : Int → List (List Bool) → Option spec_PatternsOf.R) q, d < q →
          spec_PatternsOf.L2 (cl k) k (keptL u keep) ((L.map (modelL u V), ()), ()) (i : Int) (acc.map (modelL u V)) r1 q is (j : Int) = r1 ((i + 1 : Nat) : Int) (bif is || (acc.drop j).any (fun m => likeU u (keptL u keep) m L[i]) then acc.map (modelL u V) else (acc ++ [L[i]]).map (modelL u V)) := by
        intro i hi acc hacc k hlk d
        have hwi : IntKind.i64.wrap ((i : Int) + 1) = ((i + 1 : Nat) : Int) := ws hi (by omega)
        have him : i < (L.map (modelL u V)).length := by rw [List.length_map]; exact hi
        have gi : lget (L.map (modelL u V)) (i : Int).toNat = some (modelL u V L[i]) := by rw [lg him, List.getElem_map]
        induction d with
        | zero =>
          intro j is hd hj r1 q hq
          obtain ⟨q, rfl⟩ : ∃ p, q = p + 1 := ⟨q - 1, by omega⟩
          rw [List.drop_of_length_le (by omega), List.any_nil, Bool.or_false]
          unfold spec_PatternsOf.L2 spec_PatternsOf.step2
          refine bif_f (dnlt (by rw [List.length_map]; omega)) ?_
          rw [hwi]
          cases is with
          | true => exact bif_f rfl rfl
          | false =>
            refine bif_t rfl (bif_t (dle0 i) (bind_k gi (bif_t (ap53 (by rw [List.length_map]; omega)) ?_)))
            rw [List.map_append]; rfl
        | succ d ih =>
          intro j is hd hj r1 q hq
          obtain ⟨q, rfl⟩ : ∃ p, q = p + 1 := ⟨q - 1, by omega⟩
          have hj : j < acc.length := by omega
          have hjm : j < (acc.map (modelL u V)).length := by rw [List.length_map]; exact hj
          have gj : lget (acc.map (modelL u V)) (j : Int).toNat = some (modelL u V acc[j]) := by rw [lg hjm, List.getElem_map]
          unfold spec_PatternsOf.L2 spec_PatternsOf.step2
          refine bif_t (dlt hjm) ?_
          cases is with
          | true =>
            refine bif_f rfl (bif_f rfl ?_)
            rw [hwi, Bool.true_or]; rfl
          | false =>
            refine bif_t rfl (bif_t (by rw [dle0, Int.toNat_natCast, decide_eq_true hjm]; rfl) (bind_k gj (bif_t (dle0 i) (bind_k gi (bind_k (hlk _ _) ?_)))))
            rw [ws hj (show acc.length ≤ 9223372036854775807 by omega), any_drop _ _ _ hj, Bool.false_or]
            exact ih (j + 1) _ (by omega) (by omega) r1 q (by omega)
      obtain ⟨t, ht⟩ : ∃ t : Nat, keep.length - (keptL u keep).length = t := ⟨_, rfl⟩
      rw [ht]
      have ht3 : t ≤ 300 := by omega
      have key1 : ∀ (d i : Nat), L.length - i = d → i ≤ L.length → Tq (d + 1) (fun k q => spec_PatternsOf.L1 (cl k) k (t : Int) ((L.map (modelL u V), ()), ()) (keptL u keep) q (i : Int) ((firsts (keyU u keep) (L.take i)).map (modelL u V))) (· = ((toI (dig ((firsts (keyU u keep) L).length * 2 ^ t)), ()), ())) := by
        intro d
        induction d with
        | zero =>
          intro i hd hi
          obtain rfl : i = L.length := by omega
          have hfl := firsts_len (keyU u keep) L
          refine .succ (.bf (dnlt (by rw [List.length_map]; omega)) (.bind (power_ans t ht3).tq fun x hx => ?_))
          subst hx
          have hn := natS_ans (dig_can (firsts (keyU u keep) L).length) (Nat.le_trans (dig_len (d := 1) (by omega)) (by omega)) (by rw [dig_val]; omega)
          rw [dig_val] at hn
          simp only [List.length_map, List.take_length]
          refine .bind hn.tq fun x hx => ?_
          subst hx
          have hp := prod_len (n := (firsts (keyU u keep) L).length) (by omega) ht3
          have hmul := mulNat_ans (dig_can (firsts (keyU u keep) L).length) (dig_can (2 ^ t)) (Nat.le_trans (dig_len (d := 1) (by omega)) (by omega)) (by have := pow_len (t := t) (by omega); omega) (by rw [dig_val, dig_val]; omega)
          rw [dig_val, dig_val] at hmul
          refine .bind hmul.tq fun x hx => ?_
          subst hx
          exact .ret rfl
        | succ d ih =>
          intro i hd hi
          have hi : i < L.length := by omega
          have ih := ih (i + 1) (by omega) (by omega)
          have hfl := (firsts_take (keyU u keep) L i (by omega)).1
          rw [List.take_succ_eq_append_getElem hi, firsts_snoc] at ih
          refine .succ (.bt (dlt (by rw [List.length_map]; exact hi)) (.evEq ((hlike.and (Ev.ge 5000)).mono fun k ⟨hlk, hge⟩ q hq => ?_) ih))
          have := key2 i hi (firsts (keyU u keep) (L.take i)) (by omega) k hlk _ 0 false rfl (Nat.zero_le _) (spec_PatternsOf.L1 (cl k) k (t : Int) ((L.map (modelL u V), ()), ()) (keptL u keep) q) k (by omega)
          rw [List.drop_zero, Bool.false_or] at this
          refine this.trans ?_
          unfold addF
          have e : (firsts (keyU u keep) (L.take i)).any (fun m => likeU u (keptL u keep) m L[i]) = (firsts (keyU u keep) (L.take i)).any (fun m => keyU u keep m == keyU u keep L[i]) := hold_eq.any_congr' fun x _ => likeU_eq hrise x L[i]
          rw [e]
          cases (firsts (keyU u keep) (L.take i)).any (fun m => keyU u keep m == keyU u keep L[i]) <;> rfl
      have key0 : ∀ (d j : Nat), keep.length - j = d → j ≤ keep.length → Tq (d + 1) (fun k q => spec_PatternsOf.L0 (cl k) k c keep ((u, ()), ()) q ((j - ((keep.take j).filter fun x => decide (x ∈ u)).length : Nat) : Int) (j : Int) ((keep.take j).filter fun x => decide (x ∈ u))) (· = ((toI (dig ((firsts (keyU u keep) L).length * 2 ^ t)), ()), ())) := by
        intro d
        induction d with
        | zero =>
          intro j hd hj
          obtain rfl : j = keep.length := by omega
          refine .succ (.bf (dnlt (Nat.le_refl _)) (.bind hmod.tq fun x hx => ?_))
          subst hx
          rw [List.take_length]
          have e : keep.length - (keep.filter fun x => decide (x ∈ u)).length = t := ht
          rw [e]
          exact (key1 _ 0 rfl (Nat.zero_le _)).diag
        | succ d ih =>
          intro j hd hj
          have hj : j < keep.length := by omega
          have hfl : ((keep.take j).filter fun x => decide (x ∈ u)).length ≤ j := Nat.le_trans (List.length_filter_le _ _) (by rw [List.length_take]; omega)
          have ih := ih (j + 1) (by omega) (by omega)
          rw [filter_take_succ _ _ hj] at ih
          refine step j hj (hok j) _ _ _ _ (by omega) (by omega) ?_
          by_cases e : keep[j] ∈ u
          · rw [if_pos (decide_eq_true e), List.length_append, List.length_singleton] at ih
            rw [if_pos e, if_pos e]
            rw [show j + 1 - (((keep.take j).filter fun x => decide (x ∈ u)).length + 1) = j - ((keep.take j).filter fun x => decide (x ∈ u)).length by omega] at ih
            exact ih
          · rw [if_neg (by rw [decide_eq_false e]; simp), List.append_nil] at ih
            rw [if_neg e, if_neg e, List.append_nil]
            rw [show j + 1 - ((keep.take j).filter fun x => decide (x ∈ u)).length = j - ((keep.take j).filter fun x => decide (x ∈ u)).length + 1 by omega] at ih
            exact ih
      exact (key0 _ 0 rfl (Nat.zero_le _)).diag
    · rw [if_neg fun e => hok e.2]
      obtain ⟨b, hb, hb1, hb2⟩ := keep_bad hok
      have key0 : ∀ (d j : Nat), b - j = d → j ≤ b → ∀ (other : Nat) (kept : List Int), other ≤ j → kept.length ≤ j → Tq (d + 1) (fun k q => spec_PatternsOf.L0 (cl k) k c keep ((u, ()), ()) q (other : Int) (j : Int) kept) (· = ((toI [], ()), ())) := by
        intro d
        induction d with
        | zero =>
          intro j hd hj other kept _ _
          obtain rfl : j = b := by omega
          refine .succ (.bt (dlt hb) (.bt (dle0 j) (.some (lg hb) (.bind (hin j hb).tq fun x hx => ?_))))
          subst hx
          by_cases o1 : 1 ≤ keep[j] ∧ keep[j] ≤ c.1
          · refine .bf (by show (!(decide (1 ≤ keep[j]) && decide (keep[j] ≤ c.1))) = false; rw [decide_eq_true o1.1, decide_eq_true o1.2]; rfl) ?_
            have j0 : 0 < j := by
              refine Nat.pos_of_ne_zero fun e => hb2 fun _ => ⟨o1, fun h => ?_⟩
              omega
            have o3 : keep[j] ≤ keep[j - 1] := by
              refine Int.not_lt.1 fun e => hb2 fun _ => ⟨o1, fun _ => e⟩
            have hw : IntKind.i64.wrap ((j : Int) - 1) = ((j - 1 : Nat) : Int) := by rw [w64 (by omega) (by omega)]; omega
            refine .bt (decide_eq_true (by omega)) (.bt (dle0 j) (.some (lg hb) ?_))
            simp only [hw]
            exact .bt (dle0 _) (.some (lg (show j - 1 < keep.length by omega)) (.bt (decide_eq_true o3) (.ret rfl)))
          · refine .bt ?_ (.ret rfl)
            show (!(decide (1 ≤ keep[j]) && decide (keep[j] ≤ c.1))) = true
            by_cases e : 1 ≤ keep[j]
            · rw [decide_eq_true e, decide_eq_false fun h => o1 ⟨e, h⟩]; rfl
            · rw [decide_eq_false e]; rfl
        | succ d ih =>
          intro j hd hj other kept ho hkl
          have hj : j < b := by omega
          refine step j (by omega) (hb1 j hj) other kept _ _ (by omega) (by omega) (ih (j + 1) (by omega) (by omega) _ _ ?_ ?_)
          · split <;> omega
          · rw [List.length_append]
            split
            · rw [List.length_singleton]; omega
            · rw [List.length_nil]; omega
      exact (key0 _ 0 rfl (Nat.zero_le _) 0 [] (Nat.le_refl _) (Nat.le_refl _)).diag
  · rw [if_neg fun e => h e.1]
    refine .bind h1.tq fun x hx => ?_
    subst hx
    exact .bt rfl (.ret rfl)

/-! ### The program's patterns -/
theorem bitsI_andN {x y : Nat} (hx : x ≤ 4096) (hy : y ≤ 4096) : bitsI .and .i64 (x : Int) (y : Int) = ((x &&& y : Nat) : Int) := by
  unfold bitsI
  have h2 : (BitVec.ofInt IntKind.i64.bits (x : Int) &&& BitVec.ofInt IntKind.i64.bits (y : Int)).toNat = x &&& y := by
    rw [BitVec.toNat_and, BitVec.ofInt_natCast, BitVec.ofInt_natCast, BitVec.toNat_ofNat, BitVec.toNat_ofNat]
    rw [show IntKind.i64.bits = 64 from rfl, Nat.mod_eq_of_lt (show x < 2 ^ 64 by omega), Nat.mod_eq_of_lt (show y < 2 ^ 64 by omega)]
  simp only [h2]
  have : x &&& y ≤ y := Nat.and_le_right
  exact w64n (by omega)
theorem bitsI_orN {x y : Nat} (hx : x < 4096) (hy : y < 4096) : bitsI .or .i64 (x : Int) (y : Int) = ((x ||| y : Nat) : Int) := by
  unfold bitsI
  have h2 : (BitVec.ofInt IntKind.i64.bits (x : Int) ||| BitVec.ofInt IntKind.i64.bits (y : Int)).toNat = x ||| y := by
    rw [BitVec.toNat_or, BitVec.ofInt_natCast, BitVec.ofInt_natCast, BitVec.toNat_ofNat, BitVec.toNat_ofNat]
    rw [show IntKind.i64.bits = 64 from rfl, Nat.mod_eq_of_lt (show x < 2 ^ 64 by omega), Nat.mod_eq_of_lt (show y < 2 ^ 64 by omega)]
  simp only [h2]
  have : x ||| y < 2 ^ 12 := Nat.or_lt_two_pow (show x < 2 ^ 12 by omega) (show y < 2 ^ 12 by omega)
  exact w64n (by omega)
theorem mput_addF (key : Nat → Nat) (n : Nat) : ∀ acc : List Nat, mput (.int .i64) (acc.map fun (m : Nat) => ((key m : Int), true)) (key n : Int) true = (addF key acc n).map fun (m : Nat) => ((key m : Int), true)
  | [] => rfl
  | a :: acc => by
    have ih := mput_addF key n acc
    have e0 : eqV (.int .i64) (key n : Int) (key a : Int) = (key a == key n) := by
      show ((key n : Int) == (key a : Int)) = (key a == key n)
      by_cases h : key a = key n
      · rw [h, beq_self_eq_true, beq_self_eq_true]
      · rw [beq_false_of_ne (by omega), beq_false_of_ne h]
    have e1 : mput (.int .i64) ((a :: acc).map fun (m : Nat) => ((key m : Int), true)) (key n : Int) true = bif eqV (.int .i64) (key n : Int) (key a : Int) then ((key n : Int), true) :: acc.map fun (m : Nat) => ((key m : Int), true) else ((key a : Int), true) :: mput (.int .i64) (acc.map fun (m : Nat) => ((key m : Int), true)) (key n : Int) true := rfl
    rw [e1, e0, ih]
    unfold addF
    rw [List.any_cons]
    by_cases h : key a = key n
    · rw [h, beq_self_eq_true, Bool.true_or, if_pos rfl, cond_true, List.map_cons, h]
    · rw [beq_false_of_ne h, Bool.false_or, cond_false]
      split
      · rfl
      · rfl

theorem impl_PatternsOf_ans (c : Cnf) (hs : Small c) (keep : List Int) (hk : keep.length ≤ 1048576) : Ans 82 s_impl_PatternsOf (c, keep, ()) ((toI (patM c keep), ()), ()) := by
  unfold patM
  refine (Gv.of (fun k => impl_PatternsOf.F_eq (cl k) k c keep) ?_).ans
  rcases CnfOkS_cases c hs with ⟨h, _, h1⟩ | ⟨h, _, h1⟩
  · refine .bind h1.tq fun x hx => ?_
    subst hx
    refine .bf rfl ?_
    have hsea := searchOf_ans c hs h
    have hrise := usedL_rise c.2.1
    have hu : (usedL c.2.1).length ≤ 12 := h.2.2.2
    have hm := models_len hu c.2.1
    have hmlt : ∀ n ∈ models (usedL c.2.1) c.2.1, n < 2 ^ (usedL c.2.1).length := fun n hn => models_lt hn
    generalize usedL c.2.1 = u at *
    generalize models u c.2.1 = L at *
    have hp := pow12 hu
    have hwj : ∀ j, j < keep.length → IntKind.i64.wrap ((j : Int) + 1) = ((j + 1 : Nat) : Int) := fun j hj => ws hj (by omega)
    have step : ∀ (j : Nat) (hj : j < keep.length), keepAt c.1 keep j → ∀ (d : Nat) (P : impl_PatternsOf.R → Prop),
        Tq d (fun k q => impl_PatternsOf.L0 (cl k) k c keep q ((j + 1 : Nat) : Int)) P → Tq (d + 1) (fun k q => impl_PatternsOf.L0 (cl k) k c keep q (j : Int)) P := by
      intro j hj hok d P hnext
      obtain ⟨⟨o1, o2⟩, o3⟩ := hok hj
      refine .succ (.bt (dlt hj) (.bt (dle0 j) (.some (lg hj) (.bf (decide_eq_false (by omega)) (.bf (decide_eq_false (by omega)) ?_)))))
      simp only [hwj j hj]
      by_cases j0 : j = 0
      · exact .bf (decide_eq_false (by omega)) hnext
      · have o3 := o3 (by omega)
        have hw : IntKind.i64.wrap ((j : Int) - 1) = ((j - 1 : Nat) : Int) := by rw [w64 (by omega) (by omega)]; omega
        refine .bt (decide_eq_true (by omega)) ?_
        simp only [hw]
        exact .bt (dle0 _) (.some (lg (show j - 1 < keep.length by omega)) (.bf (decide_eq_false (by omega)) hnext))
    by_cases hok : KeepOk c.1 keep
    · rw [if_pos ⟨h, hok⟩]
      have hkl := hok.len' h
      have hkr := hok.rise
      obtain ⟨t, ht⟩ : ∃ t : Nat, keep.length - (keptL u keep).length = t := ⟨_, rfl⟩
      rw [ht]
      have ht3 : t ≤ 300 := by omega
      have hmask := maskJ_lt u keep u.length (Nat.le_refl _)
      have hmask : maskU u keep < 2 ^ u.length := hmask
      -- the patterns
      have key3 : ∀ (d i : Nat), L.length - i = d → i ≤ L.length → Tq (d + 1) (fun k q => impl_PatternsOf.L3 (cl k) k (((u, L.map fun (n : Nat) => (n : Int), ()), ()), ()) ((maskU u keep : Nat) : Int) (t : Int) q (i : Int) ((firsts (keyU u keep) (L.take i)).map fun (m : Nat) => ((keyU u keep m : Int), true))) (· = ((toI (dig ((firsts (keyU u keep) L).length * 2 ^ t)), ()), ())) := by
        intro d
        induction d with
        | zero =>
          intro i hd hi
          obtain rfl : i = L.length := by omega
          have hfl := firsts_len (keyU u keep) L
          rw [List.take_length]
          refine .succ (.bf (dnlt (by show ((L.map fun (n : Nat) => (n : Int)).length) ≤ L.length; rw [List.length_map]; exact Nat.le_refl _)) (.bt (decide_eq_true (by rw [List.length_map]; omega)) ?_))
          simp only [List.length_map]
          refine .bind (doubled_ans (firsts (keyU u keep) L).length t (by omega) ht3).tq fun x hx => ?_
          subst hx
          exact .ret rfl
        | succ d ih =>
          intro i hd hi
          have hi : i < L.length := by omega
          have him : i < (L.map fun (n : Nat) => (n : Int)).length := by rw [List.length_map]; exact hi
          have gi : lget (L.map fun (n : Nat) => (n : Int)) (i : Int).toNat = some (L[i] : Int) := by rw [lg him, List.getElem_map]
          have hn := hmlt _ (List.getElem_mem hi)
          refine .succ (.bt (dlt him) (.bt (by rw [dle0, Int.toNat_natCast]; show (true && decide (i < (L.map fun (n : Nat) => (n : Int)).length)) = true; rw [decide_eq_true him]; rfl) (.some gi ?_)))
          have ih := ih (i + 1) (by omega) (by omega)
          rw [List.take_succ_eq_append_getElem hi, firsts_snoc, ← mput_addF] at ih
          have e : bitsI .and .i64 (L[i] : Int) ((maskU u keep : Nat) : Int) = ((keyU u keep L[i] : Nat) : Int) := bitsI_andN (by omega) (by omega)
          simp only [ws hi (show L.length ≤ 9223372036854775807 by omega), e]
          exact ih
      -- the mask
      have key2 : ∀ (i : Nat) (hi : i < u.length) (mask : Nat), mask < 4096 → ∀ (d m : Nat) (free : Int), keep.length - m = d → m ≤ keep.length → 0 ≤ free + keep.length → free ≤ 1000 → ∀ (k : Nat) (r1 : Int → Int → Int → Option impl_PatternsOf.R) q, d < q →
          impl_PatternsOf.L2 (cl k) k keep (((u, L.map fun (n : Nat) => (n : Int), ()), ()), ()) (i : Int) u[i] r1 q (mask : Int) free (m : Int) = r1 ((if u[i] ∈ keep.drop m then mask ||| 2 ^ (u.length - 1 - i) else mask : Nat) : Int) (if u[i] ∈ keep.drop m then free - 1 else free) ((i + 1 : Nat) : Int) := by
        intro i hi mask hmk d
        have hwi : IntKind.i64.wrap ((i : Int) + 1) = ((i + 1 : Nat) : Int) := ws hi (by omega)
        induction d with
        | zero =>
          intro m free hd hm f0 f1 k r1 q hq
          obtain ⟨q, rfl⟩ : ∃ p, q = p + 1 := ⟨q - 1, by omega⟩
          rw [List.drop_of_length_le (by omega)]
          unfold impl_PatternsOf.L2 impl_PatternsOf.step2
          refine bif_f (dnlt (by omega)) ?_
          rw [hwi, if_neg List.not_mem_nil, if_neg List.not_mem_nil]
        | succ d ih =>
          intro m free hd hm f0 f1 k r1 q hq
          obtain ⟨q, rfl⟩ : ∃ p, q = p + 1 := ⟨q - 1, by omega⟩
          have hm : m < keep.length := by omega
          unfold impl_PatternsOf.L2 impl_PatternsOf.step2
          refine bif_t (dlt hm) (bif_t (dle0 m) (bind_k (lg hm) ?_))
          rw [hwj m hm, List.drop_eq_getElem_cons hm]
          by_cases e : keep[m] = u[i]
          · have hnot : u[i] ∉ keep.drop (m + 1) := fun hx => by
              obtain ⟨z, hz, e2⟩ := List.getElem_of_mem hx
              rw [List.getElem_drop] at e2
              rw [List.length_drop] at hz
              have := hkr.inj (i := m) (j := m + 1 + z) hm (by omega) (by rw [e, e2])
              omega
            have hw : IntKind.i64.wrap (IntKind.i64.wrap ((u.length : Int) - 1) - (i : Int)) = ((u.length - 1 - i : Nat) : Int) := by
              rw [w64 (x := (u.length : Int) - 1) (by omega) (by omega), w64 (by omega) (by omega)]; omega
            have hpw : 2 ^ (u.length - 1 - i) < 4096 := Nat.lt_of_le_of_lt (Nat.pow_le_pow_right (by omega) (show u.length - 1 - i ≤ 11 by omega)) (by decide)
            refine bif_t (by rw [e]; exact beq_self_eq_true _) ?_
            show (bif decide (IntKind.i64.wrap (IntKind.i64.wrap ((u.length : Int) - 1) - (i : Int)) < 0) then none else _) = _
            rw [hw]
            refine bif_f (decide_eq_false (by omega)) ?_
            rw [shl12 (by omega), bitsI_orN hmk hpw, w64 (x := free - 1) (by omega) (by omega), if_pos (by rw [e]; exact List.mem_cons_self), if_pos (by rw [e]; exact List.mem_cons_self)]
            have hmk2 : mask ||| 2 ^ (u.length - 1 - i) < 2 ^ 12 := Nat.or_lt_two_pow (show mask < 2 ^ 12 by omega) (show _ < 2 ^ 12 by omega)
            have ih2 : ∀ (d m : Nat) (mask : Nat) (free : Int), keep.length - m = d → m ≤ keep.length → u[i] ∉ keep.drop m → ∀ q, d < q → impl_PatternsOf.L2 (cl k) k keep (((u, L.map fun (n : Nat) => (n : Int), ()), ()), ()) (i : Int) u[i] r1 q (mask : Int) free (m : Int) = r1 (mask : Int) free ((i + 1 : Nat) : Int) := by
              intro d
              induction d with
              | zero =>
                intro m mask free hd hm hn q hq
                obtain ⟨q, rfl⟩ : ∃ p, q = p + 1 := ⟨q - 1, by omega⟩
                unfold impl_PatternsOf.L2 impl_PatternsOf.step2
                refine bif_f (dnlt (by omega)) ?_
                rw [hwi]
              | succ d ih =>
                intro m mask free hd hm hn q hq
                obtain ⟨q, rfl⟩ : ∃ p, q = p + 1 := ⟨q - 1, by omega⟩
                have hm : m < keep.length := by omega
                rw [List.drop_eq_getElem_cons hm] at hn
                unfold impl_PatternsOf.L2 impl_PatternsOf.step2
                refine bif_t (dlt hm) (bif_t (dle0 m) (bind_k (lg hm) (bif_f (beq_false_of_ne fun e => hn (by rw [e]; exact List.mem_cons_self)) ?_)))
                rw [hwj m hm]
                exact ih (m + 1) mask free (by omega) (by omega) (fun h => hn (List.mem_cons_of_mem _ h)) q (by omega)
            exact ih2 d (m + 1) _ _ (by omega) (by omega) hnot q (by omega)
          · refine bif_f (beq_false_of_ne e) ?_
            have hiff : u[i] ∈ keep[m] :: keep.drop (m + 1) ↔ u[i] ∈ keep.drop (m + 1) := by
              rw [List.mem_cons]
              exact ⟨fun h => h.resolve_left fun h => e h.symm, .inr⟩
            rw [ih (m + 1) free (by omega) (by omega) f0 f1 k r1 q (by omega)]
            simp only [hiff]
      have key1 : ∀ (d i : Nat), u.length - i = d → i ≤ u.length → Tq (d + 1) (fun k q => impl_PatternsOf.L1 (cl k) k (((u, L.map fun (n : Nat) => (n : Int), ()), ()), ()) keep q ((maskJ u keep i : Nat) : Int) ((keep.length : Int) - ((u.take i).filter fun x => decide (x ∈ keep)).length) (i : Int)) (· = ((toI (dig ((firsts (keyU u keep) L).length * 2 ^ t)), ()), ())) := by
        intro d
        induction d with
        | zero =>
          intro i hd hi
          obtain rfl : i = u.length := by omega
          rw [List.take_length]
          have ekept : (u.filter fun x => decide (x ∈ keep)) = keptL u keep := rise_eq (List.Pairwise.filter _ hrise) (List.Pairwise.filter _ hkr) fun x => by
            unfold keptL
            rw [List.mem_filter, List.mem_filter, decide_eq_true_eq, decide_eq_true_eq]
            exact And.comm
          have hkl2 := kept_len u keep
          have e : (keep.length : Int) - ((u.filter fun x => decide (x ∈ keep)).length : Int) = (t : Int) := by rw [ekept]; omega
          rw [e]
          exact .succ (.bf (dnlt (Nat.le_refl _)) (key3 _ 0 rfl (Nat.zero_le _)).diag)
        | succ d ih =>
          intro i hd hi
          have hi : i < u.length := by omega
          have ih := ih (i + 1) (by omega) (by omega)
          have hg : u.getD i 0 = u[i] := by rw [List.getD_eq_getElem?_getD, List.getElem?_eq_getElem hi]; rfl
          have hfl : ((u.take i).filter fun x => decide (x ∈ keep)).length ≤ i := Nat.le_trans (List.length_filter_le _ _) (by rw [List.length_take]; omega)
          have hfk : ((u.take i).filter fun x => decide (x ∈ keep)).length ≤ 12 := by omega
          have hmk := maskJ_lt u keep i (by omega)
          rw [filter_take_succ _ _ hi, show maskJ u keep (i + 1) = if u.getD i 0 ∈ keep then maskJ u keep i ||| 2 ^ (u.length - 1 - i) else maskJ u keep i from rfl, hg] at ih
          refine .succ (.bt (dlt hi) (.bt (by rw [dle0, Int.toNat_natCast, decide_eq_true hi]; rfl) (.some (lg hi) (.evEq ((Ev.ge 5000).mono fun k hge q hq => ?_) ih))))
          by_cases hf : 0 ≤ (keep.length : Int) - (((u.take i).filter fun x => decide (x ∈ keep)).length : Int) + keep.length
          · have := key2 i hi (maskJ u keep i) (by omega) _ 0 ((keep.length : Int) - ((u.take i).filter fun x => decide (x ∈ keep)).length) rfl (Nat.zero_le _) hf (by omega) k (impl_PatternsOf.L1 (cl k) k (((u, L.map fun (n : Nat) => (n : Int), ()), ()), ()) keep q) k (by omega)
            rw [List.drop_zero] at this
            refine this.trans ?_
            by_cases e : u[i] ∈ keep
            · rw [if_pos e, if_pos e, if_pos (decide_eq_true e), List.length_append, List.length_singleton]
              congr 1; omega
            · rw [if_neg e, if_neg e, if_neg (by rw [decide_eq_false e]; simp), List.append_nil]
          · exfalso
            have h1 : (u.take i).filter (fun x => decide (x ∈ keep)) = keep.filter fun x => decide (x ∈ u.take i) := rise_eq (List.Pairwise.filter _ (List.Pairwise.sublist (List.take_sublist _ _) hrise)) (List.Pairwise.filter _ hkr) fun x => by
              rw [List.mem_filter, List.mem_filter, decide_eq_true_eq, decide_eq_true_eq]
              exact And.comm
            have h2 := List.length_filter_le (fun x => decide (x ∈ u.take i)) keep
            rw [← h1] at h2
            omega
      have key0 : ∀ (d j : Nat), keep.length - j = d → j ≤ keep.length → Tq (d + 1) (fun k q => impl_PatternsOf.L0 (cl k) k c keep q (j : Int)) (· = ((toI (dig ((firsts (keyU u keep) L).length * 2 ^ t)), ()), ())) := by
        intro d
        induction d with
        | zero =>
          intro j hd hj
          obtain rfl : j = keep.length := by omega
          refine .succ (.bf (dnlt (Nat.le_refl _)) (.bind hsea.tq fun x hx => ?_))
          subst hx
          have := key1 _ 0 rfl (Nat.zero_le _)
          rw [List.take_zero] at this
          have e : (keep.length : Int) - (([] : List Int).filter fun x => decide (x ∈ keep)).length = (keep.length : Int) := by rw [List.filter_nil, List.length_nil]; omega
          rw [e] at this
          exact this.diag
        | succ d ih =>
          intro j hd hj
          exact step j (by omega) (hok j) _ _ (ih (j + 1) (by omega) (by omega))
      exact (key0 _ 0 rfl (Nat.zero_le _)).diag
    · rw [if_neg fun e => hok e.2]
      obtain ⟨b, hb, hb1, hb2⟩ := keep_bad hok
      have key0 : ∀ (d j : Nat), b - j = d → j ≤ b → Tq (d + 1) (fun k q => impl_PatternsOf.L0 (cl k) k c keep q (j : Int)) (· = ((toI [], ()), ())) := by
        intro d
        induction d with
        | zero =>
          intro j hd hj
          obtain rfl : j = b := by omega
          refine .succ (.bt (dlt hb) (.bt (dle0 j) (.some (lg hb) ?_)))
          by_cases o1 : keep[j] < 1
          · exact .bt (decide_eq_true o1) (.ret rfl)
          by_cases o2 : keep[j] > c.1
          · exact .bf (decide_eq_false o1) (.bt (decide_eq_true o2) (.ret rfl))
          refine .bf (decide_eq_false o1) (.bf (decide_eq_false o2) ?_)
          have oo : 1 ≤ keep[j] ∧ keep[j] ≤ c.1 := by omega
          have j0 : 0 < j := by
            refine Nat.pos_of_ne_zero fun e => hb2 fun _ => ⟨oo, fun h => ?_⟩
            omega
          have o3 : keep[j] ≤ keep[j - 1] := by
            refine Int.not_lt.1 fun e => hb2 fun _ => ⟨oo, fun _ => e⟩
          have hw : IntKind.i64.wrap ((j : Int) - 1) = ((j - 1 : Nat) : Int) := by rw [w64 (by omega) (by omega)]; omega
          refine .bt (decide_eq_true (by omega)) ?_
          simp only [hw]
          exact .bt (dle0 _) (.some (lg (show j - 1 < keep.length by omega)) (.bt (decide_eq_true o3) (.ret rfl)))
        | succ d ih =>
          intro j hd hj
          have hj : j < b := by omega
          exact step j (by omega) (hb1 j hj) _ _ (ih (j + 1) (by omega) (by omega))
      exact (key0 _ 0 rfl (Nat.zero_le _)).diag
  · rw [if_neg fun e => h e.1]
    refine .bind h1.tq fun x hx => ?_
    subst hx
    exact .bt rfl (.ret rfl)

end Go.Proofs.Ytcmgjdmhemfecaa.Pf
