/- What is marked is held; models. No condition. -/
import Derived.Test.YtcmgjdmhemfecaaPfC
namespace Go.Proofs.Ytcmgjdmhemfecaa.Pf
open Go Go.Pv

/-! ### Marks -/
def upF {α : Type} (f : Int → α) (n : Int) (m : Nat) : List α := (List.range m).map fun (j : Nat) => f (n + (j : Int))
theorem upF_len {α : Type} (f : Int → α) (n : Int) (m : Nat) : (upF f n m).length = m := by simp [upF]
theorem upF_get {α : Type} {f : Int → α} {n : Int} {m j : Nat} (h : j < (upF f n m).length) : (upF f n m)[j] = f (n + (j : Int)) := by simp [upF]
theorem upF_of {α : Type} {f : Int → α} {n : Int} {acc : List α} (h : ∀ i, i < acc.length → acc[i]? = some (f (n + (i : Int)))) : acc = upF f n acc.length := by
  apply List.ext_getElem?
  intro i
  rcases Nat.lt_or_ge i acc.length with hi | hi
  · rw [h i hi, List.getElem?_eq_getElem (by rw [upF_len]; exact hi), upF_get]
  · rw [List.getElem?_eq_none hi, List.getElem?_eq_none (by rw [upF_len]; exact hi)]
theorem up_set {α : Type} {f : Int → α} {n : Int} {acc : List α} {j : Nat} (hj : j < acc.length) (h : ∀ i, i < j → acc[i]? = some (f (n + (i : Int)))) : ∀ i, i < j + 1 → (acc.set j (f (n + (j : Int))))[i]? = some (f (n + (i : Int))) := by
  intro i hi
  rw [List.getElem?_set]
  by_cases e : j = i
  · subst e
    rw [if_pos rfl, if_pos hj]
  · rw [if_neg e]
    exact h i (by omega)
theorem wplus {n : Int} {j m : Nat} (h0 : 0 ≤ n) (h1 : n ≤ 4611686018427387904) (hm : m ≤ 4611686018427387000) (hj : j < m) : IntKind.i64.wrap (n + (j : Int) + 1) = n + ((j + 1 : Nat) : Int) := by
  rw [w64 (by omega) (by omega)]; omega

theorem markInt64S_ans (a : List Int) {n : Int} (h0 : 0 ≤ n) (h1 : n ≤ 4611686018427387904) (ha : a.length ≤ 1048576) : Ans 41 s_laws_markInt64S (a, n, ()) ((n + a.length, ()), upF id n a.length, ()) := by
  refine Ans.of (fun k => laws_markInt64S.F_eq (cl k) k a n) ?_
  have key : ∀ (d k q j : Nat) (acc : List Int), acc.length - j = d → d < q → j ≤ acc.length → acc.length ≤ 1048576 → (∀ i, i < j → acc[i]? = some (id (n + (i : Int)))) → laws_markInt64S.L0 (cl k) k q (n + (j : Int)) (j : Int) acc = some ((n + acc.length, ()), upF id n acc.length, ()) := by
    intro d
    induction d with
    | zero =>
      intro k q j acc hd hq hj hl hacc
      obtain ⟨q, rfl⟩ : ∃ m, q = m + 1 := ⟨q - 1, by omega⟩
      have e : j = acc.length := by omega
      simp only [laws_markInt64S.L0, laws_markInt64S.step0, dnlt (show acc.length ≤ j by omega), cond_false]
      rw [← upF_of (fun i hi => hacc i (by omega)), e]
    | succ d ih =>
      intro k q j acc hd hq hj hl hacc
      obtain ⟨q, rfl⟩ : ∃ m, q = m + 1 := ⟨q - 1, by omega⟩
      have hj : j < acc.length := by omega
      have hset := ih k q (j + 1) (acc.set j (n + (j : Int))) (by simp; omega) (by omega) (by simp; omega) (by simp; omega) (up_set (f := id) hj hacc)
      rw [List.length_set] at hset
      simp only [laws_markInt64S.L0, laws_markInt64S.step0, dlt hj, cond_true, dle0, lgn hj, Option.bind_some, ws hj (show acc.length ≤ 9223372036854775807 by omega), Int.toNat_natCast, decide_eq_true hj, Bool.and_self]
      rw [wplus h0 h1 (show acc.length ≤ 4611686018427387000 by omega) hj]
      exact hset
  refine (Ev.ge (a.length + 1)).mono fun k hk => ?_
  have := key a.length k k 0 a rfl (by omega) (by omega) ha (fun i hi => by omega)
  rw [show n + ((0 : Nat) : Int) = n by omega] at this
  exact this

theorem heldInt64S_ans (m : Nat) {n : Int} (h0 : 0 ≤ n) (h1 : n ≤ 4611686018427387904) (hm : m ≤ 1048576) : Ans 42 s_laws_heldInt64S (upF id n m, n, ()) ((n + m, ()), ()) := by
  refine Ans.of (fun k => laws_heldInt64S.F_eq (cl k) k (upF id n m) n) ?_
  have hlen : (upF id n m).length = m := upF_len _ _ _
  have key : ∀ (d k q j : Nat), m - j = d → d < q → j ≤ m → laws_heldInt64S.L0 (cl k) k (upF id n m) q (n + (j : Int)) (j : Int) = some ((n + m, ()), ()) := by
    intro d
    induction d with
    | zero =>
      intro k q j hd hq hj
      obtain ⟨q, rfl⟩ : ∃ p, q = p + 1 := ⟨q - 1, by omega⟩
      have e : j = m := by omega
      simp only [laws_heldInt64S.L0, laws_heldInt64S.step0]
      rw [hlen, dnlt (show m ≤ j by omega), cond_false, e]
    | succ d ih =>
      intro k q j hd hq hj
      obtain ⟨q, rfl⟩ : ∃ p, q = p + 1 := ⟨q - 1, by omega⟩
      have hj' : j < (upF id n m).length := by omega
      simp only [laws_heldInt64S.L0, laws_heldInt64S.step0, dlt hj', cond_true, dle0, lg hj', Option.bind_some, ws hj' (show (upF id n m).length ≤ 9223372036854775807 by omega), upF_get, id, bne_self_eq_false, cond_false]
      rw [wplus h0 h1 (show m ≤ 4611686018427387000 by omega) (by omega)]
      exact ih k q (j + 1) (by omega) (by omega) (by omega)
  refine (Ev.ge (m + 1)).mono fun k hk => ?_
  have := key m k k 0 rfl (by omega) (by omega)
  rw [show n + ((0 : Nat) : Int) = n by omega] at this
  exact this

def boolOf (n : Int) : Bool := n.tmod 3 == 0
theorem markBoolS_ans (a : List Bool) {n : Int} (h0 : 0 ≤ n) (h1 : n ≤ 4611686018427387904) (ha : a.length ≤ 1048576) : Ans 72 s_laws_markBoolS (a, n, ()) ((n + a.length, ()), upF boolOf n a.length, ()) := by
  refine Ans.of (fun k => laws_markBoolS.F_eq (cl k) k a n) ?_
  have key : ∀ (d k q j : Nat) (acc : List Bool), acc.length - j = d → d < q → j ≤ acc.length → acc.length ≤ 1048576 → (∀ i, i < j → acc[i]? = some (boolOf (n + (i : Int)))) → laws_markBoolS.L0 (cl k) k q (n + (j : Int)) (j : Int) acc = some ((n + acc.length, ()), upF boolOf n acc.length, ()) := by
    intro d
    induction d with
    | zero =>
      intro k q j acc hd hq hj hl hacc
      obtain ⟨q, rfl⟩ : ∃ m, q = m + 1 := ⟨q - 1, by omega⟩
      have e : j = acc.length := by omega
      simp only [laws_markBoolS.L0, laws_markBoolS.step0, dnlt (show acc.length ≤ j by omega), cond_false]
      rw [← upF_of (fun i hi => hacc i (by omega)), e]
    | succ d ih =>
      intro k q j acc hd hq hj hl hacc
      obtain ⟨q, rfl⟩ : ∃ m, q = m + 1 := ⟨q - 1, by omega⟩
      have hj : j < acc.length := by omega
      have hset := ih k q (j + 1) (acc.set j (boolOf (n + (j : Int)))) (by simp; omega) (by omega) (by simp; omega) (by simp; omega) (up_set hj hacc)
      rw [List.length_set] at hset
      simp only [laws_markBoolS.L0, laws_markBoolS.step0, dlt hj, cond_true, dle0, lgn hj, Option.bind_some, ws hj (show acc.length ≤ 9223372036854775807 by omega), Int.toNat_natCast, decide_eq_true hj, Bool.and_self]
      rw [wplus h0 h1 (show acc.length ≤ 4611686018427387000 by omega) hj]
      exact hset
  refine (Ev.ge (a.length + 1)).mono fun k hk => ?_
  have := key a.length k k 0 a rfl (by omega) (by omega) ha (fun i hi => by omega)
  rw [show n + ((0 : Nat) : Int) = n by omega] at this
  exact this

theorem heldBoolS_ans (m : Nat) {n : Int} (h0 : 0 ≤ n) (h1 : n ≤ 4611686018427387904) (hm : m ≤ 1048576) : Ans 73 s_laws_heldBoolS (upF boolOf n m, n, ()) ((n + m, ()), ()) := by
  refine Ans.of (fun k => laws_heldBoolS.F_eq (cl k) k (upF boolOf n m) n) ?_
  have hlen : (upF boolOf n m).length = m := upF_len _ _ _
  have key : ∀ (d k q j : Nat), m - j = d → d < q → j ≤ m → laws_heldBoolS.L0 (cl k) k (upF boolOf n m) q (n + (j : Int)) (j : Int) = some ((n + m, ()), ()) := by
    intro d
    induction d with
    | zero =>
      intro k q j hd hq hj
      obtain ⟨q, rfl⟩ : ∃ p, q = p + 1 := ⟨q - 1, by omega⟩
      have e : j = m := by omega
      simp only [laws_heldBoolS.L0, laws_heldBoolS.step0]
      rw [hlen, dnlt (show m ≤ j by omega), cond_false, e]
    | succ d ih =>
      intro k q j hd hq hj
      obtain ⟨q, rfl⟩ : ∃ p, q = p + 1 := ⟨q - 1, by omega⟩
      have hj' : j < (upF boolOf n m).length := by omega
      simp only [laws_heldBoolS.L0, laws_heldBoolS.step0, dlt hj', cond_true, dle0, lg hj', Option.bind_some, ws hj' (show (upF boolOf n m).length ≤ 9223372036854775807 by omega), upF_get, boolOf, beq_self_eq_true, Bool.not_true, cond_false]
      rw [wplus h0 h1 (show m ≤ 4611686018427387000 by omega) (by omega)]
      exact ih k q (j + 1) (by omega) (by omega) (by omega)
  refine (Ev.ge (m + 1)).mono fun k hk => ?_
  have := key m k k 0 rfl (by omega) (by omega)
  rw [show n + ((0 : Nat) : Int) = n by omega] at this
  exact this

theorem markCnf_ans (c : Cnf) (hs : Small c) : ∃ (r : Int) (c' : Cnf), Ans 40 s_laws_markCnf (c, 1, ()) ((r, ()), c', ()) ∧ (0 ≤ r ∧ r ≤ 1099511627777) := by
  have key : ∀ (d j : Nat) (n : Int) (acc : List (List Int)), acc.length - j = d → acc.length ≤ 1048576 → (∀ x ∈ acc, x.length ≤ 1048576) → 0 ≤ n → n ≤ 1 + j * 1048576 → j ≤ acc.length → ∃ (r : Int) (a' : List (List Int)), (Ev fun k => ∀ q, d < q → laws_markInt64SS.L0 (cl k) k q n (j : Int) acc = some ((r, ()), a', ())) ∧ (0 ≤ r ∧ r ≤ 1099511627777) := by
    intro d
    induction d with
    | zero =>
      intro j n acc hd hl hx h0 h1 hj
      refine ⟨n, acc, .all fun k q hq => ?_, h0, by omega⟩
      obtain ⟨q, rfl⟩ : ∃ m, q = m + 1 := ⟨q - 1, by omega⟩
      simp only [laws_markInt64SS.L0, laws_markInt64SS.step0, dnlt (show acc.length ≤ j by omega), cond_false]
    | succ d ih =>
      intro j n acc hd hl hx h0 h1 hj
      have hj : j < acc.length := by omega
      have hxj := hx acc[j] (List.getElem_mem hj)
      have hm := markInt64S_ans acc[j] (n := n) h0 (by omega) hxj
      obtain ⟨r, a', h2, h3⟩ := ih (j + 1) (n + acc[j].length) (acc.set j (upF id n acc[j].length)) (by simp; omega) (by simp; omega) (fun x hx' => by
        rcases List.mem_or_eq_of_mem_set hx' with h | h
        · exact hx x h
        · rw [h, upF_len]; exact hxj) (by omega) (by omega) (by simp; omega)
      refine ⟨r, a', ?_, h3⟩
      refine (hm.and h2).mono fun k ⟨hm, h2⟩ q hq => ?_
      obtain ⟨q, rfl⟩ : ∃ m, q = m + 1 := ⟨q - 1, by omega⟩
      simp only [laws_markInt64SS.L0, laws_markInt64SS.step0, dlt hj, cond_true, dle0, lgn hj, Option.bind_some, ws hj (show acc.length ≤ 9223372036854775807 by omega), Int.toNat_natCast, decide_eq_true hj, Bool.and_self, hm]
      exact h2 q (by omega)
  obtain ⟨r, a', h1, h2⟩ := key c.2.1.length 0 1 c.2.1 rfl hs.1 hs.2 (by omega) (by omega) (by omega)
  have h3 : Ans 101 s_laws_markInt64SS (c.2.1, 1, ()) ((r, ()), a', ()) := Ans.of (fun k => laws_markInt64SS.F_eq (cl k) k c.2.1 1) ((h1.and (Ev.ge (c.2.1.length + 1))).mono fun k ⟨h1, hk⟩ => h1 k hk)
  refine ⟨r, (c.1, a', c.2.2), Ans.of (fun k => laws_markCnf.F_eq (cl k) k c 1) (h3.mono fun k h3 => ?_), h2⟩
  simp only [laws_markCnf.F, laws_markCnf.Fm, h3, Option.bind_some]

/-! ### UsedIn -/
theorem CnfRight.range' {c : Cnf} (h : CnfRight c) : Range c.2.1 := CnfRight.range ⟨h.1, h.2.2.1⟩
noncomputable def usedIn (c : Cnf) : List Int := by
  classical exact if CnfRight c then usedL c.2.1 else []
theorem usedIn_len (c : Cnf) : (usedIn c).length ≤ 301 := by
  unfold usedIn
  split
  · exact usedL_len _
  · simp
theorem spec_UsedIn_ans (c : Cnf) (hs : Small c) : Ans 37 s_spec_UsedIn (c, ()) ((usedIn c, ()), ()) := by
  obtain ⟨b, hb, hb2⟩ := spec_CnfOk_ans c hs
  refine Ans.of (fun k => spec_UsedIn.F_eq (cl k) k c) ?_
  unfold usedIn
  by_cases h : CnfRight c
  · rw [hb2.2 h] at hb
    rw [if_pos h]
    refine (hb.and (l14Used_ans c.1 c.2.1 (by have := h.2.1; omega) h.range')).mono fun k ⟨h1, h2⟩ => ?_
    have h2 : cl k 96 s_spec_l14Used (c, ()) = some ((usedL c.2.1, ()), ()) := h2
    simp only [spec_UsedIn.F, spec_UsedIn.Fm, h1, Option.bind_some, h2, Bool.not_true, cond_false]
  · have : b = false := by cases b <;> first | rfl | exact absurd (hb2.1 rfl) h
    rw [this] at hb
    rw [if_neg h]
    refine hb.mono fun k h1 => ?_
    simp only [spec_UsedIn.F, spec_UsedIn.Fm, h1, Option.bind_some, Bool.not_false, cond_true]
theorem impl_UsedIn_ans (c : Cnf) (hs : Small c) : Ans 38 s_impl_UsedIn (c, ()) ((usedIn c, ()), ()) := by
  obtain ⟨b, hb, hb2⟩ := impl_CnfOk_ans c hs
  refine Ans.of (fun k => impl_UsedIn.F_eq (cl k) k c) ?_
  unfold usedIn
  by_cases h : CnfRight c
  · rw [hb2.2 h] at hb
    rw [if_pos h]
    refine (hb.and (usedBy_ans c.1 c.2.1 hs.1 h.range')).mono fun k ⟨h1, h2⟩ => ?_
    have h2 : cl k 99 s_impl_usedBy (c, ()) = some ((usedL c.2.1, ()), ()) := h2
    simp only [impl_UsedIn.F, impl_UsedIn.Fm, h1, Option.bind_some, h2, Bool.not_true, cond_false]
  · have : b = false := by cases b <;> first | rfl | exact absurd (hb2.1 rfl) h
    rw [this] at hb
    rw [if_neg h]
    refine hb.mono fun k h1 => ?_
    simp only [impl_UsedIn.F, impl_UsedIn.Fm, h1, Option.bind_some, Bool.not_false, cond_true]

end Go.Proofs.Ytcmgjdmhemfecaa.Pf
