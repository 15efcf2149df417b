/- The laws' marks: lists are written over, and hold what was written. No condition but the lists' lengths. -/
import Derived.Test.YtafgkoelefpacaaPfC
import Derived.Test.YtafgkoelefpacaaPfD
import Derived.Test.YtafgkoelefpacaaPfL
import Derived.Test.YtafgkoelefpacaaPfT9
set_option maxHeartbeats 2000000
set_option linter.all false
namespace Go.Proofs.Ytafgkoelefpacaa.Pf
open Go Go.Pv
abbrev ET' := List Int × (List (List Int) × Unit)
theorem eqInt64SS_loop (a : List (List Int)) (ha : a.length ≤ 1048576) (he : ∀ x ∈ a, x.length ≤ 1048576) : ∀ (d j : Nat), a.length - j = d →
    Tq (d + 1) (fun k q => laws_eqInt64SS.L0 (cl k) k a a q (j : Int)) (· = ((true, ()), ())) := by
  intro d
  induction d with
  | zero =>
    intro j hd
    refine Tq.succ ?_
    show Tq _ (fun k q => laws_eqInt64SS.step0 (cl k) k ..) _
    unfold laws_eqInt64SS.step0
    exact Tq.bf (dnlt (by omega)) (Tq.ret rfl)
  | succ d ih =>
    intro j hd
    have hj : j < a.length := by omega
    refine Tq.succ ?_
    show Tq _ (fun k q => laws_eqInt64SS.step0 (cl k) k ..) _
    unfold laws_eqInt64SS.step0
    refine Tq.bt (dlt hj) (Tq.bt (dle0 j) (Tq.some (lg hj) (Tq.bt (dle0 j) (Tq.some (lg hj) (Tq.ba (eqInt64S_ans a[j] (he _ (List.getElem_mem hj))) (Tq.bf rfl ?_))))))
    rw [ws hj (by omega)]
    exact ih (j + 1) (by omega)
theorem eqEnv_ans (v : ET') (h1 : v.1.length ≤ 1048576) (h2 : v.2.1.length ≤ 1048576) (h3 : ∀ x ∈ v.2.1, x.length ≤ 1048576) : Ans n_laws_eqEnv s_laws_eqEnv (v, v, ()) ((true, ()), ()) := by
  have hS : Ans n_laws_eqInt64SS s_laws_eqInt64SS (v.2.1, v.2.1, ()) ((true, ()), ()) := by
    refine Gv.ans (Gv.of (fun k => laws_eqInt64SS.F_eq (cl k) k v.2.1 v.2.1) ?_)
    unfold laws_eqInt64SS.F laws_eqInt64SS.Fm
    exact Tq.bf (bne_self_eq_false _) (Tq.diag (eqInt64SS_loop _ h2 h3 _ 0 rfl))
  refine Gv.ans (Gv.of (fun k => laws_eqEnv.F_eq (cl k) k v v) ?_)
  unfold laws_eqEnv.F laws_eqEnv.Fm
  exact Tq.ba (eqInt64S_ans v.1 h1) (Tq.bf rfl (Tq.ba hS (Tq.bf rfl (Tq.ret rfl))))
/-! ### Marks -/
def Mk (l : List Int) (k : Int) : Prop := ∀ (i : Nat) (h : i < l.length), l[i] = k + i
abbrev R1 := (Int × Unit) × (List Int × Unit)
theorem mark_loop (m : Int) (hm : 0 ≤ m) (hm2 : m ≤ 1125899906842624) : ∀ (d j : Nat) (l : List Int), l.length - j = d → j ≤ l.length → l.length ≤ 1048576 → (∀ (i : Nat) (h : i < l.length), i < j → l[i] = m + i) →
    Tq (d + 1) (fun k q => laws_markInt64S.L0 (cl k) k q (m + j) (j : Int) l) (fun (r : R1) => ∃ l', r = ((m + l.length, ()), l', ()) ∧ l'.length = l.length ∧ Mk l' m) := by
  intro d
  induction d with
  | zero =>
    intro j l hd hj hl H
    obtain rfl : j = l.length := by omega
    refine Tq.succ ?_
    show Tq _ (fun k q => laws_markInt64S.step0 (cl k) k ..) _
    unfold laws_markInt64S.step0
    exact Tq.bf (dnlt (Nat.le_refl _)) (Tq.ret ⟨l, rfl, rfl, fun i h => H i h h⟩)
  | succ d ih =>
    intro j l hd hj hl H
    have hj : j < l.length := by omega
    refine Tq.succ ?_
    show Tq _ (fun k q => laws_markInt64S.step0 (cl k) k ..) _
    unfold laws_markInt64S.step0
    refine Tq.bt (dlt hj) (Tq.bt (idx_ok hj) (Tq.some (lg hj) ?_))
    rw [ws hj (by omega), w64 (by omega) (by omega), Int.toNat_natCast, show m + (j : Int) + 1 = m + ((j + 1 : Nat) : Int) by omega]
    have := ih (j + 1) (l.set j (m + j)) (by rw [List.length_set]; omega) (by rw [List.length_set]; omega) (by rw [List.length_set]; exact hl) (fun i h hi => by
      rcases Nat.lt_or_ge i j with h1 | h1
      · rw [List.getElem_set_ne (by omega)]
        exact H i (by rw [List.length_set] at h; exact h) h1
      · obtain rfl : i = j := by omega
        rw [List.getElem_set_self])
    rw [List.length_set] at this
    exact this
theorem mark_gv (l : List Int) (m : Int) (hm : 0 ≤ m) (hm2 : m ≤ 1125899906842624) (hl : l.length ≤ 1048576) : Gv n_laws_markInt64S s_laws_markInt64S (l, m, ()) (fun (r : R1) => ∃ l', r = ((m + l.length, ()), l', ()) ∧ l'.length = l.length ∧ Mk l' m) := by
  refine Gv.of (fun k => laws_markInt64S.F_eq (cl k) k l m) ?_
  unfold laws_markInt64S.F laws_markInt64S.Fm
  have := mark_loop m hm hm2 l.length 0 l rfl (Nat.zero_le _) hl (fun i h hi => by omega)
  rw [show m + ((0 : Nat) : Int) = m by omega] at this
  exact Tq.diag this
theorem held_loop (l : List Int) (m : Int) (hm : 0 ≤ m) (hm2 : m ≤ 1125899906842624) (hl : l.length ≤ 1048576) (h : Mk l m) : ∀ (d j : Nat), l.length - j = d → j ≤ l.length →
    Tq (d + 1) (fun k q => laws_heldInt64S.L0 (cl k) k l q (m + j) (j : Int)) (· = ((m + l.length, ()), ())) := by
  intro d
  induction d with
  | zero =>
    intro j hd hj
    obtain rfl : j = l.length := by omega
    refine Tq.succ ?_
    show Tq _ (fun k q => laws_heldInt64S.step0 (cl k) k ..) _
    unfold laws_heldInt64S.step0
    exact Tq.bf (dnlt (Nat.le_refl _)) (Tq.ret rfl)
  | succ d ih =>
    intro j hd hj
    have hj : j < l.length := by omega
    refine Tq.succ ?_
    show Tq _ (fun k q => laws_heldInt64S.step0 (cl k) k ..) _
    unfold laws_heldInt64S.step0
    refine Tq.bt (dlt hj) (Tq.bt (dle0 j) (Tq.some (lg hj) (Tq.bf (bne_eq_false_iff_eq.2 (h j hj)) ?_)))
    rw [ws hj (by omega), w64 (by omega) (by omega), show m + (j : Int) + 1 = m + ((j + 1 : Nat) : Int) by omega]
    exact ih (j + 1) (by omega) (by omega)
theorem held_ans (l : List Int) (m : Int) (hm : 0 ≤ m) (hm2 : m ≤ 1125899906842624) (hl : l.length ≤ 1048576) (h : Mk l m) : Ans n_laws_heldInt64S s_laws_heldInt64S (l, m, ()) ((m + l.length, ()), ()) := by
  refine Gv.ans (Gv.of (fun k => laws_heldInt64S.F_eq (cl k) k l m) ?_)
  unfold laws_heldInt64S.F laws_heldInt64S.Fm
  have := held_loop l m hm hm2 hl h l.length 0 rfl (Nat.zero_le _)
  rw [show m + ((0 : Nat) : Int) = m by omega] at this
  exact Tq.diag this
/-! #### lists of lists: few and short -/
def MkS : List (List Int) → Int → Int → Prop
  | [], k, z => k = z
  | a :: l, k, z => Mk a k ∧ a.length ≤ 6 ∧ MkS l (k + a.length) z
theorem MkS.app : ∀ {l : List (List Int)} {k z : Int} {a : List Int}, MkS l k z → Mk a z → a.length ≤ 6 → MkS (l ++ [a]) k (z + a.length)
  | [], k, z, a, h, ha, hl => by
    have h : k = z := h
    subst h
    exact ⟨ha, hl, rfl⟩
  | b :: l, k, z, a, h, ha, hl => ⟨h.1, h.2.1, MkS.app h.2.2 ha hl⟩
abbrev R2 := (Int × Unit) × (List (List Int) × Unit)
theorem markSS_loop (m : Int) (hm : 0 ≤ m) (hm2 : m ≤ 1000) : ∀ (d j : Nat) (done rest : List (List Int)) (z : Int), rest.length = d → done.length = j → j + d ≤ 2 → (∀ x ∈ rest, x.length ≤ 6) → MkS done m z → m ≤ z → z ≤ m + 6 * j →
    Tq (d + 1) (fun k q => laws_markInt64SS.L0 (cl k) k q z (j : Int) (done ++ rest)) (fun (r : R2) => ∃ l' z', r = ((z', ()), l', ()) ∧ l'.length ≤ 2 ∧ MkS l' m z' ∧ m ≤ z' ∧ z' ≤ m + 12) := by
  intro d
  induction d with
  | zero =>
    intro j done rest z hr hj hd hx hM hz hz2
    obtain rfl := List.length_eq_zero_iff.1 hr
    rw [List.append_nil]
    refine Tq.succ ?_
    show Tq _ (fun k q => laws_markInt64SS.step0 (cl k) k ..) _
    unfold laws_markInt64SS.step0
    exact Tq.bf (dnlt (by omega)) (Tq.ret ⟨done, z, rfl, by omega, hM, hz, by omega⟩)
  | succ d ih =>
    intro j done rest z hr hj hd hx hM hz hz2
    rcases rest with _ | ⟨a, rest⟩
    · rw [List.length_nil] at hr; omega
    rw [List.length_cons] at hr
    have h6 := hx a List.mem_cons_self
    have hlen : (done ++ a :: rest).length = j + (d + 1) := by rw [List.length_append, List.length_cons]; omega
    have hget : lget (done ++ a :: rest) j = some a := by
      unfold lget; rw [List.getElem?_append_right (by omega), show j - done.length = 0 by omega]; rfl
    refine Tq.succ ?_
    show Tq _ (fun k q => laws_markInt64SS.step0 (cl k) k ..) _
    unfold laws_markInt64SS.step0
    rw [Int.toNat_natCast]
    refine Tq.bt (dlt (by omega)) (Tq.bt (by simp only [zs]; omega) (Tq.some hget (Tq.bind (mark_gv a z (by omega) (by omega) (by omega)).tq ?_)))
    rintro y ⟨l', rfl, h1, h2⟩
    refine Tq.some hget ?_
    dsimp only
    rw [ws (n := 2) (by omega) (by omega)]
    have e : (done ++ a :: rest).set j l' = (done ++ [l']) ++ rest := by
      rw [List.set_append_right _ _ (by omega), show j - done.length = 0 by omega, List.set_cons_zero, List.append_assoc]; rfl
    rw [e]
    have hM2 := hM.app h2 (by omega)
    rw [h1] at hM2
    exact ih (j + 1) (done ++ [l']) rest (z + a.length) (by omega) (by simp; omega) (by omega) (fun x hx2 => hx x (List.mem_cons_of_mem _ hx2)) hM2 (by omega) (by omega)
theorem heldSS_loop (l : List (List Int)) (hl : l.length ≤ 2) (z : Int) : ∀ (d j : Nat) (k0 : Int), l.length - j = d → 0 ≤ k0 → k0 ≤ 10000 + 6 * j → MkS (l.drop j) k0 z →
    Tq (d + 1) (fun k q => laws_heldInt64SS.L0 (cl k) k l q k0 (j : Int)) (· = ((z, ()), ())) := by
  intro d
  induction d with
  | zero =>
    intro j k0 hd h0 h2 hM
    rw [List.drop_of_length_le (by omega)] at hM
    have hM : k0 = z := hM
    subst hM
    refine Tq.succ ?_
    show Tq _ (fun k q => laws_heldInt64SS.step0 (cl k) k ..) _
    unfold laws_heldInt64SS.step0
    exact Tq.bf (dnlt (by omega)) (Tq.ret rfl)
  | succ d ih =>
    intro j k0 hd h0 h2 hM
    have hj : j < l.length := by omega
    rw [List.drop_eq_getElem_cons hj] at hM
    obtain ⟨m1, m2, m3⟩ := hM
    refine Tq.succ ?_
    show Tq _ (fun k q => laws_heldInt64SS.step0 (cl k) k ..) _
    unfold laws_heldInt64SS.step0
    refine Tq.bt (dlt hj) (Tq.bt (dle0 j) (Tq.some (lg hj) (Tq.ba (held_ans l[j] k0 h0 (by omega) (by omega) m1) (Tq.bf (decide_eq_false (by dsimp only; omega)) ?_))))
    rw [ws hj (by omega)]
    exact ih (j + 1) (k0 + l[j].length) (by omega) (by omega) (by omega) m3
/-- An environment that is marked holds its marks. -/
theorem markEnv_gv (v : ET') (h1 : v.1.length ≤ 12) (h2 : v.2.1.length ≤ 2) (h3 : ∀ x ∈ v.2.1, x.length ≤ 6) : Gv n_laws_markEnv s_laws_markEnv (v, 1, ()) (fun (r : (Int × Unit) × (ET' × Unit)) => ∃ z v', r = ((z, ()), v', ()) ∧ 0 ≤ z ∧ Ans n_laws_heldEnv s_laws_heldEnv (v', 1, ()) ((z, ()), ())) := by
  refine Gv.of (fun k => laws_markEnv.F_eq (cl k) k v 1) ?_
  unfold laws_markEnv.F laws_markEnv.Fm
  refine Tq.bind (mark_gv v.1 1 (by omega) (by omega) (by omega)).tq ?_
  rintro y ⟨l', rfl, a1, a2⟩
  have hS : Gv n_laws_markInt64SS s_laws_markInt64SS (v.2.1, 1 + (v.1.length : Int), ()) (fun (r : R2) => ∃ l' z', r = ((z', ()), l', ()) ∧ l'.length ≤ 2 ∧ MkS l' (1 + (v.1.length : Int)) z' ∧ (1 + (v.1.length : Int)) ≤ z' ∧ z' ≤ (1 + (v.1.length : Int)) + 12) := by
    refine Gv.of (fun k => laws_markInt64SS.F_eq (cl k) k v.2.1 _) ?_
    unfold laws_markInt64SS.F laws_markInt64SS.Fm
    exact Tq.diag (markSS_loop (1 + (v.1.length : Int)) (by omega) (by omega) v.2.1.length 0 [] v.2.1 _ rfl rfl (by omega) h3 rfl (Int.le_refl _) (by omega))
  refine Tq.bind hS.tq ?_
  rintro y ⟨l2, z, rfl, b1, b2, b3, b4⟩
  refine Tq.ret ⟨z, (l', l2, ()), rfl, by omega, ?_⟩
  have hH : Ans n_laws_heldInt64SS s_laws_heldInt64SS (l2, 1 + (v.1.length : Int), ()) ((z, ()), ()) := by
    refine Gv.ans (Gv.of (fun k => laws_heldInt64SS.F_eq (cl k) k l2 _) ?_)
    unfold laws_heldInt64SS.F laws_heldInt64SS.Fm
    exact Tq.diag (heldSS_loop l2 b1 z _ 0 _ rfl (by omega) (by omega) b2)
  have hh := held_ans l' 1 (by omega) (by omega) (by omega) a2
  rw [a1] at hh
  refine Gv.ans (Gv.of (fun k => laws_heldEnv.F_eq (cl k) k (l', l2, ()) 1) ?_)
  unfold laws_heldEnv.F laws_heldEnv.Fm
  exact Tq.ba hh (Tq.bf (decide_eq_false (by dsimp only; omega)) (Tq.ba hH (Tq.bf (decide_eq_false (by dsimp only; omega)) (Tq.ret rfl))))
/-! #### programs: no mark falls below 0 -/
abbrev R3 := (Int × Unit) × (List Tm × Unit)
theorem lset {α : Type} {l : List α} {j : Nat} {a : α} (hj : j < l.length) : lget (l.set j a) j = some a := by
  unfold lget; exact List.getElem?_set_self hj
theorem idx2 {j n : Nat} (h : j < n) : (decide ((0 : Int) ≤ (j : Int)) && decide (j < n)) = true := by
  rw [dle0, decide_eq_true h]; rfl
theorem markI_loop : ∀ (d j : Nat) (l : List Ip) (z : Int), l.length - j = d → l.length ≤ 1048576 → 0 ≤ z → z + 2 * d ≤ 1125899906842624 →
    Tq (d + 1) (fun k q => laws_markInputS.L0 (cl k) k q z (j : Int) l) (fun (r : R3) => ∃ l', r = ((z + 2 * d, ()), l', ()) ∧ l'.length = l.length) := by
  intro d
  induction d with
  | zero =>
    intro j l z hd hl h0 hz
    refine Tq.succ ?_
    show Tq _ (fun k q => laws_markInputS.step0 (cl k) k ..) _
    unfold laws_markInputS.step0
    exact Tq.bf (dnlt (by omega)) (Tq.ret ⟨l, by rw [show z + 2 * ((0 : Nat) : Int) = z by omega], rfl⟩)
  | succ d ih =>
    intro j l z hd hl h0 hz
    have hj : j < l.length := by omega
    refine Tq.succ ?_
    show Tq _ (fun k q => laws_markInputS.step0 (cl k) k ..) _
    unfold laws_markInputS.step0
    rw [Int.toNat_natCast]
    refine Tq.bt (dlt hj) (Tq.bt (idx2 hj) (Tq.some (lgn hj) (Tq.bt (idx2 (by rw [List.length_set]; exact hj)) (Tq.some (lset hj) ?_))))
    rw [ws hj (by omega), w64 (x := z + 1) (by omega) (by omega), w64 (by omega) (by omega)]
    refine (ih (j + 1) _ (z + 1 + 1) (by rw [List.length_set, List.length_set]; omega) (by rw [List.length_set, List.length_set]; exact hl) (by omega) (by omega)).mono ?_
    rintro r ⟨l', rfl, h⟩
    rw [List.length_set, List.length_set] at h
    exact ⟨l', by rw [show z + 1 + 1 + 2 * (d : Int) = z + 2 * ((d + 1 : Nat) : Int) by omega], h⟩
theorem markI_gv (l : List Ip) (z : Int) (hl : l.length ≤ 1048576) (h0 : 0 ≤ z) (hz : z ≤ 562949953421312) : Gv n_laws_markInputS s_laws_markInputS (l, z, ()) (fun (r : R3) => ∃ l', r = ((z + 2 * (l.length : Int), ()), l', ()) ∧ l'.length = l.length) := by
  refine Gv.of (fun k => laws_markInputS.F_eq (cl k) k l z) ?_
  unfold laws_markInputS.F laws_markInputS.Fm
  exact Tq.diag (markI_loop l.length 0 l z rfl hl h0 (by omega))
theorem markT_loop : ∀ (d j : Nat) (l : List Tm) (z : Int), l.length - j = d → l.length ≤ 1048576 → 0 ≤ z → z + 2 * d ≤ 1125899906842624 →
    Tq (d + 1) (fun k q => laws_markTermS.L0 (cl k) k q z (j : Int) l) (fun (r : R3) => ∃ l', r = ((z + 2 * d, ()), l', ()) ∧ l'.length = l.length) := by
  intro d
  induction d with
  | zero =>
    intro j l z hd hl h0 hz
    refine Tq.succ ?_
    show Tq _ (fun k q => laws_markTermS.step0 (cl k) k ..) _
    unfold laws_markTermS.step0
    exact Tq.bf (dnlt (by omega)) (Tq.ret ⟨l, by rw [show z + 2 * ((0 : Nat) : Int) = z by omega], rfl⟩)
  | succ d ih =>
    intro j l z hd hl h0 hz
    have hj : j < l.length := by omega
    refine Tq.succ ?_
    show Tq _ (fun k q => laws_markTermS.step0 (cl k) k ..) _
    unfold laws_markTermS.step0
    rw [Int.toNat_natCast]
    refine Tq.bt (dlt hj) (Tq.bt (idx2 hj) (Tq.some (lgn hj) (Tq.bt (idx2 (by rw [List.length_set]; exact hj)) (Tq.some (lset hj) ?_))))
    rw [ws hj (by omega), w64 (x := z + 1) (by omega) (by omega), w64 (by omega) (by omega)]
    refine (ih (j + 1) _ (z + 1 + 1) (by rw [List.length_set, List.length_set]; omega) (by rw [List.length_set, List.length_set]; exact hl) (by omega) (by omega)).mono ?_
    rintro r ⟨l', rfl, h⟩
    rw [List.length_set, List.length_set] at h
    exact ⟨l', by rw [show z + 1 + 1 + 2 * (d : Int) = z + 2 * ((d + 1 : Nat) : Int) by omega], h⟩
theorem markT_gv (l : List Tm) (z : Int) (hl : l.length ≤ 1048576) (h0 : 0 ≤ z) (hz : z ≤ 562949953421312) : Gv n_laws_markTermS s_laws_markTermS (l, z, ()) (fun (r : R3) => ∃ l', r = ((z + 2 * (l.length : Int), ()), l', ()) ∧ l'.length = l.length) := by
  refine Gv.of (fun k => laws_markTermS.F_eq (cl k) k l z) ?_
  unfold laws_markTermS.F laws_markTermS.Fm
  exact Tq.diag (markT_loop l.length 0 l z rfl hl h0 (by omega))
abbrev R4 := (Int × Unit) × (List Sm × Unit)
theorem markS_loop : ∀ (d j : Nat) (l : List Sm) (z : Int), l.length - j = d → l.length ≤ 1048576 → (∀ x ∈ l, x.2.2.1.length ≤ 1048576 ∧ x.2.2.2.1.length ≤ 1048576) → 0 ≤ z → z + 4194308 * d ≤ 562949953421312 →
    Tq (d + 1) (fun k q => laws_markStmtS.L0 (cl k) k q z (j : Int) l) (fun (r : R4) => ∃ z' l', r = ((z', ()), l', ()) ∧ 0 ≤ z' ∧ z' ≤ z + 4194308 * d) := by
  intro d
  induction d with
  | zero =>
    intro j l z hd hl hx h0 hz
    refine Tq.succ ?_
    show Tq _ (fun k q => laws_markStmtS.step0 (cl k) k ..) _
    unfold laws_markStmtS.step0
    exact Tq.bf (dnlt (by omega)) (Tq.ret ⟨z, l, rfl, h0, by omega⟩)
  | succ d ih =>
    intro j l z hd hl hx h0 hz
    have hj : j < l.length := by omega
    have hq := hx _ (List.getElem_mem hj)
    refine Tq.succ ?_
    show Tq _ (fun k q => laws_markStmtS.step0 (cl k) k ..) _
    unfold laws_markStmtS.step0
    rw [Int.toNat_natCast]
    have hj1 : ∀ a : Sm, j < (l.set j a).length := fun a => by rw [List.length_set]; exact hj
    have hj2 : ∀ a b : Sm, j < ((l.set j a).set j b).length := fun a b => by rw [List.length_set, List.length_set]; exact hj
    have hj3 : ∀ a b c : Sm, j < (((l.set j a).set j b).set j c).length := fun a b c => by rw [List.length_set, List.length_set, List.length_set]; exact hj
    refine Tq.bt (dlt hj) (Tq.bt (idx2 hj) (Tq.some (lgn hj) (Tq.bt (idx2 (hj1 _)) (Tq.some (lset hj) (Tq.bt (idx2 (hj2 _ _)) (Tq.some (lset (hj1 _)) ?_))))))
    dsimp only
    rw [w64 (x := z + 1) (by omega) (by omega), w64 (x := z + 1 + 1) (by omega) (by omega)]
    refine Tq.bind (markT_gv l[j].2.2.1 (z + 1 + 1) hq.1 (by omega) (by omega)).tq ?_
    rintro y ⟨l1, rfl, e1⟩
    refine Tq.some (lset (hj1 _)) (Tq.bt (idx2 (hj3 _ _ _)) (Tq.some (lset (hj2 _ _)) ?_))
    dsimp only
    refine Tq.bind (markT_gv l[j].2.2.2.1 (z + 1 + 1 + 2 * (l[j].2.2.1.length : Int)) hq.2 (by omega) (by omega)).tq ?_
    rintro y ⟨l2, rfl, e2⟩
    refine Tq.some (lset (hj2 _ _)) ?_
    dsimp only
    rw [ws hj (by omega)]
    refine (ih (j + 1) _ _ (by simp only [List.length_set]; omega) (by simp only [List.length_set]; exact hl) (fun x hx2 => ?_) (by omega) (by omega)).mono ?_
    · rcases List.mem_or_eq_of_mem_set hx2 with h | rfl
      · rcases List.mem_or_eq_of_mem_set h with h | rfl
        · rcases List.mem_or_eq_of_mem_set h with h | rfl
          · rcases List.mem_or_eq_of_mem_set h with h | rfl
            · exact hx x h
            · exact hq
          · exact hq
        · exact ⟨by show l1.length ≤ _; omega, hq.2⟩
      · exact ⟨by show l1.length ≤ _; omega, by show l2.length ≤ _; omega⟩
    · rintro r ⟨z', l', rfl, a1, a2⟩
      exact ⟨z', l', rfl, a1, by omega⟩
theorem markP_gv (p : Pg) (h : Small p) : Gv n_laws_markProg s_laws_markProg (p, 1, ()) (fun (r : (Int × Unit) × (Pg × Unit)) => ∃ z p', r = ((z, ()), p', ()) ∧ 0 ≤ z ∧ z ≤ 562949953421312) := by
  obtain ⟨h1, h2, h3, h4, h5⟩ := h
  refine Gv.of (fun k => laws_markProg.F_eq (cl k) k p 1) ?_
  unfold laws_markProg.F laws_markProg.Fm
  refine Tq.bind (markI_gv p.2.1 1 h1 (by omega) (by omega)).tq ?_
  rintro y ⟨l1, rfl, _⟩
  refine Tq.bind (markI_gv p.2.2.1 _ h2 (by dsimp only; omega) (by dsimp only; omega)).tq ?_
  rintro y ⟨l2, rfl, _⟩
  refine Tq.bind (mark_gv p.2.2.2.2.1 _ (by dsimp only; omega) (by dsimp only; omega) h3).tq ?_
  rintro y ⟨l3, rfl, _, _⟩
  have hS : ∀ z : Int, 0 ≤ z → z ≤ 100000000 → Gv n_laws_markStmtS s_laws_markStmtS (p.2.2.2.2.2.1, z, ()) (fun (r : R4) => ∃ z' l', r = ((z', ()), l', ()) ∧ 0 ≤ z' ∧ z' ≤ z + 4194308 * p.2.2.2.2.2.1.length) := by
    intro z hz hz2
    refine Gv.of (fun k => laws_markStmtS.F_eq (cl k) k p.2.2.2.2.2.1 z) ?_
    unfold laws_markStmtS.F laws_markStmtS.Fm
    exact Tq.diag (markS_loop _ 0 p.2.2.2.2.2.1 z rfl h4 h5 hz (by omega))
  refine Tq.bind (hS _ (by dsimp only; omega) (by dsimp only; omega)).tq ?_
  rintro y ⟨z, l4, rfl, a1, a2⟩
  exact Tq.ret ⟨z, _, rfl, a1, by dsimp only at a2; omega⟩
end Go.Proofs.Ytafgkoelefpacaa.Pf
