/- Dias: what is made of a table is right, and its table is that table. No condition. -/
import Derived.Test.YtcmgjdmhemfecaaPfK
namespace Go.Proofs.Ytcmgjdmhemfecaa.Pf
open Go Go.Pv

def AllB (m : Int) (ks : List Kn) : Prop := ∀ (i : Nat) (h : i < ks.length), knB m ks i ks[i] = true
theorem knB_iff {m : Int} {ks : List Kn} {i : Nat} {k : Kn} : knB m ks i k = true ↔ (0 ≤ k.1 ∧ k.1 < m) ∧ ((0 ≤ k.2.1 ∧ k.2.1 ≤ (i : Int) + 1) ∧ deepB ks k.1 k.2.1 = true) ∧ ((0 ≤ k.2.2.1 ∧ k.2.2.1 ≤ (i : Int) + 1) ∧ deepB ks k.1 k.2.2.1 = true) := by
  unfold knB refB
  simp only [Bool.and_eq_true, decide_eq_true_eq]
theorem deepB_app {ks l : List Kn} {v r : Int} (h0 : r ≤ (ks.length : Int) + 1) (h : deepB ks v r = true) : deepB (ks ++ l) v r = true := by
  unfold deepB at *
  by_cases hr : r ≤ 1
  · rw [decide_eq_true hr, Bool.true_or]
  · rw [decide_eq_false hr, Bool.false_or] at *
    rw [List.getElem?_append_left (by omega)]
    exact h
theorem deepB_of {ks : List Kn} {v r : Int} (h : r ≤ 1 ∨ ∃ k, ks[(r - 2).toNat]? = some k ∧ v + 1 ≤ k.1) : deepB ks v r = true := by
  unfold deepB
  rcases h with h | ⟨k, h1, h2⟩
  · rw [decide_eq_true h, Bool.true_or]
  · rw [h1]
    have : decide (k.1 ≤ v) = false := decide_eq_false (by omega)
    simp [this]
theorem knB_app {m : Int} {ks l : List Kn} {i : Nat} {k : Kn} (hi : i ≤ ks.length) (h : knB m ks i k = true) : knB m (ks ++ l) i k = true := by
  rw [knB_iff] at *
  exact ⟨h.1, ⟨h.2.1.1, deepB_app (by have := h.2.1.1; omega) h.2.1.2⟩, ⟨h.2.2.1, deepB_app (by have := h.2.2.1; omega) h.2.2.2⟩⟩
theorem AllB.put {m : Int} {ks : List Kn} (h : AllB m ks) {k : Kn} (hk : knB m ks ks.length k = true) : AllB m (ks ++ [k]) := fun i hi => by
  by_cases e : i < ks.length
  · rw [List.getElem_append_left e]
    exact knB_app (by omega) (h i e)
  · have e : i = ks.length := by simp at hi; omega
    subst e
    rw [List.getElem_append_right (Nat.le_refl _)]
    simp only [Nat.sub_self, List.getElem_cons_zero]
    exact knB_app (Nat.le_refl _) hk
theorem AllB.falls {m : Nat} {ks : List Kn} (h : AllB m ks) : Falls m ks := fun i hi => by
  have := knB_iff.1 (h i hi)
  exact ⟨this.1, this.2.1.1, this.2.2.1⟩

theorem walk_low (ks : List Kn) (f : Nat → Bool) (n : Nat) {r : Int} (h : r ≤ 1) : walk ks f n r = (r == 1) := by
  cases n with
  | zero => rfl
  | succ n => unfold walk; rw [if_pos h]
theorem walk_step (ks : List Kn) (f : Nat → Bool) (n i : Nat) {k : Kn} (h : ks[i]? = some k) : walk ks f (n + 1) ((i : Int) + 2) = walk ks f n (if f k.1.toNat then k.2.2.1 else k.2.1) := by
  have e : ((i : Int) + 2 - 2).toNat = i := by omega
  conv => lhs; unfold walk
  rw [if_neg (by omega), e, h]
theorem walk_ext {m : Nat} {ks : List Kn} (hf : Falls m ks) (l : List Kn) (f : Nat → Bool) : ∀ (n n' : Nat) (r : Int), 0 ≤ r → r ≤ (n : Int) + 1 → r ≤ (n' : Int) + 1 → r ≤ (ks.length : Int) + 1 → walk (ks ++ l) f n r = walk ks f n' r
  | 0, n', r, h0, h1, h2, h3 => by rw [walk_low _ _ _ (by omega), walk_low _ _ _ (by omega)]
  | n + 1, n', r, h0, h1, h2, h3 => by
    by_cases hr : r ≤ 1
    · rw [walk_low _ _ _ hr, walk_low _ _ _ hr]
    · obtain ⟨i, rfl⟩ : ∃ i : Nat, r = (i : Int) + 2 := ⟨(r - 2).toNat, by omega⟩
      obtain ⟨n', rfl⟩ : ∃ p, n' = p + 1 := ⟨n' - 1, by omega⟩
      have hi : i < ks.length := by omega
      have hk := hf i hi
      have e1 : ks[i]? = some ks[i] := List.getElem?_eq_getElem hi
      have e2 : (ks ++ l)[i]? = some ks[i] := by rw [List.getElem?_append_left hi, e1]
      rw [walk_step _ _ _ _ e1, walk_step _ _ _ _ e2]
      cases f ks[i].1.toNat with
      | true => rw [if_pos rfl]; exact walk_ext hf l f n n' _ (by omega) (by omega) (by omega) (by omega)
      | false => rw [if_neg (by simp)]; exact walk_ext hf l f n n' _ (by omega) (by omega) (by omega) (by omega)

theorem seek_get {k : Kn} : ∀ {l : List Kn} {i j : Nat}, seek k l i = some j → l[j - i]? = some k
  | [], _, _, h => by cases h
  | a :: r, i, j, h => by
    unfold seek at h
    by_cases e : a = k
    · rw [if_pos e] at h
      cases h
      rw [Nat.sub_self, e]; rfl
    · rw [if_neg e] at h
      have h1 := seek_lt h
      have h2 := seek_get h
      rw [show j - i = (j - (i + 1)) + 1 by omega, List.getElem?_cons_succ]
      exact h2

def idx : Nat → Nat → (Nat → Bool) → Nat
  | 0, _, _ => 0
  | m + 1, v, f => (if f v then 2 ^ m else 0) + idx m (v + 1) f
theorem idx_lt : ∀ (m v : Nat) (f : Nat → Bool), idx m v f < 2 ^ m
  | 0, _, _ => Nat.one_pos
  | m + 1, v, f => by
    have h := idx_lt m (v + 1) f
    have e : 2 ^ (m + 1) = 2 ^ m + 2 ^ m := by rw [Nat.pow_succ]; omega
    unfold idx
    split <;> omega
theorem idx_bits (m n : Nat) : ∀ (j v : Nat), v + j = m → idx j v (bitN m n) = n % 2 ^ j
  | 0, v, h => by rw [Nat.pow_zero, Nat.mod_one]; rfl
  | j + 1, v, h => by
    unfold idx
    rw [idx_bits m n j (v + 1) (by omega), Nat.mod_pow_succ]
    unfold bitN
    rw [Nat.testBit_eq_decide_div_mod_eq, show m - 1 - v = j by omega]
    rcases Nat.mod_two_eq_zero_or_one (n / 2 ^ j) with h | h
    · rw [h]; simp
    · rw [h]; simp [Nat.add_comm]

structure PutOk (m : Nat) (v : Nat) (M : Nat) (ks : List Kn) (t : List Bool) (p : List Kn × Int) : Prop where
  ext : ∃ l, p.1 = ks ++ l
  all : AllB M p.1
  lo : 0 ≤ p.2
  hi : p.2 ≤ (p.1.length : Int) + 1
  deep : p.2 ≤ 1 ∨ ∃ k, p.1[(p.2 - 2).toNat]? = some k ∧ (v : Int) ≤ k.1
  yes : ∀ (f : Nat → Bool) (n : Nat), p.2 ≤ (n : Int) + 1 → walk p.1 f n p.2 = t.getD (idx m v f) false

theorem putP_ok (M : Nat) : ∀ (m v : Nat) (ks : List Kn) (t : List Bool), v + m = M → t.length = 2 ^ m → AllB M ks → PutOk m v M ks t (putP m ks (v : Int) t)
  | 0, v, ks, t, hv, ht, hk => by
    obtain ⟨b, rfl⟩ : ∃ b, t = [b] := by
      match t, ht with
      | [b], _ => exact ⟨b, rfl⟩
    have hb := bit_le b
    refine ⟨⟨[], (List.append_nil _).symm⟩, hk, hb.1, ?_, .inl hb.2, fun f n hn => ?_⟩
    · show bit b ≤ _; omega
    · show walk ks f n (bit b) = b
      rw [walk_low _ _ _ hb.2]
      cases b <;> rfl
  | m + 1, v, ks, t, hv, ht, hk => by
    have e5 : 2 ^ (m + 1) = 2 ^ m + 2 ^ m := by rw [Nat.pow_succ]; omega
    have h0 : 0 < 2 ^ m := Nat.pow_pos (by omega)
    have ha := putP_ok M m (v + 1) ks (t.take (2 ^ m)) (by omega) (by rw [List.length_take]; omega) hk
    have hb := putP_ok M m (v + 1) (putP m ks ((v + 1 : Nat) : Int) (t.take (2 ^ m))).1 (t.drop (2 ^ m)) (by omega) (by rw [List.length_drop]; omega) ha.all
    unfold putP
    rw [show (v : Int) + 1 = ((v + 1 : Nat) : Int) by omega]
    generalize putP m ks ((v + 1 : Nat) : Int) (t.take (2 ^ m)) = a at *
    generalize putP m a.1 ((v + 1 : Nat) : Int) (t.drop (2 ^ m)) = b at *
    obtain ⟨l1, e1⟩ := ha.ext
    obtain ⟨l2, e2⟩ := hb.ext
    have hfa := ha.all.falls
    have hfb := hb.all.falls
    have hal := ha.hi
    have hbl := hb.hi
    have hal0 := ha.lo
    have hbl0 := hb.lo
    have hlen : b.1.length = a.1.length + l2.length := by rw [e2, List.length_append]
    -- what the two halves answer in b.1
    have ya : ∀ (f : Nat → Bool) (n : Nat), a.2 ≤ (n : Int) + 1 → walk b.1 f n a.2 = (t.take (2 ^ m)).getD (idx m (v + 1) f) false := fun f n hn => by
      rw [e2, walk_ext hfa l2 f n n a.2 hal0 hn hn hal]
      exact ha.yes f n hn
    have da : a.2 ≤ 1 ∨ ∃ k, b.1[(a.2 - 2).toNat]? = some k ∧ ((v + 1 : Nat) : Int) ≤ k.1 := by
      rcases ha.deep with h | ⟨k, h1, h2⟩
      · exact .inl h
      · by_cases h3 : a.2 ≤ 1
        · exact .inl h3
        · exact .inr ⟨k, by rw [e2, List.getElem?_append_left (by omega)]; exact h1, h2⟩
    have pick : ∀ (f : Nat → Bool), t.getD (idx (m + 1) v f) false = if f v then (t.drop (2 ^ m)).getD (idx m (v + 1) f) false else (t.take (2 ^ m)).getD (idx m (v + 1) f) false := fun f => by
      have hx := idx_lt m (v + 1) f
      rw [show idx (m + 1) v f = (if f v then 2 ^ m else 0) + idx m (v + 1) f from rfl]
      cases f v with
      | true =>
        rw [if_pos rfl, if_pos rfl, List.getD_eq_getElem?_getD, List.getD_eq_getElem?_getD, List.getElem?_drop]
      | false =>
        rw [if_neg (by simp), if_neg (by simp), Nat.zero_add, List.getD_eq_getElem?_getD, List.getD_eq_getElem?_getD, List.getElem?_take_of_lt hx]
    by_cases e : a.2 = b.2
    · rw [if_pos e]
      refine ⟨⟨l1 ++ l2, by rw [e2, e1, List.append_assoc]⟩, hb.all, hal0, by show a.2 ≤ (b.1.length : Int) + 1; omega, ?_, fun f n hn => ?_⟩
      · rcases da with h | ⟨k, h1, h2⟩
        · exact .inl h
        · exact .inr ⟨k, h1, by omega⟩
      · rw [pick f]
        show walk b.1 f n a.2 = _
        cases f v with
        | true => rw [if_pos rfl, e]; exact hb.yes f n (e ▸ hn)
        | false => rw [if_neg (by simp)]; exact ya f n hn
    · rw [if_neg e]
      unfold putEnd
      cases hs : seek ((v : Int), a.2, b.2, ()) b.1 0 with
      | some i =>
        have hi := seek_lt hs
        have hg := seek_get hs
        rw [Nat.sub_zero] at hg
        refine ⟨⟨l1 ++ l2, by show b.1 = _; rw [e2, e1, List.append_assoc]⟩, hb.all, by show (0 : Int) ≤ (i : Int) + 2; omega, by show (i : Int) + 2 ≤ (b.1.length : Int) + 1; omega, .inr ⟨((v : Int), a.2, b.2, ()), ?_, Int.le_refl (v : Int)⟩, fun f n hn => ?_⟩
        · show b.1[((i : Int) + 2 - 2).toNat]? = _
          rw [show ((i : Int) + 2 - 2).toNat = i by omega]; exact hg
        · have hn : (i : Int) + 2 ≤ (n : Int) + 1 := hn
          obtain ⟨n, rfl⟩ : ∃ p, n = p + 1 := ⟨n - 1, by omega⟩
          have hfi := hfb i (by omega)
          have hgi : b.1[i]'(by omega) = ((v : Int), a.2, b.2, ()) := by
            have := List.getElem?_eq_getElem (show i < b.1.length by omega)
            rw [hg] at this
            exact (Option.some.inj this).symm
          rw [hgi] at hfi
          have hfi1 : a.2 ≤ (i : Int) + 1 := hfi.2.1.2
          have hfi2 : b.2 ≤ (i : Int) + 1 := hfi.2.2.2
          rw [pick f]
          show walk b.1 f (n + 1) ((i : Int) + 2) = _
          rw [walk_step _ _ _ _ hg]
          show walk b.1 f n (if f (v : Int).toNat then b.2 else a.2) = _
          rw [Int.toNat_natCast]
          cases f v with
          | true => rw [if_pos rfl, if_pos rfl]; exact hb.yes f n (by omega)
          | false => rw [if_neg (by simp), if_neg (by simp)]; exact ya f n (by omega)
      | none =>
        have hkn : knB M b.1 b.1.length ((v : Int), a.2, b.2, ()) = true := knB_iff.2 ⟨⟨by show (0 : Int) ≤ (v : Int); omega, by show (v : Int) < (M : Int); omega⟩, ⟨⟨hal0, by show a.2 ≤ (b.1.length : Int) + 1; omega⟩, deepB_of (by
            rcases da with h | ⟨k, h1, h2⟩
            · exact .inl h
            · exact .inr ⟨k, h1, by show (v : Int) + 1 ≤ k.1; omega⟩)⟩, ⟨⟨hbl0, hbl⟩, deepB_of (by
            rcases hb.deep with h | ⟨k, h1, h2⟩
            · exact .inl h
            · exact .inr ⟨k, h1, by show (v : Int) + 1 ≤ k.1; omega⟩)⟩⟩
        have hg : (b.1 ++ [((v : Int), a.2, b.2, ())])[b.1.length]? = some ((v : Int), a.2, b.2, ()) := by simp
        refine ⟨⟨l1 ++ l2 ++ [((v : Int), a.2, b.2, ())], by show b.1 ++ _ = _; rw [e2, e1]; simp only [List.append_assoc]⟩, hb.all.put hkn, by show (0 : Int) ≤ (b.1.length : Int) + 2; omega, by show (b.1.length : Int) + 2 ≤ ((b.1 ++ [_]).length : Int) + 1; rw [List.length_append, List.length_singleton]; omega, .inr ⟨((v : Int), a.2, b.2, ()), ?_, Int.le_refl (v : Int)⟩, fun f n hn => ?_⟩
        · show (b.1 ++ [_])[((b.1.length : Int) + 2 - 2).toNat]? = _
          rw [show ((b.1.length : Int) + 2 - 2).toNat = b.1.length by omega]; exact hg
        · have hn : (b.1.length : Int) + 2 ≤ (n : Int) + 1 := hn
          obtain ⟨n, rfl⟩ : ∃ p, n = p + 1 := ⟨n - 1, by omega⟩
          rw [pick f]
          show walk (b.1 ++ [((v : Int), a.2, b.2, ())]) f (n + 1) ((b.1.length : Int) + 2) = _
          rw [walk_step _ _ _ _ hg]
          show walk _ f n (if f (v : Int).toNat then b.2 else a.2) = _
          rw [Int.toNat_natCast]
          cases f v with
          | true => rw [if_pos rfl, if_pos rfl, walk_ext hfb _ f n n b.2 hbl0 (by omega) (by omega) hbl]; exact hb.yes f n (by omega)
          | false => rw [if_neg (by simp), if_neg (by simp), walk_ext hfb _ f n n a.2 hal0 (by omega) (by omega) (by omega)]; exact ya f n (by omega)

theorem goB_of {m : Int} {ks : List Kn} : ∀ {l : List Kn} {i : Nat}, (∀ (j : Nat) (h : j < l.length), knB m ks (i + j) l[j] = true) → goB m ks l i = true
  | [], _, _ => rfl
  | a :: l, i, h => by
    unfold goB
    rw [Bool.and_eq_true]
    refine ⟨h 0 (by simp), goB_of fun j hj => ?_⟩
    have := h (j + 1) (by simp only [List.length_cons]; omega)
    rw [show i + (j + 1) = i + 1 + j by omega] at this
    exact this
theorem mkDia_ok (m : Nat) (t : List Bool) (hm : m ≤ 10) (ht : t.length = 2 ^ m) : diaOk (mkDia m t) = true ∧ tab m (mkDia m t).2.2.1 (mkDia m t).2.1 = t := by
  have h := putP_ok m m 0 [] t (by omega) ht (fun i hi => by simp at hi)
  have hlen := mkDia_len m t hm
  have htab : tab m (mkDia m t).2.2.1 (mkDia m t).2.1 = t := by
    apply List.ext_getElem?
    intro i
    rcases Nat.lt_or_ge i (2 ^ m) with hi | hi
    · have hy := h.yes (bitN m i) (mkDia m t).2.2.1.length h.hi
      rw [idx_bits m i m 0 (by omega), Nat.mod_eq_of_lt hi] at hy
      have e : (tab m (mkDia m t).2.2.1 (mkDia m t).2.1)[i]? = some (walk (mkDia m t).2.2.1 (bitN m i) (mkDia m t).2.2.1.length (mkDia m t).2.1) := by simp [tab, hi]
      rw [e, List.getElem?_eq_getElem (by omega)]
      refine congrArg some (Eq.trans hy ?_)
      rw [List.getD_eq_getElem?_getD, List.getElem?_eq_getElem (by omega)]; rfl
    · rw [List.getElem?_eq_none (by rw [tab_len]; exact hi), List.getElem?_eq_none (by omega)]
  refine ⟨?_, htab⟩
  have hg : goodB 1023 (mkDia m t) = true := by
    unfold goodB
    rw [decide_eq_true (show 0 ≤ (mkDia m t).1 by show (0 : Int) ≤ (m : Int); omega), decide_eq_true (show (mkDia m t).1 ≤ 10 by show (m : Int) ≤ 10; omega), decide_eq_true hlen, decide_eq_true (show 0 ≤ (mkDia m t).2.1 from h.lo), decide_eq_true (show (mkDia m t).2.1 ≤ ((mkDia m t).2.2.1.length : Int) + 1 from h.hi)]
    rw [show goB (mkDia m t).1 (mkDia m t).2.2.1 (mkDia m t).2.2.1 0 = true from goB_of fun j hj => by rw [Nat.zero_add]; exact h.all j hj]
    rfl
  unfold diaOk
  rw [hg, Bool.true_and]
  refine decide_eq_true ?_
  have e : (mkDia m t).1.toNat = m := Int.toNat_natCast m
  rw [e, htab]

end Go.Proofs.Ytcmgjdmhemfecaa.Pf
