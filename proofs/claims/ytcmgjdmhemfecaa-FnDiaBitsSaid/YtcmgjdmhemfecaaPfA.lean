/- What functions answer, from some number of rounds on; loops over lists; the laws' helpers. No condition. -/
import Derived.Test.YtcmgjdmhemfecaaPfT0
import Derived.Test.YtcmgjdmhemfecaaPvEnvOk
namespace Go.Proofs.Ytcmgjdmhemfecaa.Pf
open Go Go.Pv

/-! ### From some number of rounds on -/
noncomputable def cl (k : Nat) : Cl := sem E (fun _ _ => none) k
def Ev (p : Nat → Prop) : Prop := ∃ k0, ∀ k, k0 ≤ k → p k
theorem Ev.all {p : Nat → Prop} (h : ∀ k, p k) : Ev p := ⟨0, fun k _ => h k⟩
theorem Ev.and {p q : Nat → Prop} (h1 : Ev p) (h2 : Ev q) : Ev fun k => p k ∧ q k := by
  obtain ⟨a, h1⟩ := h1
  obtain ⟨b, h2⟩ := h2
  exact ⟨max a b, fun k hk => ⟨h1 k (by omega), h2 k (by omega)⟩⟩
theorem Ev.mono {p q : Nat → Prop} (h : Ev p) (hpq : ∀ k, p k → q k) : Ev q := by
  obtain ⟨a, h⟩ := h
  exact ⟨a, fun k hk => hpq k (h k hk)⟩
theorem Ev.ge (n : Nat) : Ev fun k => n ≤ k := ⟨n, fun _ h => h⟩
theorem Ev.forall_mem {α : Type} {p : α → Nat → Prop} : ∀ {l : List α}, (∀ x ∈ l, Ev (p x)) → Ev fun k => ∀ x ∈ l, p x k
  | [], _ => .all fun k x h => by cases h
  | a :: l, h => ((h a List.mem_cons_self).and (Ev.forall_mem fun x hx => h x (List.mem_cons_of_mem _ hx))).mono fun k ⟨h1, h2⟩ x hx => by
    rcases List.mem_cons.1 hx with rfl | hx
    · exact h1
    · exact h2 x hx
theorem Ev.forall_lt {p : Nat → Nat → Prop} : ∀ {n : Nat}, (∀ i, i < n → Ev (p i)) → Ev fun k => ∀ i, i < n → p i k
  | 0, _ => .all fun k i h => by omega
  | n + 1, h => ((h n (Nat.lt_succ_self n)).and (Ev.forall_lt fun i hi => h i (Nat.lt_succ_of_lt hi))).mono fun k ⟨h1, h2⟩ i hi => by
    rcases Nat.lt_succ_iff_lt_or_eq.1 hi with hi | rfl
    · exact h2 i hi
    · exact h1
/-- A function answers so. -/
def Ans (g : Nat) (s : Sg) (l : s.A.den) (r : s.R.den) : Prop := Ev fun k => cl k g s l = some r
theorem Ans.of {g : Nat} {s : Sg} {l : s.A.den} {r : s.R.den} {f : Nat → Option s.R.den} (he : ∀ k, bodyK E (cl k) g k s l = f k) (h : Ev fun k => f k = some r) : Ans g s l r := by
  obtain ⟨k0, h⟩ := h
  refine ⟨k0 + 1, fun k hk => ?_⟩
  obtain ⟨k, rfl⟩ : ∃ m, k = m + 1 := ⟨k - 1, by omega⟩
  show bodyK E (cl k) g k s l = some r
  rw [he]; exact h k (by omega)
theorem Ans.sem {g : Nat} {s : Sg} {l : s.A.den} {r : s.R.den} (h : Ans g s l r) : ∃ k, Pv.sem E (fun _ _ => none) k g s l = some r := by
  obtain ⟨k0, h⟩ := h
  exact ⟨k0, h k0 (Nat.le_refl _)⟩

/-! ### Numbers -/
theorem w64 {x : Int} (h0 : -9223372036854775808 ≤ x) (h1 : x ≤ 9223372036854775807) : IntKind.i64.wrap x = x := by
  simp only [IntKind.wrap, IntKind.bits, IntKind.signed, Bool.true_and]
  split
  · rename_i h
    have h := of_decide_eq_true h
    omega
  · rename_i h
    have h : ¬ (x % 2 ^ 64 ≥ 2 ^ (64 - 1)) := fun e => h (decide_eq_true e)
    omega
theorem ws {j n : Nat} (h : j < n) (hn : n ≤ 9223372036854775807) : IntKind.i64.wrap ((j : Int) + 1) = ((j + 1 : Nat) : Int) := by
  rw [w64 (by omega) (by omega)]; omega
theorem dlt {j n : Nat} (h : j < n) : decide ((j : Int) < (n : Int)) = true := decide_eq_true (by omega)
theorem dnlt {j n : Nat} (h : n ≤ j) : decide ((j : Int) < (n : Int)) = false := decide_eq_false (by omega)
theorem dle0 (j : Nat) : decide ((0 : Int) ≤ (j : Int)) = true := decide_eq_true (by omega)
theorem lg {α : Type} {xs : List α} {j : Nat} (h : j < xs.length) : lget xs (Int.toNat (j : Int)) = some xs[j] := by
  rw [Int.toNat_natCast]; exact List.getElem?_eq_getElem h
theorem lgn {α : Type} {xs : List α} {j : Nat} (h : j < xs.length) : lget xs j = some xs[j] := by
  exact List.getElem?_eq_getElem h
theorem mk_ok {n b : Nat} (h : n * b ≤ 281474976710656) : (decide ((n : Int) = (n : Int)) && decide ((0 : Int) ≤ (n : Int)) && decide ((n : Int) * (b : Int) ≤ (281474976710656 : Int))) = true := by
  have h1 : ((n * b : Nat) : Int) ≤ 281474976710656 := by omega
  rw [Int.natCast_mul] at h1
  rw [decide_eq_true rfl, decide_eq_true (by omega), decide_eq_true h1]; rfl
theorem maxLen_eq : maxLen = 9223372036854775807 := rfl

/-! ### The laws' helpers -/
theorem eqInt64S_ans (a : List Int) (ha : a.length ≤ maxLen) : Ans 39 s_laws_eqInt64S (a, a, ()) ((true, ()), ()) := by
  refine Ans.of (fun k => laws_eqInt64S.F_eq (cl k) k a a) ?_
  have key : ∀ (d k n j : Nat), a.length - j = d → d < n → laws_eqInt64S.L0 (cl k) k a a n (j : Int) = some ((true, ()), ()) := by
    intro d
    induction d with
    | zero =>
      intro k n j hd hn
      obtain ⟨n, rfl⟩ : ∃ m, n = m + 1 := ⟨n - 1, by omega⟩
      simp only [laws_eqInt64S.L0, laws_eqInt64S.step0, dnlt (show a.length ≤ j by omega), cond_false]
    | succ d ih =>
      intro k n j hd hn
      obtain ⟨n, rfl⟩ : ∃ m, n = m + 1 := ⟨n - 1, by omega⟩
      have hj : j < a.length := by omega
      simp only [laws_eqInt64S.L0, laws_eqInt64S.step0, dlt hj, cond_true, dle0, lg hj, Option.bind_some, ws hj (maxLen_eq ▸ ha), bne_self_eq_false, cond_false]
      exact ih k n (j + 1) (by omega) (by omega)
  refine (Ev.ge (a.length + 1)).mono fun k hk => ?_
  simp only [laws_eqInt64S.F, laws_eqInt64S.Fm, bne_self_eq_false, cond_false]
  exact key a.length k k 0 rfl (by omega)

theorem eqBoolS_ans (a : List Bool) (ha : a.length ≤ maxLen) : Ans 50 s_laws_eqBoolS (a, a, ()) ((true, ()), ()) := by
  refine Ans.of (fun k => laws_eqBoolS.F_eq (cl k) k a a) ?_
  have key : ∀ (d k n j : Nat), a.length - j = d → d < n → laws_eqBoolS.L0 (cl k) k a a n (j : Int) = some ((true, ()), ()) := by
    intro d
    induction d with
    | zero =>
      intro k n j hd hn
      obtain ⟨n, rfl⟩ : ∃ m, n = m + 1 := ⟨n - 1, by omega⟩
      simp only [laws_eqBoolS.L0, laws_eqBoolS.step0, dnlt (show a.length ≤ j by omega), cond_false]
    | succ d ih =>
      intro k n j hd hn
      obtain ⟨n, rfl⟩ : ∃ m, n = m + 1 := ⟨n - 1, by omega⟩
      have hj : j < a.length := by omega
      simp only [laws_eqBoolS.L0, laws_eqBoolS.step0, dlt hj, cond_true, dle0, lg hj, Option.bind_some, ws hj (maxLen_eq ▸ ha), beq_self_eq_true, Bool.not_true, cond_false]
      exact ih k n (j + 1) (by omega) (by omega)
  refine (Ev.ge (a.length + 1)).mono fun k hk => ?_
  simp only [laws_eqBoolS.F, laws_eqBoolS.Fm, bne_self_eq_false, cond_false]
  exact key a.length k k 0 rfl (by omega)

theorem set_take_drop {α : Type} (acc a : List α) {j : Nat} (hj : j < a.length) (hl : acc.length = a.length) : (acc.set j a[j]).take (j + 1) ++ a.drop (j + 1) = acc.take j ++ a.drop j := by
  rw [List.drop_eq_getElem_cons hj, List.take_set, List.take_succ_eq_append_getElem (by omega), List.set_append_right _ _ (by simp; omega)]
  have : j - (acc.take j).length = 0 := by simp; omega
  rw [this]
  simp

theorem toInt64S_ans (a : List Int) (ha : a.length ≤ 1048576) : Ans 81 s_laws_toInt64S (a, ()) ((a, ()), ()) := by
  refine Ans.of (fun k => laws_toInt64S.F_eq (cl k) k a) ?_
  have key : ∀ (d k n j : Nat) (acc : List Int), acc.length = a.length → a.length - j = d → d < n → laws_toInt64S.L0 (cl k) k a n (j : Int) acc = some ((acc.take j ++ a.drop j, ()), ()) := by
    intro d
    induction d with
    | zero =>
      intro k n j acc hl hd hn
      obtain ⟨n, rfl⟩ : ∃ m, n = m + 1 := ⟨n - 1, by omega⟩
      simp only [laws_toInt64S.L0, laws_toInt64S.step0, dnlt (show a.length ≤ j by omega), cond_false]
      rw [List.take_of_length_le (by omega), List.drop_of_length_le (by omega), List.append_nil]
    | succ d ih =>
      intro k n j acc hl hd hn
      obtain ⟨n, rfl⟩ : ∃ m, n = m + 1 := ⟨n - 1, by omega⟩
      have hj : j < a.length := by omega
      have hj' : j < acc.length := by omega
      simp only [laws_toInt64S.L0, laws_toInt64S.step0, dlt hj, cond_true, dle0, lgn hj, lgn hj', Option.bind_some, ws hj (by omega), Int.toNat_natCast, decide_eq_true hj', Bool.and_self]
      rw [ih k n (j + 1) _ (by simp [hl]) (by omega) (by omega), set_take_drop acc a hj hl]
  refine (Ev.ge (a.length + 1)).mono fun k hk => ?_
  unfold laws_toInt64S.F laws_toInt64S.Fm
  rw [mk_ok (n := a.length) (b := ti2.bytes) (by show a.length * 8 ≤ _; omega), cond_true]
  exact (key a.length k k 0 _ (by simp) rfl (by omega)).trans (by simp)

theorem toBoolS_ans (a : List Bool) (ha : a.length ≤ 1048576) : Ans 48 s_laws_toBoolS (a, ()) ((a, ()), ()) := by
  refine Ans.of (fun k => laws_toBoolS.F_eq (cl k) k a) ?_
  have key : ∀ (d k n j : Nat) (acc : List Bool), acc.length = a.length → a.length - j = d → d < n → laws_toBoolS.L0 (cl k) k a n (j : Int) acc = some ((acc.take j ++ a.drop j, ()), ()) := by
    intro d
    induction d with
    | zero =>
      intro k n j acc hl hd hn
      obtain ⟨n, rfl⟩ : ∃ m, n = m + 1 := ⟨n - 1, by omega⟩
      simp only [laws_toBoolS.L0, laws_toBoolS.step0, dnlt (show a.length ≤ j by omega), cond_false]
      rw [List.take_of_length_le (by omega), List.drop_of_length_le (by omega), List.append_nil]
    | succ d ih =>
      intro k n j acc hl hd hn
      obtain ⟨n, rfl⟩ : ∃ m, n = m + 1 := ⟨n - 1, by omega⟩
      have hj : j < a.length := by omega
      have hj' : j < acc.length := by omega
      simp only [laws_toBoolS.L0, laws_toBoolS.step0, dlt hj, cond_true, dle0, lgn hj, lgn hj', Option.bind_some, ws hj (by omega), Int.toNat_natCast, decide_eq_true hj', Bool.and_self]
      rw [ih k n (j + 1) _ (by simp [hl]) (by omega) (by omega), set_take_drop acc a hj hl]
  refine (Ev.ge (a.length + 1)).mono fun k hk => ?_
  unfold laws_toBoolS.F laws_toBoolS.Fm
  rw [mk_ok (n := a.length) (b := ti4.bytes) (by show a.length * 1 ≤ _; omega), cond_true]
  exact (key a.length k k 0 _ (by simp) rfl (by omega)).trans (by simp)

theorem toInt64SS_ans (a : List (List Int)) (ha : a.length ≤ 1048576) (hs : ∀ x ∈ a, x.length ≤ 1048576) : Ans 97 s_laws_toInt64SS (a, ()) ((a, ()), ()) := by
  refine Ans.of (fun k => laws_toInt64SS.F_eq (cl k) k a) ?_
  have hc := Ev.forall_mem fun x hx => toInt64S_ans x (hs x hx)
  have key : ∀ (d k n j : Nat) (acc : List (List Int)), (∀ x ∈ a, cl k 81 s_laws_toInt64S (x, ()) = some ((x, ()), ())) → acc.length = a.length → a.length - j = d → d < n → laws_toInt64SS.L0 (cl k) k a n (j : Int) acc = some ((acc.take j ++ a.drop j, ()), ()) := by
    intro d
    induction d with
    | zero =>
      intro k n j acc hc hl hd hn
      obtain ⟨n, rfl⟩ : ∃ m, n = m + 1 := ⟨n - 1, by omega⟩
      simp only [laws_toInt64SS.L0, laws_toInt64SS.step0, dnlt (show a.length ≤ j by omega), cond_false]
      rw [List.take_of_length_le (by omega), List.drop_of_length_le (by omega), List.append_nil]
    | succ d ih =>
      intro k n j acc hc hl hd hn
      obtain ⟨n, rfl⟩ : ∃ m, n = m + 1 := ⟨n - 1, by omega⟩
      have hj : j < a.length := by omega
      have hj' : j < acc.length := by omega
      simp only [laws_toInt64SS.L0, laws_toInt64SS.step0, dlt hj, cond_true, dle0, lgn hj, lgn hj', Option.bind_some, hc a[j] (List.getElem_mem hj), ws hj (by omega), Int.toNat_natCast, decide_eq_true hj', Bool.and_self]
      rw [ih k n (j + 1) _ hc (by simp [hl]) (by omega) (by omega), set_take_drop acc a hj hl]
  refine ((Ev.ge (a.length + 1)).and hc).mono fun k ⟨hk, hc⟩ => ?_
  unfold laws_toInt64SS.F laws_toInt64SS.Fm
  rw [mk_ok (n := a.length) (b := ti41.bytes) (by show a.length * 24 ≤ _; omega), cond_true]
  exact (key a.length k k 0 _ hc (by simp) rfl (by omega)).trans (by simp)

theorem eqInt64SS_ans (a : List (List Int)) (ha : a.length ≤ maxLen) (hs : ∀ x ∈ a, x.length ≤ maxLen) : Ans 100 s_laws_eqInt64SS (a, a, ()) ((true, ()), ()) := by
  refine Ans.of (fun k => laws_eqInt64SS.F_eq (cl k) k a a) ?_
  have hc := Ev.forall_mem fun x hx => eqInt64S_ans x (hs x hx)
  have key : ∀ (d k n j : Nat), (∀ x ∈ a, cl k 39 s_laws_eqInt64S (x, x, ()) = some ((true, ()), ())) → a.length - j = d → d < n → laws_eqInt64SS.L0 (cl k) k a a n (j : Int) = some ((true, ()), ()) := by
    intro d
    induction d with
    | zero =>
      intro k n j hc hd hn
      obtain ⟨n, rfl⟩ : ∃ m, n = m + 1 := ⟨n - 1, by omega⟩
      simp only [laws_eqInt64SS.L0, laws_eqInt64SS.step0, dnlt (show a.length ≤ j by omega), cond_false]
    | succ d ih =>
      intro k n j hc hd hn
      obtain ⟨n, rfl⟩ : ∃ m, n = m + 1 := ⟨n - 1, by omega⟩
      have hj : j < a.length := by omega
      simp only [laws_eqInt64SS.L0, laws_eqInt64SS.step0, dlt hj, cond_true, dle0, lg hj, Option.bind_some, hc a[j] (List.getElem_mem hj), ws hj (maxLen_eq ▸ ha), Bool.not_true, cond_false]
      exact ih k n (j + 1) hc (by omega) (by omega)
  refine ((Ev.ge (a.length + 1)).and hc).mono fun k ⟨hk, hc⟩ => ?_
  simp only [laws_eqInt64SS.F, laws_eqInt64SS.Fm, bne_self_eq_false, cond_false]
  exact key a.length k k 0 hc rfl (by omega)

theorem szInt64S_ans (a : List Int) {n : Int} (h0 : 0 ≤ n) (h1 : n ≤ 1048576) (ha : a.length ≤ maxLen) : Ans 147 s_laws_szInt64S (a, n, ()) ((if n < a.length then -1 else n - a.length, ()), ()) := by
  refine Ans.of (fun k => laws_szInt64S.F_eq (cl k) k a n) (.all fun k => ?_)
  rw [maxLen_eq] at ha
  simp only [laws_szInt64S.F, laws_szInt64S.Fm]
  rw [w64 (by omega) (by omega)]
  by_cases h : n < a.length
  · rw [decide_eq_true (by omega), if_pos h]; rfl
  · rw [decide_eq_false (by omega), if_neg h]; rfl

/-- What is left of a budget that is given out over rows. -/
theorem szInt64SS_ans (a : List (List Int)) {n : Int} (h0 : 0 ≤ n) (h1 : n ≤ 1048576) (ha : a.length ≤ maxLen) (hs : ∀ x ∈ a, x.length ≤ maxLen) :
    ∃ r : Int, Ans 94 s_laws_szInt64SS (a, n, ()) ((r, ()), ()) ∧ (r = -1 ∨ (0 ≤ r ∧ r ≤ n ∧ a.length ≤ n ∧ ∀ x ∈ a, x.length ≤ n)) := by
  have ha' := ha
  rw [maxLen_eq] at ha'
  have key : ∀ (d j : Nat) (m : Int), 0 ≤ m → m ≤ n → a.length - j = d → ∃ r : Int, (Ev fun k => ∀ q, d < q → laws_szInt64SS.L0 (cl k) k a q m (j : Int) = some ((r, ()), ())) ∧ (r = -1 ∨ (0 ≤ r ∧ r ≤ m ∧ ∀ x ∈ a.drop j, x.length ≤ n)) := by
    intro d
    induction d with
    | zero =>
      intro j m hm0 hm1 hd
      refine ⟨m, .all fun k q hq => ?_, .inr ⟨hm0, Int.le_refl _, fun x hx => ?_⟩⟩
      · obtain ⟨q, rfl⟩ : ∃ p, q = p + 1 := ⟨q - 1, by omega⟩
        simp only [laws_szInt64SS.L0, laws_szInt64SS.step0, dnlt (show a.length ≤ j by omega), cond_false]
      · rw [List.drop_of_length_le (by omega)] at hx; cases hx
    | succ d ih =>
      intro j m hm0 hm1 hd
      have hj : j < a.length := by omega
      have hc := szInt64S_ans a[j] hm0 (by omega) (hs _ (List.getElem_mem hj))
      by_cases hlt : m < a[j].length
      · refine ⟨-1, hc.mono fun k hc q hq => ?_, .inl rfl⟩
        obtain ⟨q, rfl⟩ : ∃ p, q = p + 1 := ⟨q - 1, by omega⟩
        rw [if_pos hlt] at hc
        simp only [laws_szInt64SS.L0, laws_szInt64SS.step0, dlt hj, cond_true, dle0, lg hj, Option.bind_some, hc]
        rfl
      · rw [if_neg hlt] at hc
        obtain ⟨r, hr, hr2⟩ := ih (j + 1) (m - a[j].length) (by omega) (by omega) (by omega)
        refine ⟨r, (hc.and hr).mono fun k ⟨hc, hr⟩ q hq => ?_, ?_⟩
        · obtain ⟨q, rfl⟩ : ∃ p, q = p + 1 := ⟨q - 1, by omega⟩
          simp only [laws_szInt64SS.L0, laws_szInt64SS.step0, dlt hj, cond_true, dle0, lg hj, Option.bind_some, hc, ws hj ha']
          rw [decide_eq_false (by omega), cond_false]
          exact hr q (by omega)
        · rcases hr2 with h | ⟨h2, h3, h4⟩
          · exact .inl h
          · refine .inr ⟨h2, by omega, fun x hx => ?_⟩
            rw [List.drop_eq_getElem_cons hj] at hx
            rcases List.mem_cons.1 hx with rfl | hx
            · omega
            · exact h4 x hx
  by_cases hlt : n < a.length
  · refine ⟨-1, Ans.of (fun k => laws_szInt64SS.F_eq (cl k) k a n) (.all fun k => ?_), .inl rfl⟩
    simp only [laws_szInt64SS.F, laws_szInt64SS.Fm]
    rw [w64 (by omega) (by omega), decide_eq_true (by omega)]; rfl
  · obtain ⟨r, hr, hr2⟩ := key a.length 0 (n - a.length) (by omega) (by omega) rfl
    refine ⟨r, Ans.of (fun k => laws_szInt64SS.F_eq (cl k) k a n) (((Ev.ge (a.length + 1)).and hr).mono fun k ⟨hk, hr⟩ => ?_), ?_⟩
    · simp only [laws_szInt64SS.F, laws_szInt64SS.Fm]
      rw [w64 (by omega) (by omega), decide_eq_false (by omega), cond_false]
      exact hr k (by omega)
    · rcases hr2 with h | ⟨h2, h3, h4⟩
      · exact .inl h
      · exact .inr ⟨h2, by omega, by omega, by simpa using h4⟩

abbrev Cnf := Int × (List (List Int) × Unit)
def Small (c : Cnf) : Prop := c.2.1.length ≤ 1048576 ∧ ∀ x ∈ c.2.1, x.length ≤ 1048576

theorem szCnf_ans (c : Cnf) (ha : c.2.1.length ≤ maxLen) (hs : ∀ x ∈ c.2.1, x.length ≤ maxLen) : ∃ r : Int, Ans 32 s_laws_szCnf (c, 1048576, ()) ((r, ()), ()) ∧ (r = -1 ∨ (0 ≤ r ∧ Small c)) := by
  obtain ⟨r, hr, h⟩ := szInt64SS_ans c.2.1 (n := 1048576) (by omega) (by omega) ha hs
  refine ⟨r, Ans.of (fun k => laws_szCnf.F_eq (cl k) k c 1048576) (hr.mono fun k hr => ?_), ?_⟩
  · simp only [laws_szCnf.F, laws_szCnf.Fm, hr, Option.bind_some]
    rcases h with rfl | ⟨h, _⟩
    · rfl
    · rw [decide_eq_false (by omega)]; rfl
  · rcases h with h | ⟨h1, _, h2, h3⟩
    · exact .inl h
    · exact .inr ⟨h1, by omega, fun x hx => by have := h3 x hx; omega⟩

theorem toCnf_ans (c : Cnf) (h : Small c) : Ans 34 s_laws_toCnf (c, ()) ((c, ()), ()) := by
  refine Ans.of (fun k => laws_toCnf.F_eq (cl k) k c) ((toInt64SS_ans c.2.1 h.1 h.2).mono fun k hr => ?_)
  simp only [laws_toCnf.F, laws_toCnf.Fm, hr, Option.bind_some]

theorem eqCnf_ans (c : Cnf) (h : Small c) : Ans 36 s_laws_eqCnf (c, c, ()) ((true, ()), ()) := by
  refine Ans.of (fun k => laws_eqCnf.F_eq (cl k) k c c) ((eqInt64SS_ans c.2.1 (by have := h.1; rw [maxLen_eq]; omega) (fun x hx => by have := h.2 x hx; rw [maxLen_eq]; omega)).mono fun k hr => ?_)
  simp only [laws_eqCnf.F, laws_eqCnf.Fm, hr, Option.bind_some, bne_self_eq_false, cond_false, Bool.not_true]

end Go.Proofs.Ytcmgjdmhemfecaa.Pf
