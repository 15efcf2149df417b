/- Great numbers by their places, and how many models there are. No condition. -/
import Derived.Test.YtcmgjdmhemfecaaPfS
import Derived.Test.YtcmgjdmhemfecaaPfT7
namespace Go.Proofs.Ytcmgjdmhemfecaa.Pf
open Go Go.Pv

/-! ### Places -/
def toI (l : List Nat) : List Int := l.map fun (n : Nat) => (n : Int)
theorem toI_len (l : List Nat) : (toI l).length = l.length := by simp [toI]
theorem toI_app (l m : List Nat) : toI (l ++ m) = toI l ++ toI m := by simp [toI]
theorem toI_at {l : List Nat} {i : Nat} (h : i < l.length) : lget (toI l) i = some (l[i] : Int) := by
  show (toI l)[i]? = _
  simp [toI, h]
theorem toI_set (l : List Nat) (i x : Nat) : (toI l).set i (x : Int) = toI (l.set i x) := by simp [toI, List.map_set]
def val : List Nat → Nat
  | [] => 0
  | a :: l => a + 10000 * val l
def Can : List Nat → Prop
  | [] => True
  | a :: l => a < 10000 ∧ Can l ∧ (l = [] → a ≠ 0)
theorem Can.small : ∀ {l : List Nat}, Can l → ∀ a ∈ l, a < 10000
  | _ :: _, h, a, ha => by
    rcases List.mem_cons.1 ha with rfl | ha
    · exact h.1
    · exact Can.small h.2.1 a ha
theorem Can.zero : ∀ {l : List Nat}, Can l → val l = 0 → l = []
  | [], _, _ => rfl
  | a :: l, h, e => by
    have e : a + 10000 * val l = 0 := e
    exact absurd (by omega : a = 0) (h.2.2 (Can.zero h.2.1 (by omega)))
theorem Can.pos {a : Nat} {l : List Nat} (h : Can (a :: l)) : 0 < val (a :: l) := by
  rcases Nat.eq_zero_or_pos (val (a :: l)) with e | e
  · cases h.zero e
  · exact e
theorem Can.eq : ∀ {l m : List Nat}, Can l → Can m → val l = val m → l = m
  | [], m, _, hm, e => (hm.zero e.symm).symm
  | a :: l, [], hl, _, e => hl.zero e
  | a :: l, b :: m, hl, hm, e => by
    have e : a + 10000 * val l = b + 10000 * val m := e
    have h1 := hl.1
    have h2 := hm.1
    have e1 : a = b := by omega
    have e2 : val l = val m := by omega
    rw [e1, Can.eq hl.2.1 hm.2.1 e2]
def digF : Nat → Nat → List Nat
  | 0, _ => []
  | f + 1, n => if n = 0 then [] else n % 10000 :: digF f (n / 10000)
theorem digF_ok : ∀ (f n : Nat), n ≤ f → val (digF f n) = n ∧ Can (digF f n)
  | 0, n, h => by
    have : n = 0 := by omega
    subst this
    exact ⟨rfl, trivial⟩
  | f + 1, n, h => by
    unfold digF
    by_cases e : n = 0
    · rw [if_pos e, e]; exact ⟨rfl, trivial⟩
    · rw [if_neg e]
      obtain ⟨h1, h2⟩ := digF_ok f (n / 10000) (by omega)
      refine ⟨?_, by omega, h2, fun h3 => ?_⟩
      · show n % 10000 + 10000 * val (digF f (n / 10000)) = n
        rw [h1]; omega
      · rw [h3] at h1
        have h1 : 0 = n / 10000 := h1
        omega
def dig (n : Nat) : List Nat := digF n n
theorem dig_val (n : Nat) : val (dig n) = n := (digF_ok n n (Nat.le_refl _)).1
theorem dig_can (n : Nat) : Can (dig n) := (digF_ok n n (Nat.le_refl _)).2
theorem Can.dig {l : List Nat} (h : Can l) : l = dig (val l) := h.eq (dig_can _) (dig_val _).symm
theorem can_len : ∀ {d : Nat} {l : List Nat}, Can l → val l < 10000 ^ d → l.length ≤ d
  | 0, l, h, hv => by
    rw [h.zero (by rw [Nat.pow_zero] at hv; omega)]; exact Nat.le_refl _
  | d + 1, [], _, _ => Nat.zero_le _
  | d + 1, a :: l, h, hv => by
    have hv : a + 10000 * val l < 10000 ^ d * 10000 := by rw [← Nat.pow_succ]; exact hv
    have := can_len (d := d) h.2.1 (by omega)
    rw [List.length_cons]; omega
theorem dig_len {n d : Nat} (h : n < 10000 ^ d) : (dig n).length ≤ d := can_len (dig_can n) (by rw [dig_val]; exact h)
theorem pow2_lt (d : Nat) : ∀ {n : Nat}, n ≤ 13 * d → 2 ^ n ≤ 10000 ^ d := fun {n} h => by
  refine Nat.le_trans (Nat.pow_le_pow_right (by omega) h) ?_
  rw [Nat.pow_mul]
  exact Nat.pow_le_pow_left (by decide) d
theorem Can.last : ∀ {l : List Nat}, Can l → ∀ h : 0 < l.length, l[l.length - 1]'(by omega) ≠ 0
  | [a], hc, h => hc.2.2 rfl
  | a :: b :: l, hc, h => by
    have := Can.last hc.2.1 (by simp)
    simpa using this

/-! ### Numbers and places -/
theorem natS_ans {l : List Nat} (h : Can l) (hl : l.length ≤ 900) (hv : val l ≤ 9223372036854775807) : Ans 135 s_spec_NatOf ((val l : Int), ()) ((toI l, ()), ()) := by
  have key : ∀ (l : List Nat) (acc : List Int), Can l → acc.length + l.length ≤ 1000 → val l ≤ 9223372036854775807 → Tq (l.length + 1) (fun k q => spec_NatOf.L0 (cl k) k q (val l : Int) acc) (· = ((acc ++ toI l, ()), ())) := by
    intro l
    induction l with
    | nil => intro acc _ _ _; exact .succ (.ret (by rw [show toI [] = [] from rfl, List.append_nil]))
    | cons a l ih =>
      intro acc h hl hv
      have hp := h.pos
      rw [List.length_cons] at hl
      have e1 : (val (a :: l) : Int).tmod 10000 = (a : Int) := by
        have h1 := h.1
        show (((a + 10000 * val l) % 10000 : Nat) : Int) = a
        congr 1; omega
      have e2 : (val (a :: l) : Int).tdiv 10000 = (val l : Int) := by
        have h1 := h.1
        show (((a + 10000 * val l) / 10000 : Nat) : Int) = val l
        congr 1; omega
      have hvl : val l ≤ 9223372036854775807 := by have hv : a + 10000 * val l ≤ _ := hv; omega
      refine .succ (.bt (decide_eq_true (by omega)) (.bt (ap2 (by omega)) ?_))
      have ih := ih (acc ++ [(a : Int)]) h.2.1 (by rw [List.length_append, List.length_singleton]; omega) hvl
      rw [List.append_assoc] at ih
      simp only [e1, e2, w64n hvl]
      exact ih
  exact (Gv.of (fun k => spec_NatOf.F_eq (cl k) k _) (key l [] h (by rw [List.length_nil]; omega) hv).diag).ans
theorem natI_ans {l : List Nat} (h : Can l) (hl : l.length ≤ 900) (hv : val l ≤ 9223372036854775807) : Ans 158 s_impl_NatOf ((val l : Int), ()) ((toI l, ()), ()) := by
  have key : ∀ (l : List Nat) (acc : List Int), Can l → acc.length + l.length ≤ 1000 → val l ≤ 9223372036854775807 → Tq (l.length + 1) (fun k q => impl_NatOf.L0 (cl k) k q (val l : Int) acc) (· = ((acc ++ toI l, ()), ())) := by
    intro l
    induction l with
    | nil => intro acc _ _ _; exact .succ (.ret (by rw [show toI [] = [] from rfl, List.append_nil]))
    | cons a l ih =>
      intro acc h hl hv
      have hp := h.pos
      rw [List.length_cons] at hl
      have e1 : (val (a :: l) : Int).tmod 10000 = (a : Int) := by
        have h1 := h.1
        show (((a + 10000 * val l) % 10000 : Nat) : Int) = a
        congr 1; omega
      have e2 : (val (a :: l) : Int).tdiv 10000 = (val l : Int) := by
        have h1 := h.1
        show (((a + 10000 * val l) / 10000 : Nat) : Int) = val l
        congr 1; omega
      have hvl : val l ≤ 9223372036854775807 := by have hv : a + 10000 * val l ≤ _ := hv; omega
      refine .succ (.bt (decide_eq_true (by omega)) (.bt (ap2 (by omega)) ?_))
      have ih := ih (acc ++ [(a : Int)]) h.2.1 (by rw [List.length_append, List.length_singleton]; omega) hvl
      rw [List.append_assoc] at ih
      simp only [e1, e2, w64n hvl]
      exact ih
  exact (Gv.of (fun k => impl_NatOf.F_eq (cl k) k _) (key l [] h (by rw [List.length_nil]; omega) hv).diag).ans

def PlaceK (k : Nat) : Prop := ∀ (a : List Nat) (i : Nat), cl k 165 s_impl_great_place (toI a, (i : Int), ()) = some ((((a.getD i 0 : Nat) : Int), ()), ())
theorem getD_lt {a : List Nat} {i : Nat} (h : i < a.length) : a.getD i 0 = a[i] := by rw [List.getD_eq_getElem?_getD, List.getElem?_eq_getElem h]; rfl
theorem getD_ge {a : List Nat} {i : Nat} (h : a.length ≤ i) : a.getD i 0 = 0 := by rw [List.getD_eq_getElem?_getD, List.getElem?_eq_none h]; rfl
theorem place_ev : Ev PlaceK := Ev.succ fun k a i => by
  rw [cl_succ, impl_great_place.F_eq (cl k) k (toI a) (i : Int)]
  unfold impl_great_place.F impl_great_place.Fm
  by_cases h : i < a.length
  · rw [getD_lt h]
    exact bif_t (dlt (by rw [toI_len]; exact h)) (bif_t (dle0 i) (bind_k (by rw [Int.toNat_natCast]; exact toI_at h) rfl))
  · rw [getD_ge (by omega)]
    exact bif_f (dnlt (by rw [toI_len]; omega)) rfl
def LimbK (k : Nat) : Prop := ∀ (a : List Nat) (i : Nat), cl k 141 s_spec_l1Limb (toI a, (i : Int), ()) = some ((((a.getD i 0 : Nat) : Int), ()), ())
theorem limb_ev : Ev LimbK := Ev.succ fun k a i => by
  rw [cl_succ, spec_l1Limb.F_eq (cl k) k (toI a) (i : Int)]
  unfold spec_l1Limb.F spec_l1Limb.Fm
  by_cases h : i < a.length
  · rw [getD_lt h]
    exact bif_t (dlt (by rw [toI_len]; exact h)) (bif_t (dle0 i) (bind_k (by rw [Int.toNat_natCast]; exact toI_at h) rfl))
  · rw [getD_ge (by omega)]
    exact bif_f (dnlt (by rw [toI_len]; omega)) rfl

/-! ### Sums, with what is carried -/
def addC : List Nat → List Nat → Nat → List Nat
  | [], [], c => if c = 0 then [] else [c]
  | a :: xs, [], c => (a + c) % 10000 :: addC xs [] ((a + c) / 10000)
  | [], b :: ys, c => (b + c) % 10000 :: addC [] ys ((b + c) / 10000)
  | a :: xs, b :: ys, c => (a + b + c) % 10000 :: addC xs ys ((a + b + c) / 10000)
termination_by a b => a.length + b.length
theorem addC_val : ∀ (a b : List Nat) (c : Nat), val (addC a b c) = val a + val b + c
  | [], [], c => by
    rw [addC]
    by_cases h : c = 0
    · rw [if_pos h, h]; rfl
    · rw [if_neg h]; show c + 10000 * 0 = 0 + 0 + c; omega
  | a :: xs, [], c => by
    have h := addC_val xs [] ((a + c) / 10000)
    rw [addC]
    show (a + c) % 10000 + 10000 * val (addC xs [] ((a + c) / 10000)) = a + 10000 * val xs + 0 + c
    rw [h]; show _ + 10000 * (val xs + 0 + _) = _; omega
  | [], b :: ys, c => by
    have h := addC_val [] ys ((b + c) / 10000)
    rw [addC]
    show (b + c) % 10000 + 10000 * val (addC [] ys ((b + c) / 10000)) = 0 + (b + 10000 * val ys) + c
    rw [h]; show _ + 10000 * (0 + val ys + _) = _; omega
  | a :: xs, b :: ys, c => by
    have h := addC_val xs ys ((a + b + c) / 10000)
    rw [addC]
    show (a + b + c) % 10000 + 10000 * val (addC xs ys ((a + b + c) / 10000)) = a + 10000 * val xs + (b + 10000 * val ys) + c
    rw [h]; omega
termination_by a b => a.length + b.length
theorem addC_can : ∀ {a b : List Nat} {c : Nat}, Can a → Can b → c ≤ 1 → Can (addC a b c) ∧ (addC a b c = [] → a = [] ∧ b = [] ∧ c = 0)
  | [], [], c, _, _, hc => by
    rw [addC]
    by_cases h : c = 0
    · rw [if_pos h]; exact ⟨trivial, fun _ => ⟨rfl, rfl, h⟩⟩
    · rw [if_neg h]; exact ⟨⟨by omega, trivial, fun _ => h⟩, fun e => by cases e⟩
  | a :: xs, [], c, ha, hb, hc => by
    have h1 := ha.1
    have h := addC_can (a := xs) (b := []) (c := (a + c) / 10000) ha.2.1 trivial (by omega)
    rw [addC]
    refine ⟨⟨by omega, h.1, fun e => ?_⟩, fun e => by cases e⟩
    have e := h.2 e
    have := ha.2.2 e.1
    omega
  | [], b :: ys, c, ha, hb, hc => by
    have h1 := hb.1
    have h := addC_can (a := []) (b := ys) (c := (b + c) / 10000) trivial hb.2.1 (by omega)
    rw [addC]
    refine ⟨⟨by omega, h.1, fun e => ?_⟩, fun e => by cases e⟩
    have e := h.2 e
    have := hb.2.2 e.2.1
    omega
  | a :: xs, b :: ys, c, ha, hb, hc => by
    have h1 := ha.1
    have h2 := hb.1
    have h := addC_can (a := xs) (b := ys) (c := (a + b + c) / 10000) ha.2.1 hb.2.1 (by omega)
    rw [addC]
    refine ⟨⟨by omega, h.1, fun e => ?_⟩, fun e => by cases e⟩
    have e := h.2 e
    have := ha.2.2 e.1
    omega
termination_by a b => a.length + b.length
theorem addC_dig (x y : Nat) : addC (dig x) (dig y) 0 = dig (x + y) := by
  have h := (addC_can (dig_can x) (dig_can y) (c := 0) (by omega)).1.dig
  rw [addC_val, dig_val, dig_val, Nat.add_zero] at h
  exact h
theorem drop_at (a : List Nat) (i : Nat) : (i < a.length ∧ a.drop i = a.getD i 0 :: a.drop (i + 1)) ∨ (a.length ≤ i ∧ a.getD i 0 = 0 ∧ a.drop i = [] ∧ a.drop (i + 1) = []) := by
  by_cases h : i < a.length
  · exact .inl ⟨h, by rw [List.drop_eq_getElem_cons h, getD_lt h]⟩
  · exact .inr ⟨by omega, getD_ge (by omega), List.drop_of_length_le (by omega), List.drop_of_length_le (by omega)⟩
theorem addC_step (a b : List Nat) (i c : Nat) (h : i < a.length ∨ i < b.length) : addC (a.drop i) (b.drop i) c = (a.getD i 0 + b.getD i 0 + c) % 10000 :: addC (a.drop (i + 1)) (b.drop (i + 1)) ((a.getD i 0 + b.getD i 0 + c) / 10000) := by
  rcases drop_at a i with ⟨h1, h2⟩ | ⟨h1, h2, h3, h4⟩ <;> rcases drop_at b i with ⟨g1, g2⟩ | ⟨g1, g2, g3, g4⟩
  · rw [h2, g2, addC]
  · rw [h2, g3, g2, g4, addC]; simp only [Nat.add_zero]
  · rw [h3, h2, h4, g2, addC, Nat.zero_add]
  · omega

theorem plus_ans {a b : List Nat} (ha : ∀ x ∈ a, x < 10000) (hb : ∀ x ∈ b, x < 10000) (la : a.length ≤ 400) (lb : b.length ≤ 400) : Ans 159 s_impl_great_plus (toI a, toI b, ()) ((toI (addC a b 0), ()), ()) := by
  have hga : ∀ i, a.getD i 0 < 10000 := fun i => by
    by_cases h : i < a.length
    · rw [getD_lt h]; exact ha _ (List.getElem_mem h)
    · rw [getD_ge (by omega)]; omega
  have hgb : ∀ i, b.getD i 0 < 10000 := fun i => by
    by_cases h : i < b.length
    · rw [getD_lt h]; exact hb _ (List.getElem_mem h)
    · rw [getD_ge (by omega)]; omega
  have key : ∀ (n i c : Nat) (out : List Int), (a.length - i) + (b.length - i) ≤ n → c ≤ 1 → out.length ≤ i → i ≤ 1000 - n → n ≤ 1000 → i ≤ 401 →
      Tq (n + 2) (fun k q => impl_great_plus.L0 (cl k) k (toI a) (toI b) q (c : Int) (i : Int) out) (· = ((out ++ toI (addC (a.drop i) (b.drop i) c), ()), ())) := by
    intro n
    induction n with
    | zero =>
      intro i c out hn hc ho hi _ hi2
      have h1 : a.length ≤ i := by omega
      have h2 : b.length ≤ i := by omega
      rw [List.drop_of_length_le h1, List.drop_of_length_le h2, addC]
      refine .succ (.bf (dnlt (by rw [toI_len]; exact h1)) (.bf (dnlt (by rw [toI_len]; exact h2)) ?_))
      by_cases e : c = 0
      · subst e
        exact .bf rfl (.ret (by rw [if_pos rfl]; show ((out, ()), ()) = ((out ++ [], ()), ()); rw [List.append_nil]))
      · have e : c = 1 := by omega
        subst e
        refine .bt rfl (.bind (Ans.tq (place_ev.mono fun k hk => hk a i)) fun x hx => ?_)
        subst hx
        refine .bind (Ans.tq (place_ev.mono fun k hk => hk b i)) fun x hx => ?_
        subst hx
        rw [getD_ge h1, getD_ge h2]
        refine .bt (ap2 (by omega)) ?_
        have hw : IntKind.i64.wrap ((i : Int) + 1) = ((i + 1 : Nat) : Int) := ws (n := 5000) (by omega) (by omega)
        show Tq 1 (fun k q => impl_great_plus.L0 (cl k) k (toI a) (toI b) q (IntKind.i64.wrap _) (IntKind.i64.wrap ((i : Int) + 1)) (out ++ [(1 : Int)])) _
        rw [hw]
        exact .succ (.bf (dnlt (by rw [toI_len]; omega)) (.bf (dnlt (by rw [toI_len]; omega)) (.bf rfl (.ret rfl))))
    | succ n ih =>
      intro i c out hn hc ho hi hn2 hi2
      by_cases h : i < a.length ∨ i < b.length
      · rw [addC_step a b i c h]
        have hx := hga i
        have hy := hgb i
        have hw : IntKind.i64.wrap ((i : Int) + 1) = ((i + 1 : Nat) : Int) := ws (n := 5000) (by omega) (by omega)
        have hs : IntKind.i64.wrap (IntKind.i64.wrap (((a.getD i 0 : Nat) : Int) + ((b.getD i 0 : Nat) : Int)) + (c : Int)) = ((a.getD i 0 + b.getD i 0 + c : Nat) : Int) := by
          rw [w64 (x := ((a.getD i 0 : Nat) : Int) + ((b.getD i 0 : Nat) : Int)) (by omega) (by omega), w64 (by omega) (by omega)]; omega
        have e1 : ((a.getD i 0 + b.getD i 0 + c : Nat) : Int).tmod 10000 = (((a.getD i 0 + b.getD i 0 + c) % 10000 : Nat) : Int) := rfl
        have e2 : ((a.getD i 0 + b.getD i 0 + c : Nat) : Int).tdiv 10000 = (((a.getD i 0 + b.getD i 0 + c) / 10000 : Nat) : Int) := rfl
        have ih := ih (i + 1) ((a.getD i 0 + b.getD i 0 + c) / 10000) (out ++ [(((a.getD i 0 + b.getD i 0 + c) % 10000 : Nat) : Int)]) (by omega) (by omega) (by rw [List.length_append, List.length_singleton]; omega) (by omega) (by omega) (by omega)
        rw [List.append_assoc] at ih
        have p1 : Ans 165 s_impl_great_place (toI a, (i : Int), ()) ((((a.getD i 0 : Nat) : Int), ()), ()) := place_ev.mono fun k hk => hk a i
        have p2 : Ans 165 s_impl_great_place (toI b, (i : Int), ()) ((((b.getD i 0 : Nat) : Int), ()), ()) := place_ev.mono fun k hk => hk b i
        have body : Tq (n + 2) (fun k q => (cl k 165 s_impl_great_place (toI a, (i : Int), ())).bind fun y0 => (cl k 165 s_impl_great_place (toI b, (i : Int), ())).bind fun y1 => bif decide ((out.length + [(IntKind.i64.wrap (IntKind.i64.wrap (y0.1.1 + y1.1.1) + (c : Int))).tmod (10000 : Int)].length) * ti2.bytes ≤ (140737488355328 : Nat)) then
            impl_great_plus.L0 (cl k) k (toI a) (toI b) q (IntKind.i64.wrap ((IntKind.i64.wrap (IntKind.i64.wrap (y0.1.1 + y1.1.1) + (c : Int))).tdiv (10000 : Int))) (IntKind.i64.wrap ((i : Int) + (1 : Int))) (out ++ [(IntKind.i64.wrap (IntKind.i64.wrap (y0.1.1 + y1.1.1) + (c : Int))).tmod (10000 : Int)]) else none)
            (· = ((out ++ toI ((a.getD i 0 + b.getD i 0 + c) % 10000 :: addC (a.drop (i + 1)) (b.drop (i + 1)) ((a.getD i 0 + b.getD i 0 + c) / 10000)), ()), ())) := by
          refine .bind p1.tq fun x hx => ?_
          subst hx
          refine .bind p2.tq fun x hx => ?_
          subst hx
          refine .bt (ap2 (by omega)) ?_
          simp only [hs, hw, e1, e2, w64n (show (a.getD i 0 + b.getD i 0 + c) / 10000 ≤ 9223372036854775807 by omega)]
          exact ih
        by_cases h1 : i < a.length
        · exact .succ (.bt (dlt (by rw [toI_len]; exact h1)) body)
        · exact .succ (.bf (dnlt (by rw [toI_len]; omega)) (.bt (dlt (by rw [toI_len]; omega)) body))
      · have ih := ih i c out (by omega) hc ho (by omega) (by omega) hi2
        obtain ⟨r, hr, k0, ih⟩ := ih
        exact ⟨r, hr, k0, fun k hk q hq => ih k hk q (by omega)⟩
  have := key (a.length + b.length) 0 0 [] (by omega) (by omega) (Nat.le_refl _) (by omega) (by omega) (by omega)
  exact (Gv.of (fun k => impl_great_plus.F_eq (cl k) k (toI a) (toI b)) this.diag).ans

theorem doubled_ans (n t : Nat) (hn : n ≤ 4096) (ht : t ≤ 300) : Ans 136 s_impl_doubled ((n : Int), (t : Int), ()) ((toI (dig (n * 2 ^ t)), ()), ()) := by
  have hlen : ∀ s, s ≤ 300 → (dig (n * 2 ^ s)).length ≤ 25 := fun s hs => dig_len (by
    have h1 := pow2_lt 24 (n := 12 + s) (by omega)
    have h2 : n * 2 ^ s ≤ 2 ^ (12 + s) := by rw [Nat.pow_add]; exact Nat.mul_le_mul_right _ (by omega)
    have h3 : 10000 ^ 24 < 10000 ^ 25 := Nat.pow_lt_pow_right (by omega) (by omega)
    omega)
  have key : ∀ (s j : Nat), s + j = t → Tq (s + 1) (fun k q => impl_doubled.L0 (cl k) k q (s : Int) (toI (dig (n * 2 ^ j)))) (· = ((toI (dig (n * 2 ^ t)), ()), ())) := by
    intro s
    induction s with
    | zero =>
      intro j hj
      have : j = t := by omega
      subst this
      exact .succ (.ret rfl)
    | succ s ih =>
      intro j hj
      have hsm := (dig_can (n * 2 ^ j)).small
      have hl := hlen j (by omega)
      have hp := plus_ans hsm hsm (by omega) (by omega)
      rw [addC_dig] at hp
      refine .succ (.bt (decide_eq_true (by omega)) (.bind hp.tq fun x hx => ?_))
      subst hx
      have ih := ih (j + 1) (by omega)
      rw [Nat.pow_succ, ← Nat.mul_assoc, Nat.mul_comm _ 2, Nat.two_mul] at ih
      have hw : IntKind.i64.wrap (((s + 1 : Nat) : Int) - 1) = (s : Int) := by rw [w64 (by omega) (by omega)]; omega
      simp only [hw]
      exact ih
  have h0 := natI_ans (dig_can n) (Nat.le_trans (dig_len (d := 1) (by omega)) (by omega)) (by rw [dig_val]; omega)
  rw [dig_val] at h0
  refine (Gv.of (fun k => impl_doubled.F_eq (cl k) k (n : Int) (t : Int)) (.bind h0.tq fun x hx => ?_)).ans
  subst hx
  have := key t 0 rfl
  rw [Nat.pow_zero, Nat.mul_one] at this
  exact this.diag

/-! ### The reference's sums -/
def trim : List Nat → List Nat
  | [] => []
  | x :: l => match trim l with
    | [] => if x = 0 then [] else [x]
    | y :: t => x :: y :: t
theorem trim_ok : ∀ {l : List Nat}, (∀ x ∈ l, x < 10000) → Can (trim l) ∧ val (trim l) = val l
  | [], _ => ⟨trivial, rfl⟩
  | x :: l, h => by
    have hx := h x List.mem_cons_self
    obtain ⟨h1, h2⟩ := trim_ok (l := l) fun y hy => h y (List.mem_cons_of_mem _ hy)
    unfold trim
    cases e : trim l with
    | nil =>
      rw [e] at h2
      have h2 : 0 = val l := h2
      dsimp only
      by_cases hx0 : x = 0
      · rw [if_pos hx0]
        refine ⟨trivial, ?_⟩
        show 0 = x + 10000 * val l
        omega
      · rw [if_neg hx0]
        refine ⟨⟨hx, trivial, fun _ => hx0⟩, ?_⟩
        show x + 10000 * 0 = x + 10000 * val l
        omega
    | cons y t =>
      rw [e] at h1 h2
      dsimp only
      refine ⟨⟨hx, h1, fun e => by cases e⟩, ?_⟩
      show x + 10000 * val (y :: t) = x + 10000 * val l
      rw [h2]
theorem trim_app (x : Nat) : ∀ t : List Nat, trim (t ++ [x]) = if x = 0 then trim t else t ++ [x]
  | [] => by
    show trim [x] = _
    unfold trim
    rfl
  | y :: t => by
    have ih := trim_app x t
    show trim (y :: (t ++ [x])) = _
    unfold trim
    rw [ih]
    by_cases hx : x = 0
    · simp only [if_pos hx]
    · simp only [if_neg hx]
      cases t with
      | nil => rfl
      | cons z t => rfl
theorem l1Trim_ans (l : List Nat) (hl : l.length ≤ 1000) : Ans 162 s_spec_l1Trim (toI l, ()) ((toI (trim l), ()), ()) := by
  have fin : ∀ n, n ≤ l.length → decide (((0 : Nat) + (List.take ((n : Int).toNat - (0 : Nat)) (List.drop (0 : Nat) (toI l))).length) * ti2.bytes ≤ (140737488355328 : Nat)) = true := fun n hn => decide_eq_true (by
    show (0 + (List.take ((n : Int).toNat - 0) (List.drop 0 (toI l))).length) * 8 ≤ _
    rw [List.length_take, List.drop_zero, toI_len]; omega)
  have e : ∀ n : Nat, [] ++ List.take ((n : Int).toNat - (0 : Nat)) (List.drop (0 : Nat) (toI l)) = toI (l.take n) := fun n => by
    rw [List.nil_append, List.drop_zero, Int.toNat_natCast, Nat.sub_zero]; simp [toI]
  have key : ∀ (n : Nat), n ≤ l.length → Tq (n + 1) (fun k q => spec_l1Trim.L0 (cl k) k (toI l) q (n : Int)) (· = ((toI (trim (l.take n)), ()), ())) := by
    intro n
    induction n with
    | zero =>
      intro hn
      refine .succ (.eq (.ret (r := ((toI (trim (l.take 0)), ()), ())) rfl) fun k q => ?_)
      unfold spec_l1Trim.L0 spec_l1Trim.step0
      exact bif_f rfl (bif_t rfl (bif_t (by simp) (bif_t (fin 0 hn) (by rw [e 0]; rfl))))
    | succ n ih =>
      intro hn
      have hn : n < l.length := by omega
      have hw : IntKind.i64.wrap (((n + 1 : Nat) : Int) - 1) = (n : Int) := by rw [w64 (by omega) (by omega)]; omega
      have hg : lget (toI l) (n : Int).toNat = some (l[n] : Int) := by rw [Int.toNat_natCast]; exact toI_at hn
      refine .succ (.bt (decide_eq_true (by omega)) ?_)
      simp only [hw]
      refine .bt (dle0 n) (.some hg ?_)
      rw [List.take_succ_eq_append_getElem hn, trim_app]
      by_cases hz : l[n] = 0
      · rw [if_pos hz]
        exact .bt (by rw [hz]; rfl) (ih (by omega))
      · rw [if_neg hz, ← List.take_succ_eq_append_getElem hn]
        refine .bf (beq_false_of_ne (by omega)) (.bt (dle0 _) (.bt ?_ (.bt (fin (n + 1) hn) (.ret (by rw [e (n + 1)])))))
        rw [Int.toNat_natCast, toI_len, decide_eq_true (show n + 1 ≤ l.length from hn)]; simp
  have := key l.length (Nat.le_refl _)
  rw [List.take_length] at this
  rw [← toI_len] at this
  exact (Gv.of (fun k => spec_l1Trim.F_eq (cl k) k (toI l)) this.diag).ans
def carryL : List Nat → Nat → List Nat
  | [], c => dig c
  | x :: l, c => (x + c) % 10000 :: carryL l ((x + c) / 10000)
theorem carryL_ok : ∀ (l : List Nat) (c : Nat), val (carryL l c) = val l + c ∧ ∀ x ∈ carryL l c, x < 10000
  | [], c => ⟨by rw [carryL, dig_val]; show c = 0 + c; omega, (dig_can c).small⟩
  | x :: l, c => by
    obtain ⟨h1, h2⟩ := carryL_ok l ((x + c) / 10000)
    constructor
    · show (x + c) % 10000 + 10000 * val (carryL l ((x + c) / 10000)) = x + 10000 * val l + c
      rw [h1]; omega
    · intro y hy
      rcases List.mem_cons.1 hy with rfl | hy
      · omega
      · exact h2 y hy
theorem carryL_len : ∀ (l : List Nat) (c : Nat), (∀ x ∈ l, x ≤ 1000000000000) → c ≤ 1000000000000 → (carryL l c).length ≤ l.length + 4
  | [], c, _, hc => by rw [carryL]; exact Nat.le_trans (dig_len (d := 4) (by omega)) (by rw [List.length_nil]; omega)
  | x :: l, c, h, hc => by
    have hx := h x List.mem_cons_self
    have := carryL_len l ((x + c) / 10000) (fun y hy => h y (List.mem_cons_of_mem _ hy)) (by omega)
    show (carryL l ((x + c) / 10000)).length + 1 ≤ l.length + 1 + 4
    omega
theorem carry_ans (l : List Nat) (hl : l.length ≤ 300) (hb : ∀ x ∈ l, x ≤ 1000000000000) : Ans 142 s_spec_l1Carry (toI l, ()) ((toI (dig (val l)), ()), ()) := by
  have htrim : trim (carryL l 0) = dig (val l) := by
    obtain ⟨h1, h2⟩ := carryL_ok l 0
    obtain ⟨h3, h4⟩ := trim_ok h2
    rw [h3.dig, h4, h1, Nat.add_zero]
  have htot : (carryL l 0).length ≤ 304 := Nat.le_trans (carryL_len l 0 hb (by omega)) (by omega)
  have ht := l1Trim_ans (carryL l 0) (by omega)
  rw [htrim] at ht
  -- behind the end: what is carried
  have tail : ∀ (m : List Nat) (i : Nat) (out : List Nat), Can m → val m ≤ 1000000000000 → l.length ≤ i → i ≤ 1000 - m.length → m.length ≤ 10 → out ++ m = carryL l 0 → Tq (m.length + 1) (fun k q => spec_l1Carry.L0 (cl k) k (toI l) q (val m : Int) (i : Int) (toI out)) (· = ((toI (dig (val l)), ()), ())) := by
    intro m
    induction m with
    | nil =>
      intro i out _ _ hi _ _ he
      rw [List.append_nil] at he
      subst he
      refine .succ (.bf (dnlt (by rw [toI_len]; exact hi)) (.bf rfl (.bind ht.tq fun x hx => ?_)))
      subst hx
      exact .ret rfl
    | cons a m ih =>
      intro i out hc hv hi hi2 hm he
      have hp := hc.pos
      have h1 := hc.1
      rw [List.length_cons] at hi2 hm
      have hv' : a + 10000 * val m ≤ 1000000000000 := hv
      have hs : IntKind.i64.wrap (((0 : Nat) : Int) + ((val (a :: m) : Nat) : Int)) = ((val (a :: m) : Nat) : Int) := by rw [w64 (by omega) (by omega)]; omega
      have e1 : ((val (a :: m) : Nat) : Int).tmod 10000 = (a : Int) := by
        show (((a + 10000 * val m) % 10000 : Nat) : Int) = a
        congr 1; omega
      have e2 : ((val (a :: m) : Nat) : Int).tdiv 10000 = (val m : Int) := by
        show (((a + 10000 * val m) / 10000 : Nat) : Int) = val m
        congr 1; omega
      have p1 : Ans 141 s_spec_l1Limb (toI l, (i : Int), ()) ((((0 : Nat) : Int), ()), ()) := limb_ev.mono fun k hk => by
        have := hk l i
        rw [getD_ge hi] at this
        exact this
      have hol : out.length ≤ 304 := by have := congrArg List.length he; rw [List.length_append] at this; omega
      refine .succ (.bf (dnlt (by rw [toI_len]; exact hi)) (.bt (decide_eq_true (by omega)) (.bind p1.tq fun x hx => ?_)))
      subst hx
      refine .bt (ap2 (by rw [toI_len]; omega)) ?_
      have ih := ih (i + 1) (out ++ [a]) hc.2.1 (by omega) (by omega) (by omega) (by omega) (by rw [List.append_assoc]; exact he)
      rw [toI_app] at ih
      have hw : IntKind.i64.wrap ((i : Int) + 1) = ((i + 1 : Nat) : Int) := ws (n := 5000) (by omega) (by omega)
      simp only [hs, e1, e2, hw, w64n (show val m ≤ 9223372036854775807 by omega)]
      exact ih
  have key : ∀ (d i c : Nat) (out : List Nat), l.length - i = d → i ≤ l.length → c ≤ 1000000000000 → out ++ carryL (l.drop i) c = carryL l 0 → Tq (d + 12) (fun k q => spec_l1Carry.L0 (cl k) k (toI l) q (c : Int) (i : Int) (toI out)) (· = ((toI (dig (val l)), ()), ())) := by
    intro d
    induction d with
    | zero =>
      intro i c out hd hi hc he
      rw [List.drop_of_length_le (by omega), carryL] at he
      have hdl : (dig c).length ≤ 4 := dig_len (by omega)
      have := tail (dig c) i out (dig_can c) (by rw [dig_val]; exact hc) (by omega) (by omega) (by omega) he
      rw [dig_val] at this
      obtain ⟨r, hr, k0, h⟩ := this
      exact ⟨r, hr, k0, fun k hk q hq => h k hk q (by omega)⟩
    | succ d ih =>
      intro i c out hd hi hc he
      have hi : i < l.length := by omega
      have hx := hb _ (List.getElem_mem hi)
      rw [List.drop_eq_getElem_cons hi, carryL] at he
      have hs : IntKind.i64.wrap ((l[i] : Int) + (c : Int)) = ((l[i] + c : Nat) : Int) := by rw [w64 (by omega) (by omega)]; omega
      have p1 : Ans 141 s_spec_l1Limb (toI l, (i : Int), ()) (((l[i] : Int), ()), ()) := limb_ev.mono fun k hk => by
        have := hk l i
        rw [getD_lt hi] at this
        exact this
      have hol : out.length ≤ 304 := by have := congrArg List.length he; rw [List.length_append] at this; omega
      refine .succ (.bt (dlt (by rw [toI_len]; exact hi)) (.bind p1.tq fun x hx => ?_))
      subst hx
      refine .bt (ap2 (by rw [toI_len]; omega)) ?_
      have ih := ih (i + 1) ((l[i] + c) / 10000) (out ++ [(l[i] + c) % 10000]) (by omega) (by omega) (by omega) (by rw [List.append_assoc]; exact he)
      rw [toI_app] at ih
      have hw : IntKind.i64.wrap ((i : Int) + 1) = ((i + 1 : Nat) : Int) := ws (n := 5000) (by omega) (by omega)
      have e1 : ((l[i] + c : Nat) : Int).tmod 10000 = (((l[i] + c) % 10000 : Nat) : Int) := rfl
      have e2 : ((l[i] + c : Nat) : Int).tdiv 10000 = (((l[i] + c) / 10000 : Nat) : Int) := rfl
      simp only [hs, e1, e2, hw, w64n (show (l[i] + c) / 10000 ≤ 9223372036854775807 by omega)]
      exact ih
  have := key l.length 0 0 [] rfl (Nat.zero_le _) (by omega) (by rw [List.drop_zero, List.nil_append])
  exact (Gv.of (fun k => spec_l1Carry.F_eq (cl k) k (toI l)) this.diag).ans
theorem natOk_ans {l : List Nat} (h : Can l) (hl : l.length ≤ 100) : Ans 143 s_spec_NatOk (toI l, ()) ((true, ()), ()) := by
  have key : ∀ (d i : Nat), l.length - i = d → i ≤ l.length → Tq (d + 1) (fun k q => spec_NatOk.L0 (cl k) k (toI l) q (i : Int)) (· = ((true, ()), ())) := by
    intro d
    induction d with
    | zero =>
      intro i hd hi
      refine .succ (.bf (dnlt (by rw [toI_len]; omega)) (.bt (decide_eq_true (by rw [toI_len]; omega)) ?_))
      by_cases e : l.length = 0
      · exact .bt (by rw [toI_len, e]; rfl) (.ret rfl)
      · have hw : IntKind.i64.wrap (((toI l).length : Int) - 1) = ((l.length - 1 : Nat) : Int) := by rw [toI_len, w64 (by omega) (by omega)]; omega
        refine .bf (beq_false_of_ne (by rw [toI_len]; omega)) ?_
        simp only [hw]
        refine .bt (dle0 _) (.some (by rw [Int.toNat_natCast]; exact toI_at (by omega)) (.ret ?_))
        have := h.last (by omega)
        rw [bne_iff_ne.2 (by omega)]
    | succ d ih =>
      intro i hd hi
      have hi : i < l.length := by omega
      have hx := h.small _ (List.getElem_mem hi)
      have p1 : Ans 88 s_spec_l1In ((l[i] : Int), (0 : Int), (9999 : Int), ()) ((true, ()), ()) := l1In_ev.mono fun k hk => by
        rw [hk, decide_eq_true (by omega), decide_eq_true (by omega)]; rfl
      refine .succ (.bt (dlt (by rw [toI_len]; exact hi)) (.bt (dle0 i) (.some (by rw [Int.toNat_natCast]; exact toI_at hi) (.bind p1.tq fun x hx => ?_))))
      subst hx
      refine .bf rfl ?_
      have hw : IntKind.i64.wrap ((i : Int) + 1) = ((i + 1 : Nat) : Int) := ws hi (by omega)
      simp only [hw]
      exact ih (i + 1) (by omega) (by omega)
  exact (Gv.of (fun k => spec_NatOk.F_eq (cl k) k (toI l)) (key _ 0 rfl (Nat.zero_le _)).diag).ans
theorem l1Both_ans {a b : List Nat} (ha : Can a) (hb : Can b) (la : a.length ≤ 100) (lb : b.length ≤ 100) : Ans 140 s_spec_l1Both (toI a, toI b, ()) ((true, ()), ()) := by
  refine (Gv.of (fun k => spec_l1Both.F_eq (cl k) k (toI a) (toI b)) (.bind (natOk_ans ha la).tq fun x hx => ?_)).ans
  subst hx
  refine .bt rfl (.bind (natOk_ans hb lb).tq fun x hx => ?_)
  subst hx
  exact .ret rfl
def zipS : List Nat → List Nat → List Nat
  | [], b => b
  | a, [] => a
  | x :: a, y :: b => (x + y) :: zipS a b
theorem zipS_val : ∀ a b : List Nat, val (zipS a b) = val a + val b
  | [], b => by rw [zipS]; show _ = 0 + val b; omega
  | x :: a, [] => by rw [zipS]; show _ = _ + 0; omega; exact fun h => by cases h
  | x :: a, y :: b => by
    have := zipS_val a b
    rw [zipS]
    show x + y + 10000 * val (zipS a b) = x + 10000 * val a + (y + 10000 * val b)
    rw [this]; omega
theorem zipS_nil (a : List Nat) : zipS a [] = a := by cases a <;> rfl
theorem zipS_step (a b : List Nat) (i : Nat) (h : i < a.length ∨ i < b.length) : zipS (a.drop i) (b.drop i) = (a.getD i 0 + b.getD i 0) :: zipS (a.drop (i + 1)) (b.drop (i + 1)) := by
  rcases drop_at a i with ⟨h1, h2⟩ | ⟨h1, h2, h3, h4⟩ <;> rcases drop_at b i with ⟨g1, g2⟩ | ⟨g1, g2, g3, g4⟩
  · rw [h2, g2, zipS]
  · rw [h2, g3, g2, g4, zipS_nil, zipS_nil]; simp only [Nat.add_zero]
  · rw [h3, h2, h4, g2, Nat.zero_add]; rfl
  · omega
theorem zipS_le {M : Nat} : ∀ {a b : List Nat}, (∀ x ∈ a, x ≤ M) → (∀ x ∈ b, x ≤ M) → ∀ x ∈ zipS a b, x ≤ 2 * M
  | [], b, _, hb, x, hx => by rw [zipS] at hx; have := hb x hx; omega
  | y :: a, [], ha, _, x, hx => by rw [zipS_nil] at hx; have := ha x hx; omega
  | y :: a, z :: b, ha, hb, x, hx => by
    rw [zipS] at hx
    rcases List.mem_cons.1 hx with rfl | hx
    · have := ha y List.mem_cons_self
      have := hb z List.mem_cons_self
      omega
    · exact zipS_le (fun x h => ha x (List.mem_cons_of_mem _ h)) (fun x h => hb x (List.mem_cons_of_mem _ h)) x hx
theorem zipS_len : ∀ a b : List Nat, (zipS a b).length ≤ a.length + b.length
  | [], b => by rw [zipS]; omega
  | y :: a, [] => by rw [zipS_nil]; omega
  | y :: a, z :: b => by
    have := zipS_len a b
    rw [zipS, List.length_cons, List.length_cons, List.length_cons]; omega
theorem addNat_ans {a b : List Nat} (ha : Can a) (hb : Can b) (la : a.length ≤ 100) (lb : b.length ≤ 100) (hr : (dig (val a + val b)).length ≤ 100) : Ans 85 s_spec_AddNat (toI a, toI b, ()) ((toI (dig (val a + val b)), true, ()), ()) := by
  have hz := carry_ans (zipS a b) (Nat.le_trans (zipS_len a b) (by omega)) fun x hx => by
    have := zipS_le (M := 10000) (fun x hx => Nat.le_of_lt (ha.small x hx)) (fun x hx => Nat.le_of_lt (hb.small x hx)) x hx
    omega
  rw [zipS_val] at hz
  have hk := natOk_ans (dig_can (val a + val b)) hr
  have hga : ∀ i, a.getD i 0 < 10000 := fun i => by
    by_cases h : i < a.length
    · rw [getD_lt h]; exact ha.small _ (List.getElem_mem h)
    · rw [getD_ge (by omega)]; omega
  have hgb : ∀ i, b.getD i 0 < 10000 := fun i => by
    by_cases h : i < b.length
    · rw [getD_lt h]; exact hb.small _ (List.getElem_mem h)
    · rw [getD_ge (by omega)]; omega
  have key : ∀ (n i : Nat) (out : List Nat), (a.length - i) + (b.length - i) ≤ n → out.length ≤ i → i ≤ 100 → out ++ zipS (a.drop i) (b.drop i) = zipS a b →
      Tq (n + 1) (fun k q => spec_AddNat.L0 (cl k) k (toI a) (toI b) q (i : Int) (toI out)) (· = ((toI (dig (val a + val b)), true, ()), ())) := by
    intro n
    induction n with
    | zero =>
      intro i out hn ho hi he
      have h1 : a.length ≤ i := by omega
      have h2 : b.length ≤ i := by omega
      rw [List.drop_of_length_le h1, List.drop_of_length_le h2, zipS, List.append_nil] at he
      subst he
      refine .succ (.bf (dnlt (by rw [toI_len]; exact h1)) (.bf (dnlt (by rw [toI_len]; exact h2)) (.bind hz.tq fun x hx => ?_)))
      subst hx
      refine .bind hk.tq fun x hx => ?_
      subst hx
      exact .bf rfl (.ret rfl)
    | succ n ih =>
      intro i out hn ho hi he
      by_cases h : i < a.length ∨ i < b.length
      · rw [zipS_step a b i h] at he
        have hx := hga i
        have hy := hgb i
        have hw : IntKind.i64.wrap ((i : Int) + 1) = ((i + 1 : Nat) : Int) := ws (n := 5000) (by omega) (by omega)
        have hs : IntKind.i64.wrap (((a.getD i 0 : Nat) : Int) + ((b.getD i 0 : Nat) : Int)) = ((a.getD i 0 + b.getD i 0 : Nat) : Int) := by rw [w64 (by omega) (by omega)]; omega
        have ih := ih (i + 1) (out ++ [a.getD i 0 + b.getD i 0]) (by omega) (by rw [List.length_append, List.length_singleton]; omega) (by omega) (by rw [List.append_assoc]; exact he)
        rw [toI_app] at ih
        have p1 : Ans 141 s_spec_l1Limb (toI a, (i : Int), ()) ((((a.getD i 0 : Nat) : Int), ()), ()) := limb_ev.mono fun k hk => hk a i
        have p2 : Ans 141 s_spec_l1Limb (toI b, (i : Int), ()) ((((b.getD i 0 : Nat) : Int), ()), ()) := limb_ev.mono fun k hk => hk b i
        by_cases h1 : i < a.length
        · refine .succ (.bt (dlt (by rw [toI_len]; exact h1)) (.bind p1.tq fun x hx => ?_))
          subst hx
          refine .bind p2.tq fun x hx => ?_
          subst hx
          refine .bt (ap2 (by rw [toI_len]; omega)) ?_
          simp only [hs, hw]
          exact ih
        · refine .succ (.bf (dnlt (by rw [toI_len]; omega)) (.bt (dlt (by rw [toI_len]; omega)) (.bind p1.tq fun x hx => ?_)))
          subst hx
          refine .bind p2.tq fun x hx => ?_
          subst hx
          refine .bt (ap2 (by rw [toI_len]; omega)) ?_
          simp only [hs, hw]
          exact ih
      · have ih := ih i out (by omega) ho hi he
        obtain ⟨r, hr, k0, ih⟩ := ih
        exact ⟨r, hr, k0, fun k hk q hq => ih k hk q (by omega)⟩
  refine (Gv.of (fun k => spec_AddNat.F_eq (cl k) k (toI a) (toI b)) (.bind (l1Both_ans ha hb la lb).tq fun x hx => ?_)).ans
  subst hx
  exact .bf rfl (key _ 0 [] (Nat.le_refl _) (Nat.le_refl _) (by omega) (by rw [List.drop_zero, List.drop_zero, List.nil_append])).diag
theorem pow_len {t : Nat} (h : t ≤ 312) : (dig (2 ^ t)).length ≤ 25 := dig_len (by
  have h1 := pow2_lt 24 (n := t) (by omega)
  have h3 : 10000 ^ 24 < 10000 ^ 25 := Nat.pow_lt_pow_right (by omega) (by omega)
  omega)
theorem power_ans (t : Nat) (ht : t ≤ 300) : Ans 133 s_spec_PowerNat ((t : Int), ()) ((toI (dig (2 ^ t)), true, ()), ()) := by
  have key : ∀ (s j : Nat), s + j = t → Tq (s + 1) (fun k q => spec_PowerNat.L0 (cl k) k q (s : Int) (toI (dig (2 ^ j)))) (· = ((toI (dig (2 ^ t)), true, ()), ())) := by
    intro s
    induction s with
    | zero =>
      intro j hj
      have : j = t := by omega
      subst this
      exact .succ (.ret rfl)
    | succ s ih =>
      intro j hj
      have hl := pow_len (t := j) (by omega)
      have hl2 := pow_len (t := j + 1) (by omega)
      have e : 2 ^ j + 2 ^ j = 2 ^ (j + 1) := by rw [Nat.pow_succ]; omega
      have hp := addNat_ans (dig_can (2 ^ j)) (dig_can (2 ^ j)) (by omega) (by omega) (by rw [dig_val, e]; omega)
      rw [dig_val, e] at hp
      refine .succ (.bt (decide_eq_true (by omega)) (.bind hp.tq fun x hx => ?_))
      subst hx
      have hw : IntKind.i64.wrap (((s + 1 : Nat) : Int) - 1) = (s : Int) := by rw [w64 (by omega) (by omega)]; omega
      simp only [hw]
      exact ih (j + 1) (by omega)
  have p1 : Ans 88 s_spec_l1In ((t : Int), (0 : Int), (1000 : Int), ()) ((true, ()), ()) := l1In_ev.mono fun k hk => by
    rw [hk, decide_eq_true (by omega), decide_eq_true (by omega)]; rfl
  refine (Gv.of (fun k => spec_PowerNat.F_eq (cl k) k (t : Int)) (.bind p1.tq fun x hx => ?_)).ans
  subst hx
  refine .bf rfl ?_
  have := key t 0 rfl
  rw [Nat.pow_zero] at this
  exact this.diag

/-! ### The reference's products -/
theorem val_set : ∀ (l : List Nat) (j x : Nat) (h : j < l.length), val (l.set j (l[j] + x)) = val l + x * 10000 ^ j
  | a :: l, 0, x, _ => by show a + x + 10000 * val l = a + 10000 * val l + x * 1; omega
  | a :: l, j + 1, x, h => by
    have h' : j < l.length := by simpa using h
    have := val_set l j x h'
    show a + 10000 * val (l.set j (l[j] + x)) = a + 10000 * val l + x * 10000 ^ (j + 1)
    rw [this, Nat.pow_succ, Nat.mul_add, ← Nat.mul_assoc x, Nat.mul_comm (x * 10000 ^ j) 10000]
    omega
theorem val_zero : ∀ n : Nat, val (List.replicate n 0) = 0
  | 0 => rfl
  | n + 1 => by rw [List.replicate_succ]; show 0 + 10000 * val (List.replicate n 0) = 0; rw [val_zero n]
theorem mulNat_ans {a b : List Nat} (ha : Can a) (hb : Can b) (la : a.length ≤ 100) (lb : b.length ≤ 100) (hr : (dig (val a * val b)).length ≤ 100) : Ans 134 s_spec_MulNat (toI a, toI b, ()) ((toI (dig (val a * val b)), true, ()), ()) := by
  have key1 : ∀ (i : Nat) (hi : i < a.length) (d m : Nat) (acc : List Nat), b.length - m = d → m ≤ b.length → acc.length = a.length + b.length → (∀ x ∈ acc, x ≤ (i * b.length + m) * 100000000) →
      ∃ acc' : List Nat, acc'.length = a.length + b.length ∧ (∀ x ∈ acc', x ≤ ((i + 1) * b.length) * 100000000) ∧ val acc' = val acc + a[i] * 10000 ^ (i + m) * val (b.drop m) ∧
        ∀ k (r0 : Int → List Int → Option spec_MulNat.R) q, d < q → spec_MulNat.L1 (cl k) k (toI a) (toI b) (i : Int) r0 q (m : Int) (toI acc) = r0 ((i + 1 : Nat) : Int) (toI acc') := by
    intro i hi d
    have hwi : IntKind.i64.wrap ((i : Int) + 1) = ((i + 1 : Nat) : Int) := ws hi (by omega)
    have hib : i * b.length ≤ 100 * 100 := Nat.mul_le_mul (by omega) lb
    induction d with
    | zero =>
      intro m acc hd hm hl hbd
      refine ⟨acc, hl, fun x hx => ?_, ?_, fun k r0 q hq => ?_⟩
      · have := hbd x hx
        have e : (i + 1) * b.length = i * b.length + m := by rw [Nat.succ_mul]; omega
        rw [e]; exact this
      · rw [List.drop_of_length_le (by omega)]; show val acc = val acc + _ * 0; omega
      · obtain ⟨q, rfl⟩ : ∃ p, q = p + 1 := ⟨q - 1, by omega⟩
        unfold spec_MulNat.L1 spec_MulNat.step1
        refine bif_f (dnlt (by rw [toI_len]; omega)) ?_
        rw [hwi]
    | succ d ih =>
      intro m acc hd hm hl hbd
      have hm : m < b.length := by omega
      have hj : i + m < acc.length := by omega
      have hx := ha.small _ (List.getElem_mem hi)
      have hy := hb.small _ (List.getElem_mem hm)
      have hxy : a[i] * b[m] ≤ 100000000 := Nat.mul_le_mul (show a[i] ≤ 10000 by omega) (show b[m] ≤ 10000 by omega)
      have hz := hbd _ (List.getElem_mem hj)
      have hbd2 : (i * b.length + m) * 100000000 ≤ 2000000000000 := by omega
      have hset : ∀ x ∈ acc.set (i + m) (acc[i + m] + a[i] * b[m]), x ≤ (i * b.length + (m + 1)) * 100000000 := fun x hx => by
        have e : (i * b.length + (m + 1)) * 100000000 = (i * b.length + m) * 100000000 + 100000000 := by omega
        rw [e]
        rcases List.mem_or_eq_of_mem_set hx with h | h
        · exact Nat.le_trans (hbd x h) (Nat.le_add_right _ _)
        · rw [h]; exact Nat.add_le_add hz hxy
      obtain ⟨acc', h1, h2, h3, h4⟩ := ih (m + 1) (acc.set (i + m) (acc[i + m] + a[i] * b[m])) (by omega) (by omega) (by rw [List.length_set]; exact hl) hset
      refine ⟨acc', h1, h2, ?_, fun k r0 q hq => ?_⟩
      · rw [h3, val_set, List.drop_eq_getElem_cons hm]
        show _ = val acc + a[i] * 10000 ^ (i + m) * (b[m] + 10000 * val (b.drop (m + 1)))
        have e : 10000 ^ (i + (m + 1)) = 10000 ^ (i + m) * 10000 := by rw [← Nat.add_assoc, Nat.pow_succ]
        rw [e, Nat.mul_add, Nat.add_assoc]
        congr 1
        generalize 10000 ^ (i + m) = z
        generalize val (b.drop (m + 1)) = v
        rw [Nat.mul_assoc a[i] z b[m], Nat.mul_comm z b[m], ← Nat.mul_assoc a[i] b[m] z, ← Nat.mul_assoc a[i] z 10000, Nat.mul_assoc (a[i] * z) 10000 v]
      · obtain ⟨q, rfl⟩ : ∃ p, q = p + 1 := ⟨q - 1, by omega⟩
        have hwim : IntKind.i64.wrap ((i : Int) + (m : Int)) = ((i + m : Nat) : Int) := by rw [w64 (by omega) (by omega)]; omega
        have hwm : IntKind.i64.wrap ((m : Int) + 1) = ((m + 1 : Nat) : Int) := ws hm (by omega)
        have hmul : IntKind.i64.wrap ((a[i] : Int) * (b[m] : Int)) = ((a[i] * b[m] : Nat) : Int) := by
          rw [show (a[i] : Int) * (b[m] : Int) = ((a[i] * b[m] : Nat) : Int) by rw [Int.natCast_mul]]
          exact w64n (by omega)
        have hsum : IntKind.i64.wrap ((acc[i + m] : Int) + ((a[i] * b[m] : Nat) : Int)) = ((acc[i + m] + a[i] * b[m] : Nat) : Int) := by rw [w64 (by omega) (by omega)]; omega
        have hin : (decide ((0 : Int) ≤ ((i + m : Nat) : Int)) && decide (((i + m : Nat) : Int).toNat < (toI acc).length)) = true := by
          rw [dle0, Int.toNat_natCast, toI_len, decide_eq_true hj]; rfl
        have hga : lget (toI acc) ((i + m : Nat) : Int).toNat = some (acc[i + m] : Int) := by rw [Int.toNat_natCast]; exact toI_at hj
        unfold spec_MulNat.L1 spec_MulNat.step1
        rw [hwim]
        refine bif_t (dlt (by rw [toI_len]; exact hm)) (bif_t hin (bind_k hga (bif_t (dle0 i) (bind_k (by rw [Int.toNat_natCast]; exact toI_at hi) (bif_t (dle0 m) (bind_k (by rw [Int.toNat_natCast]; exact toI_at hm) (bif_t hin (bind_k hga ?_))))))))
        rw [hmul, hsum, hwm, Int.toNat_natCast, toI_set]
        exact h4 k r0 q (by omega)
  have key0 : ∀ (d i : Nat) (acc : List Nat), a.length - i = d → i ≤ a.length → acc.length = a.length + b.length → (∀ x ∈ acc, x ≤ (i * b.length) * 100000000) → val acc + 10000 ^ i * val (a.drop i) * val b = val a * val b →
      Tq (d + 1) (fun k q => spec_MulNat.L0 (cl k) k (toI a) (toI b) q (i : Int) (toI acc)) (· = ((toI (dig (val a * val b)), true, ()), ())) := by
    intro d
    induction d with
    | zero =>
      intro i acc hd hi hl hbd he
      have hib : i * b.length ≤ 100 * 100 := Nat.mul_le_mul (by omega) lb
      rw [List.drop_of_length_le (by omega)] at he
      have he : val acc = val a * val b := by
        have e : 10000 ^ i * val [] * val b = 0 := by show 10000 ^ i * 0 * val b = 0; rw [Nat.mul_zero, Nat.zero_mul]
        rw [e] at he; exact he
      have hc := carry_ans acc (by omega) fun x hx => by
        have := hbd x hx
        have h2 : (i * b.length) * 100000000 ≤ 1000000000000 := by omega
        omega
      rw [he] at hc
      refine .succ (.bf (dnlt (by rw [toI_len]; omega)) (.bind hc.tq fun x hx => ?_))
      subst hx
      refine .bind (natOk_ans (dig_can _) hr).tq fun x hx => ?_
      subst hx
      exact .bf rfl (.ret rfl)
    | succ d ih =>
      intro i acc hd hi hl hbd he
      have hi : i < a.length := by omega
      obtain ⟨acc', h1, h2, h3, h4⟩ := key1 i hi b.length 0 acc rfl (Nat.zero_le _) hl (by rw [Nat.add_zero]; exact hbd)
      have ih := ih (i + 1) acc' (by omega) (by omega) h1 h2 (by
        rw [h3, ← he, List.drop_zero, Nat.add_zero, List.drop_eq_getElem_cons hi]
        show val acc + a[i] * 10000 ^ i * val b + 10000 ^ (i + 1) * val (a.drop (i + 1)) * val b = val acc + 10000 ^ i * (a[i] + 10000 * val (a.drop (i + 1))) * val b
        rw [Nat.pow_succ, Nat.mul_add, Nat.add_mul, Nat.add_assoc, Nat.mul_comm a[i], Nat.mul_assoc (10000 ^ i) 10000])
      refine .succ (.bt (dlt (by rw [toI_len]; exact hi)) (.evEq ((Ev.ge (b.length + 1)).mono fun k hk q hq => ?_) ih))
      exact h4 k (spec_MulNat.L0 (cl k) k (toI a) (toI b) q) k (by omega)
  refine (Gv.of (fun k => spec_MulNat.F_eq (cl k) k (toI a) (toI b)) (.bind (l1Both_ans ha hb la lb).tq fun x hx => ?_)).ans
  subst hx
  have hw : IntKind.i64.wrap (((toI a).length : Int) + ((toI b).length : Int)) = ((a.length + b.length : Nat) : Int) := by rw [toI_len, toI_len, w64 (by omega) (by omega)]; omega
  refine .bf rfl (.bt (by rw [hw]; exact mk_ok (n := a.length + b.length) (b := ti2.bytes) (by show (a.length + b.length) * 8 ≤ _; omega)) ?_)
  simp only [hw]
  have h0 := key0 a.length 0 (List.replicate (a.length + b.length) 0) rfl (Nat.zero_le _) (by rw [List.length_replicate]) (fun x hx => by rw [List.eq_of_mem_replicate hx]; omega) (by rw [val_zero, Nat.pow_zero, Nat.one_mul, List.drop_zero, Nat.zero_add])
  have e : toI (List.replicate (a.length + b.length) 0) = List.replicate (((a.length + b.length : Nat) : Int)).toNat (Int.ofNat (nat_lit 0)) := by
    rw [Int.toNat_natCast]; simp [toI]
  rw [e] at h0
  exact h0.diag

/-! ### How many models -/
theorem rise_len : ∀ {l : List Int} {lo hi : Int}, Rise l → (∀ x ∈ l, lo ≤ x ∧ x ≤ hi) → (l.length : Int) ≤ max 0 (hi - lo + 1)
  | [], lo, hi, _, _ => by rw [List.length_nil]; omega
  | a :: l, lo, hi, h, hr => by
    have ha := hr a List.mem_cons_self
    have h2 := List.pairwise_cons.1 h
    have := rise_len (l := l) (lo := a + 1) (hi := hi) h2.2 fun x hx => by
      have h3 := h2.1 x hx
      have h4 := hr x (List.mem_cons_of_mem _ hx)
      omega
    rw [List.length_cons]; omega
theorem CnfRight.uLe {c : Cnf} (h : CnfRight c) : ((usedL c.2.1).length : Int) ≤ c.1 := by
  have := rise_len (usedL_rise c.2.1) fun x hx => h.uV hx
  have h1 := h.1
  omega
noncomputable def countM (c : Cnf) : List Nat := by
  classical exact if CnfRight c then dig ((models (usedL c.2.1) c.2.1).length * 2 ^ (c.1.toNat - (usedL c.2.1).length)) else []
theorem models_len {u : List Int} (hu : u.length ≤ 12) (c : List (List Int)) : (models u c).length ≤ 4096 := Nat.le_trans (List.length_filter_le _ _) (by rw [List.length_range]; exact pow12 hu)
theorem prod_len {n t : Nat} (hn : n ≤ 4096) (ht : t ≤ 300) : (dig (n * 2 ^ t)).length ≤ 25 := dig_len (by
  have h1 := pow2_lt 24 (n := 12 + t) (by omega)
  have h2 : n * 2 ^ t ≤ 2 ^ (12 + t) := by rw [Nat.pow_add]; exact Nat.mul_le_mul_right _ (by omega)
  have h3 : 10000 ^ 24 < 10000 ^ 25 := Nat.pow_lt_pow_right (by omega) (by omega)
  omega)
theorem countM_len (c : Cnf) : (countM c).length ≤ 25 := by
  unfold countM
  split
  · rename_i h
    exact prod_len (models_len h.2.2.2 _) (by have := h.1; omega)
  · exact Nat.zero_le _
theorem spec_CountCnf_ans (c : Cnf) (hs : Small c) : Ans 78 s_spec_CountCnf (c, ()) ((toI (countM c), ()), ()) := by
  unfold countM
  refine (Gv.of (fun k => spec_CountCnf.F_eq (cl k) k c) ?_).ans
  rcases CnfOkS_cases c hs with ⟨h, h1, _⟩ | ⟨h, h1, _⟩
  · rw [if_pos h]
    refine .bind h1.tq fun x hx => ?_
    subst hx
    refine .bf rfl (.bind (l14Used_ans c.1 c.2.1 (by have := h.2.1; omega) h.range').tq fun x hx => ?_)
    subst hx
    have hl := h.uLe
    have hV := h.1
    have hm := models_len h.2.2.2 c.2.1
    have hmod := l14Models_ans c hs h
    obtain ⟨t, ht⟩ : ∃ t : Nat, c.1.toNat - (usedL c.2.1).length = t := ⟨_, rfl⟩
    rw [ht]
    have hw : IntKind.i64.wrap (c.1 - ((usedL c.2.1).length : Int)) = (t : Int) := by rw [w64 (by omega) (by omega)]; omega
    have ht3 : t ≤ 300 := by omega
    simp only [hw]
    refine .bind (power_ans t ht3).tq fun x hx => ?_
    subst hx
    refine .bind hmod.tq fun x hx => ?_
    subst hx
    have hn := natS_ans (dig_can (models (usedL c.2.1) c.2.1).length) (Nat.le_trans (dig_len (d := 1) (by omega)) (by omega)) (by rw [dig_val]; omega)
    rw [dig_val] at hn
    simp only [List.length_map]
    refine .bind hn.tq fun x hx => ?_
    subst hx
    have hp := prod_len hm ht3
    have hmul := mulNat_ans (dig_can (models (usedL c.2.1) c.2.1).length) (dig_can (2 ^ t)) (Nat.le_trans (dig_len (d := 1) (by omega)) (by omega)) (by have := pow_len (t := t) (by omega); omega) (by rw [dig_val, dig_val]; omega)
    rw [dig_val, dig_val] at hmul
    refine .bind hmul.tq fun x hx => ?_
    subst hx
    exact .ret rfl
  · rw [if_neg h]
    refine .bind h1.tq fun x hx => ?_
    subst hx
    exact .bt rfl (.ret rfl)
theorem impl_CountCnf_ans (c : Cnf) (hs : Small c) : Ans 79 s_impl_CountCnf (c, ()) ((toI (countM c), ()), ()) := by
  unfold countM
  refine (Gv.of (fun k => impl_CountCnf.F_eq (cl k) k c) ?_).ans
  rcases CnfOkS_cases c hs with ⟨h, _, h1⟩ | ⟨h, _, h1⟩
  · rw [if_pos h]
    refine .bind h1.tq fun x hx => ?_
    subst hx
    refine .bf rfl (.bind (searchOf_ans c hs h).tq fun x hx => ?_)
    subst hx
    have hl := h.uLe
    have hV := h.1
    have hm := models_len h.2.2.2 c.2.1
    obtain ⟨t, ht⟩ : ∃ t : Nat, c.1.toNat - (usedL c.2.1).length = t := ⟨_, rfl⟩
    rw [ht]
    have hw : IntKind.i64.wrap (c.1 - ((usedL c.2.1).length : Int)) = (t : Int) := by rw [w64 (by omega) (by omega)]; omega
    have hd := doubled_ans (models (usedL c.2.1) c.2.1).length t hm (by omega)
    simp only [hw, List.length_map]
    refine .bind hd.tq fun x hx => ?_
    subst hx
    exact .ret rfl
  · rw [if_neg h]
    refine .bind h1.tq fun x hx => ?_
    subst hx
    exact .bt rfl (.ret rfl)

end Go.Proofs.Ytcmgjdmhemfecaa.Pf
