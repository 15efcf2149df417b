/- Patterns: drawn, compared, of all and of none. No condition. -/
import Derived.Test.YtcmgjdmhemfecaaPfV
import Derived.Test.YtcmgjdmhemfecaaPfX
import Derived.Test.YtcmgjdmhemfecaaPfTE
namespace Go.Proofs.Ytcmgjdmhemfecaa.Pf
open Go Go.Pv

/-! ### Draws -/
theorem keep_gv (c : Dice) (f : Cnf) (hc : dOk c) : Gv 145 s_spec_l14DrawKeep (c, f, ()) fun (r : (List Int × Unit) × (Dice × Unit)) => r.1.1.length ≤ 301 := by
  have fin : ∀ (l : List Int) (d : Dice) (e : Nat), l.length ≤ 100 → dOk d → Tq e (fun k _ => (cl k 131 s_spec_l1Once (d, 12, ())).bind fun (y4 : (Bool × Unit) × (Dice × Unit)) =>
      bif y4.1.1 then (cl k 157 s_spec_l1From (y4.2.1, 0, 9, ())).bind fun (y5 : (Int × Unit) × (Dice × Unit)) =>
        bif decide ((l.length + [y5.1.1].length) * ti2.bytes ≤ (140737488355328 : Nat)) then some ((l ++ [y5.1.1], ()), y5.2.1, ()) else none
      else some ((l, ()), y4.2.1, ())) fun (r : (List Int × Unit) × (Dice × Unit)) => r.1.1.length ≤ 301 := by
    intro l d e hl hd
    refine .bind (once_gv d 12 hd).tq fun y hy => .bif (fun _ => .bind (from_gv y.2.1 _ _ hy).tq fun z hz => .bt (apW2 (by omega)) (.ret ?_)) fun _ => .ret (by show l.length ≤ 301; omega)
    show (l ++ [_]).length ≤ 301
    rw [List.length_append, List.length_singleton]; omega
  have key : ∀ (n : Nat) (v : Int) (l : List Int) (d : Dice), v = (n : Int) → l.length + n ≤ 100 → dOk d →
      Tq (n + 1) (fun k q => spec_l14DrawKeep.L0 (cl k) k f q v l d.1 d.2.1 d.2.2.1) fun (r : (List Int × Unit) × (Dice × Unit)) => r.1.1.length ≤ 301 := by
    intro n
    induction n with
    | zero =>
      intro v l d hv hl hd
      exact .succ (.bf (decide_eq_false (by omega)) (fin l d _ (by omega) hd))
    | succ n ih =>
      intro v l d hv hl hd
      have hw : IntKind.i64.wrap (v - 1) = (n : Int) := by rw [w64 (by omega) (by omega)]; omega
      refine .succ (.bt (decide_eq_true (by omega)) (.bif (fun hV => .bind (min_ans f.1 300).tq fun x hx => ?_) fun _ => fin l d _ (by omega) hd))
      subst hx
      refine .bind (below_gv d _ hd).tq fun y ⟨hy, _, _⟩ => .bind (l2With_ans l _ (by omega)).tq fun x hx => ?_
      subst hx
      exact ih _ _ y.2.1 hw (by have := withL_len l (IntKind.i64.wrap (1 + y.1.1)); show (withL l _).length + n ≤ 100; omega) hy
  refine .of (fun k => spec_l14DrawKeep.F_eq (cl k) k c f) (.bind (below_gv c 6 hc).tq fun y ⟨hy, hb, _⟩ => ?_)
  have hb := hb (by omega)
  obtain ⟨m, hm⟩ := Int.eq_ofNat_of_zero_le hb.1
  exact (key m _ [] y.2.1 hm (by simp; omega) hy).diag

theorem drawPat_gv (code : List Int) (h1 : code.length ≤ maxLen) (h2 : ∀ y ∈ code, 0 ≤ y ∧ y ≤ 255) :
    Gv 86 s_spec_DrawPatternsOf (code, ()) fun (r : (Cnf × (List Int × Unit)) × Unit) => Few 61 r.1.1.2.1 ∧ r.1.2.1.length ≤ 301 := by
  refine .of (fun k => spec_DrawPatternsOf.F_eq (cl k) k code) (.bind (new_gv code h1 h2).tq fun c hc => .bind (any14_gv c.1.1 hc).tq fun y1 ⟨hd, hf⟩ => .bind (once_gv y1.2.1 2 hd).tq fun o ho => ?_)
  have hs : Small y1.1.1 := Few.small (c := y1.1.1) hf (by omega)
  have other : ∀ e, Tq e (fun k _ => (cl k 145 s_spec_l14DrawKeep (o.2.1, y1.1.1, ())).bind fun (y : (List Int × Unit) × (Dice × Unit)) => some ((y1.1.1, y.1.1, ()), ())) fun (r : (Cnf × (List Int × Unit)) × Unit) => Few 61 r.1.1.2.1 ∧ r.1.2.1.length ≤ 301 :=
    fun e => .bind (keep_gv o.2.1 y1.1.1 ho).tq fun z hz => .ret ⟨hf, hz⟩
  refine .bif (fun _ => ?_) fun _ => other _
  obtain ⟨b, hb, _⟩ := spec_CnfOk_ans y1.1.1 hs
  refine .bind hb.tq fun x hx => ?_
  subst hx
  refine .bif (fun _ => .bind (spec_UsedIn_ans y1.1.1 hs).tq fun x hx => ?_) fun _ => other _
  subst hx
  refine .bif (fun h => ?_) fun _ => other _
  have h := of_decide_eq_true h
  have h : ((usedIn y1.1.1).length : Int) > 0 := h
  refine .bind (below_gv o.2.1 _ ho).tq fun z ⟨_, hb, _⟩ => ?_
  have hb : 0 ≤ z.1.1 ∧ z.1.1 < ((usedIn y1.1.1).length : Int) := hb (show 0 < ((usedIn y1.1.1).length : Int) by omega)
  have hz : z.1.1.toNat ≤ (usedIn y1.1.1).length := Int.toNat_le.2 (Int.le_of_lt hb.2)
  refine .bt (decide_eq_true hb.1) (.bt (by show (decide (z.1.1.toNat ≤ (usedIn y1.1.1).length) && decide ((usedIn y1.1.1).length ≤ (usedIn y1.1.1).length)) = true; rw [decide_eq_true hz, decide_eq_true (Nat.le_refl _)]; rfl) (.bt (decide_eq_true (show z.1.1.toNat + ((usedIn y1.1.1).length - z.1.1.toNat) ≤ (usedIn y1.1.1).length by omega)) (.ret ⟨hf, ?_⟩)))
  have := usedIn_len y1.1.1
  show (List.take _ (List.drop _ (usedIn y1.1.1))).length ≤ 301
  rw [List.length_take, List.length_drop]; omega

/-! ### Which is less -/
def lo (a : List Nat) : Nat → Nat
  | 0 => 0
  | m + 1 => lo a m + a.getD m 0 * 10000 ^ m
theorem lo_cons (x : Nat) (l : List Nat) : ∀ m, lo (x :: l) (m + 1) = x + 10000 * lo l m
  | 0 => by simp [lo]
  | m + 1 => by
    rw [show lo (x :: l) (m + 1 + 1) = lo (x :: l) (m + 1) + (x :: l).getD (m + 1) 0 * 10000 ^ (m + 1) from rfl, lo_cons x l m, show lo l (m + 1) = lo l m + l.getD m 0 * 10000 ^ m from rfl, List.getD_cons_succ, Nat.pow_succ, Nat.mul_add]
    have : l.getD m 0 * (10000 ^ m * 10000) = 10000 * (l.getD m 0 * 10000 ^ m) := by rw [← Nat.mul_assoc, Nat.mul_comm]
    omega
theorem lo_nil : ∀ m, lo [] m = 0
  | 0 => rfl
  | m + 1 => by simp [lo, lo_nil m]
theorem lo_val : ∀ (l : List Nat) (m : Nat), l.length ≤ m → lo l m = val l
  | [], m, _ => lo_nil m
  | x :: l, 0, h => by simp at h
  | x :: l, m + 1, h => by
    rw [lo_cons, lo_val l m (by simpa using h)]; rfl
theorem lo_lt {a : List Nat} (h : ∀ x ∈ a, x < 10000) : ∀ m, lo a m < 10000 ^ m
  | 0 => by simp [lo]
  | m + 1 => by
    have ih := lo_lt h m
    have hd : a.getD m 0 < 10000 := by
      by_cases hm : m < a.length
      · rw [getD_lt hm]; exact h _ (List.getElem_mem hm)
      · rw [getD_ge (by omega)]; omega
    have h2 : a.getD m 0 * 10000 ^ m ≤ 9999 * 10000 ^ m := Nat.mul_le_mul_right _ (by omega)
    have e : (10000 : Nat) ^ (m + 1) = 10000 * 10000 ^ m := by rw [Nat.pow_succ, Nat.mul_comm]
    rw [show lo a (m + 1) = lo a m + a.getD m 0 * 10000 ^ m from rfl, e]
    omega
theorem limb_ans (a : List Nat) (i : Nat) : Ans 141 s_spec_l1Limb (toI a, (i : Int), ()) ((((a.getD i 0 : Nat) : Int), ()), ()) := limb_ev.mono fun _ h => h a i
theorem cmp_gv {a b : List Nat} (ha : Can a) (hb : Can b) (la : a.length ≤ 100) (lb : b.length ≤ 100) (h : val a ≤ val b) : Gv 87 s_spec_CmpNat (toI a, toI b, ()) fun (r : (Int × Unit) × Unit) => r.1.1 ≤ 0 := by
  have key : ∀ (n : Nat) (v : Int), v + 1 = (n : Int) → n ≤ 100 → lo a n ≤ lo b n → Tq (n + 1) (fun k q => spec_CmpNat.L0 (cl k) k (toI a) (toI b) q v) fun (r : (Int × Unit) × Unit) => r.1.1 ≤ 0 := by
    intro n
    induction n with
    | zero =>
      intro v hv hn hle
      exact .succ (.bf (decide_eq_false (by omega)) (.ret (Int.le_refl _)))
    | succ n ih =>
      intro v hv hn hle
      have e : v = (n : Int) := by omega
      have hA := e ▸ limb_ans a n
      have hB := e ▸ limb_ans b n
      refine .succ (.bt (decide_eq_true (show v ≥ 0 by omega)) (.bind hA.tq fun x hx => ?_))
      subst hx
      refine .bind hB.tq fun x hx => ?_
      subst hx
      refine .bif (fun _ => .ret (by show (-1 : Int) ≤ 0; omega)) fun h1 => .bind hA.tq fun x hx => ?_
      subst hx
      refine .bind hB.tq fun x hx => ?_
      subst hx
      have h1 : ¬ ((a.getD n 0 : Nat) : Int) < ((b.getD n 0 : Nat) : Int) := by simpa using h1
      have hle2 : lo a n + a.getD n 0 * 10000 ^ n ≤ lo b n + b.getD n 0 * 10000 ^ n := hle
      have hlt := lo_lt hb.small n
      have h2 : ¬ ((a.getD n 0 : Nat) : Int) > ((b.getD n 0 : Nat) : Int) := fun hgt => by
        have h3 : (b.getD n 0 + 1) * 10000 ^ n ≤ a.getD n 0 * 10000 ^ n := Nat.mul_le_mul_right _ (by omega)
        rw [Nat.add_mul, Nat.one_mul] at h3
        omega
      have he : a.getD n 0 = b.getD n 0 := by omega
      rw [he] at hle2
      refine .bf (decide_eq_false h2) ?_
      exact ih _ (by rw [w64 (by omega) (by omega)]; omega) (by omega) (by omega)
  refine .of (fun k => spec_CmpNat.F_eq (cl k) k (toI a) (toI b)) (.bind (l1Both_ans ha hb la lb).tq fun x hx => ?_)
  subst hx
  refine .bf rfl (.bif (fun h1 => ?_) fun h1 => ?_)
  · have h1 : ((toI b).length : Int) > ((toI a).length : Int) := of_decide_eq_true h1
    rw [toI_len, toI_len] at h1
    refine (key b.length _ ?_ lb ?_).diag
    · rw [toI_len, w64 (by omega) (by omega)]; omega
    · rw [lo_val a _ (by omega), lo_val b _ (by omega)]; exact h
  · have h1 : ¬ ((toI b).length : Int) > ((toI a).length : Int) := by simpa using h1
    rw [toI_len, toI_len] at h1
    refine (key a.length _ ?_ la ?_).diag
    · rw [toI_len, w64 (by omega) (by omega)]; omega
    · rw [lo_val a _ (by omega), lo_val b _ (by omega)]; exact h
end Go.Proofs.Ytcmgjdmhemfecaa.Pf
