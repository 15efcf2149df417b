/- Bits and their numbers. No condition. -/
import Derived.Test.YtcmgjdmhemfecaaPfB
namespace Go.Proofs.Ytcmgjdmhemfecaa.Pf
open Go Go.Pv

def bit (b : Bool) : Int := if b then 1 else 0
def BitK (k : Nat) : Prop := ∀ b : Bool, cl k 92 s_spec_l5Bit (b, ()) = some ((bit b, ()), ())
theorem l5Bit_ev : Ev BitK := Ev.succ fun k b => by
  rw [cl_succ, spec_l5Bit.F_eq (cl k) k b]; cases b <;> rfl
def TruthK (k : Nat) : Prop := ∀ b : Bool, cl k 93 s_impl_truth (b, ()) = some ((bit b, ()), ())
theorem truth_ev : Ev TruthK := Ev.succ fun k b => by
  rw [cl_succ, impl_truth.F_eq (cl k) k b]; cases b <;> rfl

def bitN (m n v : Nat) : Bool := n.testBit (m - 1 - v)
def bitsN (m n : Nat) : List Bool := (List.range m).map (bitN m n)
theorem list_of {α : Type} {f : Nat → α} {acc : List α} (h : ∀ i, i < acc.length → acc[i]? = some (f i)) : acc = (List.range acc.length).map f := by
  apply List.ext_getElem?
  intro i
  rcases Nat.lt_or_ge i acc.length with hi | hi
  · rw [h i hi]; simp [hi]
  · rw [List.getElem?_eq_none hi]; simp [hi]
theorem w64n {z : Nat} (h : z ≤ 9223372036854775807) : IntKind.i64.wrap (z : Int) = (z : Int) := w64 (by omega) (by omega)
theorem pow12 {m : Nat} (h : m ≤ 12) : 2 ^ m ≤ 4096 := Nat.pow_le_pow_right (by omega) h
theorem pow10 {m : Nat} (h : m ≤ 10) : 2 ^ m ≤ 1024 := Nat.pow_le_pow_right (by omega) h
theorem shl1 {m : Nat} (h : m ≤ 10) : shlI .i64 1 (m : Int) = ((2 ^ m : Nat) : Int) := by
  unfold shlI
  rw [Int.toNat_natCast, show min m IntKind.i64.bits = m from Nat.min_eq_left (Nat.le_trans h (by decide))]
  have h1 := pow10 h
  have h2 : ((2 : Int) ^ m) = ((2 ^ m : Nat) : Int) := by simp
  rw [h2, Int.one_mul, w64n (Nat.le_trans h1 (by decide))]

theorem l13Bits12_ans (m n : Nat) (hm : m ≤ 12) (hn : n ≤ 1048576) : Ans 125 s_spec_l13Bits ((m : Int), (n : Int), ()) ((bitsN m n, ()), ()) := by
  refine Ans.of (fun k => spec_l13Bits.F_eq (cl k) k (m : Int) (n : Int)) ?_
  have key : ∀ (d k q : Nat) (acc : List Bool), d ≤ m → acc.length = m → (∀ i, d ≤ i → i < m → acc[i]? = some (bitN m n i)) → d < q → spec_l13Bits.L0 (cl k) k q ((n / 2 ^ (m - d) : Nat) : Int) ((d : Int) - 1) acc = some ((bitsN m n, ()), ()) := by
    intro d
    induction d with
    | zero =>
      intro k q acc hd hl h hq
      obtain ⟨q, rfl⟩ : ∃ p, q = p + 1 := ⟨q - 1, by omega⟩
      simp only [spec_l13Bits.L0, spec_l13Bits.step0]
      rw [decide_eq_false (by omega), cond_false]
      have e := list_of (f := bitN m n) (acc := acc) fun i hi => h i (Nat.zero_le _) (by omega)
      rw [e, hl]; rfl
    | succ d ih =>
      intro k q acc hd hl h hq
      obtain ⟨q, rfl⟩ : ∃ p, q = p + 1 := ⟨q - 1, by omega⟩
      have hj : d < acc.length := by omega
      have e1 : (((d + 1 : Nat) : Int) - 1) = (d : Int) := by omega
      have e2 : n / 2 ^ (m - (d + 1)) / 2 = n / 2 ^ (m - d) := by
        rw [Nat.div_div_eq_div_mul, ← Nat.pow_succ, show (m - (d + 1)).succ = m - d by omega]
      have e3 : ((n / 2 ^ (m - (d + 1)) : Nat) : Int).tdiv 2 = ((n / 2 ^ (m - (d + 1)) / 2 : Nat) : Int) := rfl
      have e4 : ((n / 2 ^ (m - (d + 1)) : Nat) : Int).tmod 2 = ((n / 2 ^ (m - (d + 1)) % 2 : Nat) : Int) := rfl
      have e5 : n / 2 ^ (m - d) ≤ n := Nat.div_le_self _ _
      have e6 : (((n / 2 ^ (m - (d + 1)) % 2 : Nat) : Int) == 1) = bitN m n d := by
        unfold bitN
        rw [Nat.testBit_eq_decide_div_mod_eq, show m - 1 - d = m - (d + 1) by omega]
        by_cases hb : n / 2 ^ (m - (d + 1)) % 2 = 1
        · rw [hb]; rfl
        · rw [decide_eq_false hb, beq_false_of_ne (by omega)]
      have hs := ih k q (acc.set d (bitN m n d)) (by omega) (by simp [hl]) (fun i h1 h2 => by
        rw [List.getElem?_set]
        by_cases e : d = i
        · subst e; rw [if_pos rfl, if_pos hj]
        · rw [if_neg e]; exact h i (by omega) h2) (by omega)
      simp only [spec_l13Bits.L0, spec_l13Bits.step0, e1, ge_iff_le, dle0, cond_true, Int.toNat_natCast, decide_eq_true hj, Bool.and_self, lgn hj, Option.bind_some, e3, e4, e2, e6]
      rw [w64n (Nat.le_trans e5 (Nat.le_trans hn (by decide))), w64 (x := (d : Int) - 1) (by omega) (by omega)]
      exact hs
  refine (Ev.ge (m + 1)).mono fun k hk => ?_
  unfold spec_l13Bits.F spec_l13Bits.Fm
  rw [mk_ok (n := m) (b := ti4.bytes) (by show m * 1 ≤ _; omega), cond_true, w64 (by omega) (by omega)]
  have := key m k k (List.replicate (Int.toNat (m : Int)) false) (Nat.le_refl _) (by simp) (fun i h1 h2 => by omega) (by omega)
  rw [Nat.sub_self, Nat.pow_zero, Nat.div_one] at this
  exact this

theorem l13Bits_ans (m n : Nat) (hm : m ≤ 10) (hn : n ≤ 1048576) : Ans 125 s_spec_l13Bits ((m : Int), (n : Int), ()) ((bitsN m n, ()), ()) := l13Bits12_ans m n (by omega) hn
theorem l13Size12_ans (m : Nat) (hm : m ≤ 12) : Ans 124 s_spec_l13Size ((m : Int), ()) ((((2 ^ m : Nat) : Int), ()), ()) := by
  refine Ans.of (fun k => spec_l13Size.F_eq (cl k) k (m : Int)) ?_
  have key : ∀ (d k q : Nat), d ≤ m → d < q → spec_l13Size.L0 (cl k) k q (d : Int) ((2 ^ (m - d) : Nat) : Int) = some ((((2 ^ m : Nat) : Int), ()), ()) := by
    intro d
    induction d with
    | zero =>
      intro k q hd hq
      obtain ⟨q, rfl⟩ : ∃ p, q = p + 1 := ⟨q - 1, by omega⟩
      simp only [spec_l13Size.L0, spec_l13Size.step0]
      rw [decide_eq_false (by omega), cond_false]; rfl
    | succ d ih =>
      intro k q hd hq
      obtain ⟨q, rfl⟩ : ∃ p, q = p + 1 := ⟨q - 1, by omega⟩
      have h1 := pow12 (show m - (d + 1) ≤ 12 by omega)
      have h2 : 2 ^ (m - d) = 2 ^ (m - (d + 1)) * 2 := by
        rw [← Nat.pow_succ, show (m - (d + 1)).succ = m - d by omega]
      have hs := ih k q (by omega) (by omega)
      simp only [spec_l13Size.L0, spec_l13Size.step0]
      rw [decide_eq_true (by omega), cond_true, w64 (by omega) (by omega), w64 (by omega) (by omega)]
      rw [show ((d + 1 : Nat) : Int) - 1 = (d : Int) by omega, show ((2 ^ (m - (d + 1)) : Nat) : Int) * 2 = ((2 ^ (m - d) : Nat) : Int) by omega]
      exact hs
  refine (Ev.ge (m + 1)).mono fun k hk => ?_
  have := key m k k (Nat.le_refl _) (by omega)
  rw [Nat.sub_self] at this
  exact this

theorem l13Size_ans (m : Nat) (hm : m ≤ 10) : Ans 124 s_spec_l13Size ((m : Int), ()) ((((2 ^ m : Nat) : Int), ()), ()) := l13Size12_ans m (by omega)
def cnt : List Bool → Int
  | [] => 0
  | b :: t => bit b + cnt t
theorem bit_le (b : Bool) : 0 ≤ bit b ∧ bit b ≤ 1 := by cases b <;> exact ⟨by decide, by decide⟩
theorem cnt_le : ∀ l : List Bool, 0 ≤ cnt l ∧ cnt l ≤ l.length
  | [] => ⟨Int.le_refl _, Int.le_refl _⟩
  | b :: l => by
    have h := cnt_le l
    have hb := bit_le b
    show 0 ≤ bit b + cnt l ∧ bit b + cnt l ≤ ((b :: l).length : Int)
    rw [List.length_cons]
    omega

end Go.Proofs.Ytcmgjdmhemfecaa.Pf
