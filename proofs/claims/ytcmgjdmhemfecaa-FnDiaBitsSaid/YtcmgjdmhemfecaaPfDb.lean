/- Bits of a number, and what a Dia says of them. No condition. -/
import Derived.Test.YtcmgjdmhemfecaaPfP
namespace Go.Proofs.Ytcmgjdmhemfecaa.Pf
open Go Go.Pv

theorem bitsI_and1b (x : Nat) (hx : x ≤ 4096) : bitsI .and .i64 (x : Int) 1 = ((x % 2 : Nat) : Int) := by
  unfold bitsI
  have h2 : (BitVec.ofInt IntKind.i64.bits (x : Int) &&& BitVec.ofInt IntKind.i64.bits (1 : Int)).toNat = x % 2 := by
    rw [show (1 : Int) = ((1 : Nat) : Int) from rfl, BitVec.toNat_and, BitVec.ofInt_natCast, BitVec.ofInt_natCast, BitVec.toNat_ofNat, BitVec.toNat_ofNat]
    rw [show IntKind.i64.bits = 64 from rfl, Nat.mod_eq_of_lt (show x < 2 ^ 64 by omega), Nat.mod_eq_of_lt (show 1 < 2 ^ 64 by omega), Nat.and_one_is_mod]
  simp only [h2]
  exact w64n (by omega)
theorem shrI_natb (x s : Nat) (hs : s ≤ 64) : shrI .i64 (x : Int) (s : Int) = ((x / 2 ^ s : Nat) : Int) := by
  unfold shrI
  rw [Int.toNat_natCast, show min s IntKind.i64.bits = s from Nat.min_eq_left hs]
  have h2 : ((2 : Int) ^ s) = ((2 ^ s : Nat) : Int) := by simp
  rw [h2]; exact (Int.ofNat_fdiv x (2 ^ s)).symm
def loB (m n : Nat) : List Bool := (List.range m).map fun v => n.testBit v
theorem loB_len (m n : Nat) : (loB m n).length = m := by simp [loB]
theorem bitsOf_gv (m n : Nat) (hm : m ≤ 10) (hn : n ≤ 4096) : Gv 65 s_laws_bitsOf ((m : Int), (n : Int), ()) fun (r : (List Bool × Unit) × Unit) => r = ((loB m n, ()), ()) := by
  have key : ∀ (d j : Nat) (acc : List Bool), m - j = d → j ≤ m → acc.length = m → (∀ i, i < j → acc[i]? = some (n.testBit i)) →
      Tq (d + 1) (fun k q => laws_bitsOf.L0 (cl k) k (m : Int) (n : Int) q (j : Int) acc) fun (r : (List Bool × Unit) × Unit) => r = ((loB m n, ()), ()) := by
    intro d
    induction d with
    | zero =>
      intro j acc hd hj hl h
      obtain rfl : j = m := by omega
      refine .succ (.bf (decide_eq_false (by omega)) (.ret ?_))
      have : acc = loB j n := by
        have := list_of (f := fun v => n.testBit v) (acc := acc) (by rw [hl]; exact h)
        rw [this, hl]; rfl
      rw [this]
    | succ d ih =>
      intro j acc hd hj hl h
      have hj : j < m := by omega
      have hja : j < acc.length := by omega
      refine .succ (.bt (decide_eq_true (by omega)) (.bf (decide_eq_false (by omega)) (.bt (by rw [decide_eq_true (show (0 : Int) ≤ (j : Int) by omega), Int.toNat_natCast, decide_eq_true hja]; rfl) (.some (lg hja) ?_))))
      have hb : (bitsI BinOp.and IntKind.i64 (shrI IntKind.i64 (n : Int) (j : Int)) (1 : Int) == (1 : Int)) = n.testBit j := by
        rw [shrI_natb n j (by omega), bitsI_and1b _ (Nat.le_trans (Nat.div_le_self _ _) hn), Nat.testBit_eq_decide_div_mod_eq]
        by_cases e : n / 2 ^ j % 2 = 1
        · rw [e, decide_eq_true rfl]; rfl
        · rw [decide_eq_false e]
          have : n / 2 ^ j % 2 = 0 := by omega
          rw [this]; rfl
      have hw : IntKind.i64.wrap ((j : Int) + 1) = ((j + 1 : Nat) : Int) := ws hj (by omega)
      rw [hb, hw, Int.toNat_natCast]
      refine ih (j + 1) _ (by omega) (by omega) (by rw [List.length_set]; exact hl) fun i hi => ?_
      by_cases e : i = j
      · subst e; rw [List.getElem?_set_self hja]
      · rw [List.getElem?_set_ne (by omega)]; exact h i (by omega)
  refine .of (fun k => laws_bitsOf.F_eq (cl k) k (m : Int) (n : Int)) (.bt ?_ ?_)
  · rw [decide_eq_true rfl, decide_eq_true (show (0 : Int) ≤ (m : Int) by omega)]
    exact decide_eq_true (show (m : Int) * 1 ≤ _ by omega)
  · exact (key m 0 (List.replicate ((m : Int)).toNat false) (by omega) (by omega) (by simp) fun i hi => by omega).diag

/-! ### What a Dia says -/
def bf (l : List Bool) : Nat → Bool := fun v => l.getD v false
theorem bf_set {l : List Bool} {v : Nat} (hv : v < l.length) (b : Bool) (w : Nat) : bf (l.set v b) w = upd (bf l) v b w := by
  show (l.set v b).getD w false = if w = v then b else l.getD w false
  rw [List.getD_eq_getElem?_getD, List.getD_eq_getElem?_getD]
  by_cases e : w = v
  · subst e; rw [List.getElem?_set_self hv, if_pos rfl]; rfl
  · rw [List.getElem?_set_ne (by omega), if_neg e]
theorem yes_fD {m : Nat} {g : Bf} (hg : Loc m g) (hm : m ≤ 10) {l : List Bool} (hl : l.length = m) : yesIn (fD m g) l = g (bf l) := by
  unfold yesIn
  rw [fD_ok g hm, fD_nat, fD_walk hg, decide_eq_true (show (l.length : Int) = (fD m g).1 by rw [hl]; rfl), Bool.true_and, Bool.true_and]
  refine hg _ _ fun w hw => ?_
  show (plc l l.length).testBit (m - 1 - w) = _
  rw [hl]; exact plc_bit l m w hw
theorem yesI {m : Nat} {g : Bf} (hg : Loc m g) (hm : m ≤ 10) {l : List Bool} (hl : l.length = m) : Ans 63 s_impl_YesIn (fD m g, l, ()) ((g (bf l), ()), ()) := by
  rw [← yes_fD hg hm hl]; exact impl_YesIn_ans _ (by have := fD_len g hm; omega) l
theorem yesS {m : Nat} {g : Bf} (hg : Loc m g) (hm : m ≤ 10) {l : List Bool} (hl : l.length = m) : Ans 62 s_spec_YesIn (fD m g, l, ()) ((g (bf l), ()), ()) := by
  rw [← yes_fD hg hm hl]; exact spec_YesIn_ans _ (by have := fD_len g hm; omega) l
theorem Tq.cut1 {α : Type} {d : Nat} {P : α → Prop} {F : Nat → Nat → Nat → Option α} (h : Tq d (fun k q => F k q (k - 1 + 1)) P) : Tq d (fun k q => F k q k) P := by
  obtain ⟨r, hr, k0, h⟩ := h
  refine ⟨r, hr, max k0 1, fun k hk q hq => ?_⟩
  have : F k q (k - 1 + 1) = Option.some r := h k (by omega) q hq
  rw [show k - 1 + 1 = k by omega] at this
  exact this
end Go.Proofs.Ytcmgjdmhemfecaa.Pf
