/- Numerals: what the reference's loop spells. No condition. -/
import Derived.Test.YtbalepejjjmioaaDoorPfT0
import Derived.Lib.ItoaNum
import Derived.Laws.Strings
namespace Go.Proofs.YtbalepejjjmioaaDoor.Pf
open Go Go.Pv

theorem w64 {x : Int} (h0 : -9223372036854775808 ≤ x) (h1 : x ≤ 9223372036854775807) : IntKind.i64.wrap x = x := by
  simp only [IntKind.wrap, IntKind.bits, IntKind.signed, Bool.true_and]
  split
  · rename_i h
    have h := of_decide_eq_true h
    omega
  · rename_i h
    have h : ¬ (x % 2 ^ 64 ≥ 2 ^ (64 - 1)) := fun e => h (decide_eq_true e)
    omega
theorem w8 {x : Int} (h0 : 0 ≤ x) (h1 : x ≤ 255) : IntKind.u8.wrap x = x := by
  simp only [IntKind.wrap, IntKind.bits, IntKind.signed, Bool.false_and]
  split
  · rename_i h; cases h
  · omega
def ba (l : List UInt8) : ByteArray := ⟨l.toArray⟩
theorem ba_app (l m : List UInt8) : ba l ++ ba m = ba (l ++ m) := by
  apply ByteArray.ext
  rw [ByteArray.data_append]
  simp [ba]
theorem ba_size (l : List UInt8) : (ba l).size = l.length := by show l.toArray.size = _; simp
theorem ba_list (l : List UInt8) : (ba l).toList = l := ByteArray.toList_mk l
theorem dig_byte {d : Nat} (h : d < 10) : bytesOf [((48 + d : Nat) : Int)] = ba [UInt8.ofNat (48 + d)] := rfl

/-- What is spelled of what is left, ahead of what is there. -/
def spell (u : Nat) (l : List UInt8) : List UInt8 := if u = 0 ∧ l ≠ [] then l else Lib.decDigits u ++ l
theorem spell_step (u : Nat) (l : List UInt8) (h : ¬(u = 0 ∧ l ≠ [])) : spell u l = spell (u / 10) (UInt8.ofNat (48 + u % 10) :: l) := by
  unfold spell
  rw [if_neg h]
  by_cases h10 : u < 10
  · rw [if_pos ⟨by omega, by simp⟩, Lib.decDigits, dif_pos h10, Nat.mod_eq_of_lt h10]; rfl
  · rw [if_neg (fun e => by omega), Lib.decDigits, dif_neg h10, List.append_assoc]; rfl

theorem bif_t {α : Type} {c : Bool} {a b r : α} (h : c = true) (ha : a = r) : (bif c then a else b) = r := by rw [h]; exact ha
theorem bif_f {α : Type} {c : Bool} {a b r : α} (h : c = false) (hb : b = r) : (bif c then a else b) = r := by rw [h]; exact hb
theorem no_bytes (l : List UInt8) : ((ba l).toList == (ByteArray.mk #[]).toList) = l.isEmpty := by
  rw [ba_list, show (ByteArray.mk #[]).toList = [] from ba_list []]
  cases l <;> rfl
/-- The digit that comes next. -/
theorem next_digit (v : Int) : ∃ d : Nat, d < 10 ∧ d = v.natAbs % 10 ∧ (v.tmod 10 = (d : Int) ∨ v.tmod 10 = -(d : Int)) ∧ (v.tdiv 10).natAbs = v.natAbs / 10 := by
  refine ⟨v.natAbs % 10, Nat.mod_lt _ (by omega), rfl, ?_, ?_⟩
  · rcases Int.natAbs_eq v with h | h
    · left; rw [h, Int.natAbs_natCast]; exact (Int.ofNat_tmod _ 10).symm
    · right; rw [h, Int.natAbs_neg, Int.natAbs_natCast, Int.neg_tmod]; rw [show (10 : Int) = ((10 : Nat) : Int) from rfl, ← Int.ofNat_tmod]
  · rw [Int.natAbs_tdiv]; rfl
theorem l1Int_end (call : Cl) (k : Nat) (a0 : Int) (q : Nat) (l : List UInt8) (hl : l ≠ []) (hs : l.length ≤ 1000) :
    spec_l1Int.L0 call k a0 (q + 1) 0 (ba l) = some ((if a0 < 0 then ba (45 :: l) else ba l, ()), ()) := by
  unfold spec_l1Int.L0 spec_l1Int.step0
  refine bif_f (by rw [no_bytes]; cases l with | nil => exact (hl rfl).elim | cons a l => rfl) (bif_f rfl ?_)
  by_cases h : a0 < 0
  · rw [if_pos h]
    refine bif_t (decide_eq_true h) (bif_t (decide_eq_true (by rw [ba_size]; show 1 + l.length ≤ _; omega)) ?_)
    rw [show (ByteArray.mk #[(45 : UInt8)]) = ba [45] from rfl, ba_app]; rfl
  · rw [if_neg h]
    exact bif_f (decide_eq_false h) rfl
theorem l1Int_step (call : Cl) (k : Nat) (a0 : Int) (q : Nat) (v : Int) (l : List UInt8) (h : ¬(v = 0 ∧ l ≠ [])) (h0 : -9223372036854775808 ≤ v) (h1 : v ≤ 9223372036854775807) (hs : l.length ≤ 1000) :
    spec_l1Int.L0 call k a0 (q + 1) v (ba l) = spec_l1Int.L0 call k a0 q (v.tdiv 10) (ba (UInt8.ofNat (48 + v.natAbs % 10) :: l)) := by
  obtain ⟨d, hd, hd2, hm, hq⟩ := next_digit v
  rw [← hd2]
  have hw : IntKind.i64.wrap (v.tdiv 10) = v.tdiv 10 := w64 (by omega) (by omega)
  have step : (bif decide (v.tmod 10 < 0) then
      bif decide ((bytesOf [IntKind.u8.wrap (IntKind.i64.wrap (48 + IntKind.i64.wrap (0 - v.tmod 10)))]).size + (ba l).size ≤ 9223372036854775807) then
        spec_l1Int.L0 call k a0 q (IntKind.i64.wrap (v.tdiv 10)) (bytesOf [IntKind.u8.wrap (IntKind.i64.wrap (48 + IntKind.i64.wrap (0 - v.tmod 10)))] ++ ba l) else none
      else bif decide ((bytesOf [IntKind.u8.wrap (IntKind.i64.wrap (48 + v.tmod 10))]).size + (ba l).size ≤ 9223372036854775807) then
        spec_l1Int.L0 call k a0 q (IntKind.i64.wrap (v.tdiv 10)) (bytesOf [IntKind.u8.wrap (IntKind.i64.wrap (48 + v.tmod 10))] ++ ba l) else none)
      = spec_l1Int.L0 call k a0 q (v.tdiv 10) (ba (UInt8.ofNat (48 + d) :: l)) := by
    have hb : bytesOf [((48 + d : Nat) : Int)] ++ ba l = ba (UInt8.ofNat (48 + d) :: l) := by rw [dig_byte hd, ba_app]; rfl
    have hsz : decide ((bytesOf [((48 + d : Nat) : Int)]).size + (ba l).size ≤ 9223372036854775807) = true := decide_eq_true (by rw [dig_byte hd, ba_size, ba_size]; simp only [List.length_singleton]; omega)
    by_cases hn : v.tmod 10 < 0
    · have e : IntKind.u8.wrap (IntKind.i64.wrap (48 + IntKind.i64.wrap (0 - v.tmod 10))) = ((48 + d : Nat) : Int) := by
        rw [w64 (x := 0 - v.tmod 10) (by omega) (by omega), w64 (by omega) (by omega), w8 (by omega) (by omega)]; omega
      rw [e]
      refine bif_t (decide_eq_true hn) (bif_t hsz ?_)
      rw [hw, hb]
    · have e : IntKind.u8.wrap (IntKind.i64.wrap (48 + v.tmod 10)) = ((48 + d : Nat) : Int) := by
        rw [w64 (by omega) (by omega), w8 (by omega) (by omega)]; omega
      rw [e]
      refine bif_f (decide_eq_false hn) (bif_t hsz ?_)
      rw [hw, hb]
  show spec_l1Int.step0 call k a0 (spec_l1Int.L0 call k a0 q) v (ba l) = _
  unfold spec_l1Int.step0
  by_cases hl : l = []
  · exact bif_t (by rw [no_bytes, hl]; rfl) step
  · have hv : v ≠ 0 := fun e => h ⟨e, hl⟩
    exact bif_f (by rw [no_bytes]; cases l with | nil => exact (hl rfl).elim | cons a l => rfl) (bif_t (by simpa using hv) step)
theorem l1Int_loop (call : Cl) (k : Nat) (a0 : Int) : ∀ (d : Nat) (v : Int) (l : List UInt8) (q : Nat), v.natAbs < 10 ^ d → l.length + d ≤ 900 → d + 1 < q → -9223372036854775808 ≤ v → v ≤ 9223372036854775807 →
    spec_l1Int.L0 call k a0 q v (ba l) = some ((if a0 < 0 then ba (45 :: spell v.natAbs l) else ba (spell v.natAbs l), ()), ())
  | 0, v, l, q + 2, hv, hl, hq, h0, h1 => by
    have hv0 : v = 0 := by simp only [Nat.pow_zero] at hv; omega
    subst hv0
    by_cases h : l = []
    · subst h
      rw [l1Int_step call k a0 (q + 1) 0 [] (by simp) h0 h1 (by simp)]
      have e : spell (Int.natAbs 0) [] = [UInt8.ofNat (48 + 0)] := by
        unfold spell
        rw [if_neg (by simp), Lib.decDigits, dif_pos (by decide)]; rfl
      rw [e]
      exact l1Int_end call k a0 q [UInt8.ofNat (48 + 0)] (List.cons_ne_nil _ _) (by show 1 ≤ 1000; omega)
    · rw [l1Int_end call k a0 (q + 1) l h (by omega), show spell (Int.natAbs 0) l = l from if_pos ⟨rfl, h⟩]
  | d + 1, v, l, q + 1, hv, hl, hq, h0, h1 => by
    by_cases h : v = 0 ∧ l ≠ []
    · obtain ⟨rfl, h⟩ := h
      rw [l1Int_end call k a0 q l h (by omega), show spell (Int.natAbs 0) l = l from if_pos ⟨rfl, h⟩]
    · obtain ⟨_, _, _, _, hq2⟩ := next_digit v
      have h10 : v.natAbs / 10 < 10 ^ d := by rw [Nat.div_lt_iff_lt_mul (by omega)]; rw [Nat.pow_succ] at hv; exact hv
      rw [l1Int_step call k a0 q v l h h0 h1 (by omega), l1Int_loop call k a0 d (v.tdiv 10) _ q (by rw [hq2]; exact h10) (by simp only [List.length_cons]; omega) (by omega) (by omega) (by omega), hq2,
        ← spell_step v.natAbs l (fun e => h ⟨by omega, e.2⟩)]
  | 0, v, l, 0, _, _, hq, _, _ => by omega
  | 0, v, l, 1, _, _, hq, _, _ => by omega
  | d + 1, v, l, 0, _, _, hq, _, _ => by omega
/-- The reference's numeral is the usual one. -/
theorem l1Int_spells (call : Cl) (k : Nat) (hk : 30 ≤ k) (n : Int) (h0 : -9223372036854775808 ≤ n) (h1 : n ≤ 9223372036854775807) : spec_l1Int.F call k n = some ((ba (Lib.itoa n), ()), ()) := by
  show spec_l1Int.L0 call k n k n (ba []) = _
  rw [l1Int_loop call k n 20 n [] k (by omega) (by simp) (by omega) h0 h1]
  have hs : ∀ u, spell u [] = Lib.decDigits u := fun u => by unfold spell; rw [if_neg (by simp), List.append_nil]
  rw [hs]
  unfold Lib.itoa
  by_cases h : n < 0
  · rw [if_pos h, if_pos h]
  · rw [if_neg h, if_neg h, show n.natAbs = n.toNat by omega]
end Go.Proofs.YtbalepejjjmioaaDoor.Pf
