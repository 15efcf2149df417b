/- Dice and the draws' cursor. No condition. -/
import Derived.Test.YtcmgjdmhemfecaaPfTC
import Derived.Test.YtcmgjdmhemfecaaPfTq
namespace Go.Proofs.Ytcmgjdmhemfecaa.Pf
open Go Go.Pv


abbrev Dice := List Int × (Int × (Int × Unit))
def dOk (d : Dice) : Prop := d.1.length ≤ maxLen ∧ (∀ y ∈ d.1, 0 ≤ y ∧ y ≤ 255) ∧ 0 ≤ d.2.1
theorem bitsI_and_le {k : IntKind} {x y : Int} (hy : 0 ≤ y) (hk : k = .u64 ∨ k = .i64) (hy2 : y ≤ 9223372036854775807) : 0 ≤ bitsI .and k x y ∧ bitsI .and k x y ≤ y := by
  obtain ⟨n, rfl⟩ : ∃ n : Nat, y = n := ⟨y.toNat, by omega⟩
  unfold bitsI
  dsimp only
  have hb : k.bits = 64 := by rcases hk with rfl | rfl <;> rfl
  have h1 : (BitVec.ofInt k.bits x &&& BitVec.ofInt k.bits (n : Int)).toNat ≤ n := by
    rw [BitVec.toNat_and]
    refine Nat.le_trans Nat.and_le_right ?_
    rw [BitVec.toNat_ofInt, hb]
    have : ((n : Int) % ((2 ^ 64 : Nat) : Int)) = n := Int.emod_eq_of_lt (by omega) (by omega)
    rw [this]; simp
  generalize (BitVec.ofInt k.bits x &&& BitVec.ofInt k.bits (n : Int)).toNat = z at *
  have : k.wrap (z : Int) = z := by
    rcases hk with rfl | rfl
    · simp only [IntKind.wrap, IntKind.bits, IntKind.signed, Bool.false_and]
      split
      · rename_i h; cases h
      · omega
    · exact w64 (by omega) (by omega)
  rw [this]; omega
theorem below_ans (d : Dice) {n : Int} (hd : dOk d) (hn : 0 < n) : ∃ x d', dOk d' ∧ (0 ≤ x ∧ x < n) ∧ Ans 55 s_laws_dice_below (d, n, ()) ((x, ()), d', ()) := by
  obtain ⟨h1, h2, h3⟩ := hd
  rw [maxLen_eq] at h1
  have hF := fun k => laws_dice_below.F_eq (cl k) k d n
  have hb := bitsI_and_le (k := .u64) (x := shrI IntKind.u64 (IntKind.u64.wrap (IntKind.u64.wrap (d.2.2.1 * (6364136223846793005 : Int)) + (1442695040888963407 : Int))) (33 : Int)) (y := 16777215) (by omega) (.inl rfl) (by omega)
  generalize hz : bitsI .and .u64 (shrI IntKind.u64 (IntKind.u64.wrap (IntKind.u64.wrap (d.2.2.1 * (6364136223846793005 : Int)) + (1442695040888963407 : Int))) (33 : Int)) 16777215 = z at hb
  by_cases h : d.2.1 < (d.1.length : Int)
  · have hi : d.2.1.toNat < d.1.length := by omega
    have hy := h2 _ (List.getElem_mem hi)
    have e : IntKind.i64.wrap (IntKind.i64.wrap z + IntKind.i64.wrap d.1[d.2.1.toNat]) = z + d.1[d.2.1.toNat] := by
      rw [w64 (x := z) (by omega) (by omega), w64 (x := d.1[d.2.1.toNat]) (by omega) (by omega), w64 (by omega) (by omega)]
    refine ⟨(z + d.1[d.2.1.toNat]).tmod n, (d.1, IntKind.i64.wrap (d.2.1 + 1), IntKind.u64.wrap (IntKind.u64.wrap (d.2.2.1 * (6364136223846793005 : Int)) + (1442695040888963407 : Int)), d.2.2.2), ⟨maxLen_eq ▸ h1, h2, ?_⟩, ⟨Int.tmod_nonneg _ (by omega), Int.tmod_lt_of_pos _ hn⟩, Ans.of hF (.all fun k => ?_)⟩
    · show 0 ≤ IntKind.i64.wrap (d.2.1 + 1)
      rw [w64 (by omega) (by omega)]; omega
    · unfold laws_dice_below.F laws_dice_below.Fm
      refine bif_t (decide_eq_true h) (bif_t (decide_eq_true h3) (bind_k (lgn hi) (bif_f (decide_eq_false (show ¬ n = 0 by omega)) ?_)))
      rw [hz, e]
  · have e : IntKind.i64.wrap z = z := w64 (by omega) (by omega)
    refine ⟨z.tmod n, (d.1, d.2.1, IntKind.u64.wrap (IntKind.u64.wrap (d.2.2.1 * (6364136223846793005 : Int)) + (1442695040888963407 : Int)), d.2.2.2), ⟨maxLen_eq ▸ h1, h2, h3⟩, ⟨Int.tmod_nonneg _ (by omega), Int.tmod_lt_of_pos _ hn⟩, Ans.of hF (.all fun k => ?_)⟩
    unfold laws_dice_below.F laws_dice_below.Fm
    refine bif_f (decide_eq_false h) (bif_f (decide_eq_false (show ¬ n = 0 by omega)) ?_)
    rw [hz, e]
theorem roll_ans (code : List Int) (seed : Int) (h1 : code.length ≤ maxLen) (h2 : ∀ y ∈ code, 0 ≤ y ∧ y ≤ 255) : ∃ d, dOk d ∧ Ans 54 s_laws_roll (code, seed, ()) ((d, ()), ()) := by
  have hl := h1
  rw [maxLen_eq] at hl
  have key : ∀ (n j : Nat) (h : Int), code.length - j = n → ∃ h', ∀ k q, n < q → laws_roll.L0 (cl k) k code q (j : Int) h = some (((code, 0, h', ()), ()), ()) := by
    intro n
    induction n with
    | zero =>
      intro j h hn
      refine ⟨h, fun k q hq => ?_⟩
      obtain ⟨q, rfl⟩ : ∃ p, q = p + 1 := ⟨q - 1, by omega⟩
      simp only [laws_roll.L0, laws_roll.step0, dnlt (show code.length ≤ j by omega), cond_false]
    | succ n ih =>
      intro j h hn
      have hj : j < code.length := by omega
      obtain ⟨h', ih⟩ := ih (j + 1) (IntKind.u64.wrap (IntKind.u64.wrap (IntKind.u64.wrap (h * (1099511628211 : Int)) + IntKind.u64.wrap code[j]) + (3 : Int))) (by omega)
      refine ⟨h', fun k q hq => ?_⟩
      obtain ⟨q, rfl⟩ : ∃ p, q = p + 1 := ⟨q - 1, by omega⟩
      simp only [laws_roll.L0, laws_roll.step0, dlt hj, cond_true, dle0, lg hj, Option.bind_some, ws hj hl]
      exact ih k q (by omega)
  obtain ⟨h', hk⟩ := key code.length 0 (IntKind.u64.wrap (IntKind.u64.wrap (seed * (7919 : Int)) + IntKind.u64.wrap (code.length : Int))) rfl
  exact ⟨(code, 0, h', ()), ⟨h1, h2, Int.le_refl _⟩, Ans.of (fun k => laws_roll.F_eq (cl k) k code seed) ((Ev.ge (code.length + 1)).mono fun k hge => hk k k (by omega))⟩
theorem big_ans (code : List Int) : Ans 53 s_laws_big (code, ()) ((decide ((code.length : Int) > 4096), ()), ()) := Ans.of (fun k => laws_big.F_eq (cl k) k code) (.all fun _ => rfl)

theorem u8_of {y : Int} (h : Fits (.int .u8) y) : 0 ≤ y ∧ y ≤ 255 := ⟨h.1, h.2⟩


theorem new_gv (code : List Int) (h1 : code.length ≤ maxLen) (h2 : ∀ y ∈ code, 0 ≤ y ∧ y ≤ 255) : Gv 129 s_spec_l1New (code, ()) fun (r : (Dice × Unit) × Unit) => dOk r.1.1 := by
  have hl := h1
  rw [maxLen_eq] at hl
  have key : ∀ (n j : Nat) (h : Int), code.length - j = n → Tq (n + 1) (fun k q => spec_l1New.L0 (cl k) k code q h (j : Int)) fun r => dOk r.1.1 := by
    intro n
    induction n with
    | zero =>
      intro j h hn
      exact .succ (.bf (dnlt (show code.length ≤ j by omega)) (.ret ⟨h1, h2, Int.le_refl _⟩))
    | succ n ih =>
      intro j h hn
      have hj : j < code.length := by omega
      refine .succ (.bt (dlt hj) (.bt (dle0 j) (.some (lg hj) ?_)))
      have := ih (j + 1) (bitsI BinOp.and IntKind.i64 (IntKind.i64.wrap (IntKind.i64.wrap (IntKind.i64.wrap (h * (181 : Int)) + IntKind.i64.wrap code[j]) + (11 : Int))) (1073741823 : Int)) (by omega)
      simp only [ws hj hl]
      exact this
  exact .of (fun k => spec_l1New.F_eq (cl k) k code) (key _ 0 _ rfl).diag
theorem byte_gv (c : Dice) (hc : dOk c) : Gv 163 s_spec_l1Byte (c, ()) fun (r : (Int × Unit) × (Dice × Unit)) => dOk r.2.1 ∧ 0 ≤ r.1.1 ∧ r.1.1 ≤ 255 := by
  obtain ⟨h1, h2, h3⟩ := hc
  have hl := h1
  rw [maxLen_eq] at hl
  refine .of (fun k => spec_l1Byte.F_eq (cl k) k c) (.bif (fun e => ?_) fun e => ?_)
  · have e := of_decide_eq_true e
    have hi : c.2.1.toNat < c.1.length := by omega
    refine .bt (decide_eq_true h3) (.some (lgn hi) (.ret ⟨⟨h1, h2, ?_⟩, bitsI_and_le (by omega) (.inr rfl) (by omega)⟩))
    show 0 ≤ IntKind.i64.wrap (c.2.1 + 1)
    rw [w64 (by omega) (by omega)]; omega
  · exact .ret ⟨⟨h1, h2, h3⟩, bitsI_and_le (by omega) (.inr rfl) (by omega)⟩
theorem below_gv (c : Dice) (n : Int) (hc : dOk c) : Gv 144 s_spec_l1Below (c, n, ()) fun (r : (Int × Unit) × (Dice × Unit)) => dOk r.2.1 ∧ (0 < n → 0 ≤ r.1.1 ∧ r.1.1 < n) ∧ 0 ≤ r.1.1 := by
  refine .of (fun k => spec_l1Below.F_eq (cl k) k c n) (.bif (fun e => ?_) fun e => ?_)
  · have e := of_decide_eq_true e
    exact .ret ⟨hc, fun h => by omega, Int.le_refl _⟩
  · have e := of_decide_eq_false e
    refine .bif (fun e2 => ?_) fun e2 => ?_
    · refine .bind (byte_gv c hc).tq fun x ⟨hx, x0, x1⟩ => .bf (decide_eq_false (by omega)) (.ret ⟨hx, fun h => ?_, Int.tmod_nonneg _ x0⟩)
      exact ⟨Int.tmod_nonneg _ x0, Int.tmod_lt_of_pos _ h⟩
    · refine .bind (byte_gv c hc).tq fun x ⟨hx, x0, x1⟩ => .bind (byte_gv x.2.1 hx).tq fun y ⟨hy, y0, y1⟩ => .bind (byte_gv y.2.1 hy).tq fun z ⟨hz, z0, z1⟩ => .bind (byte_gv z.2.1 hz).tq fun t ⟨ht, t0, t1⟩ => .bf (decide_eq_false (by omega)) (.ret ⟨ht, ?_⟩)
      have w1 : IntKind.i64.wrap (x.1.1 * 16777216) = x.1.1 * 16777216 := w64 (by omega) (by omega)
      have w2 : IntKind.i64.wrap (y.1.1 * 65536) = y.1.1 * 65536 := w64 (by omega) (by omega)
      have w3 : IntKind.i64.wrap (z.1.1 * 256) = z.1.1 * 256 := w64 (by omega) (by omega)
      rw [w1, w2, w3, w64 (x := x.1.1 * 16777216 + y.1.1 * 65536) (by omega) (by omega), w64 (x := x.1.1 * 16777216 + y.1.1 * 65536 + z.1.1 * 256) (by omega) (by omega), w64 (by omega) (by omega)]
      exact ⟨fun h => ⟨Int.tmod_nonneg _ (by omega), Int.tmod_lt_of_pos _ h⟩, Int.tmod_nonneg _ (by omega)⟩
theorem once_gv (c : Dice) (n : Int) (hc : dOk c) : Gv 131 s_spec_l1Once (c, n, ()) fun (r : (Bool × Unit) × (Dice × Unit)) => dOk r.2.1 :=
  .of (fun k => spec_l1Once.F_eq (cl k) k c n) (.bind (below_gv c n hc).tq fun _ h => .ret h.1)
theorem from_gv (c : Dice) (a b : Int) (hc : dOk c) : Gv 157 s_spec_l1From (c, a, b, ()) fun (r : (Int × Unit) × (Dice × Unit)) => dOk r.2.1 :=
  .of (fun k => spec_l1From.F_eq (cl k) k c a b) (.bind (below_gv c _ hc).tq fun _ h => .ret h.1)
theorem odd_gv (c : Dice) (hc : dOk c) : Gv 161 s_spec_l1Odd (c, ()) fun (r : (Int × Unit) × (Dice × Unit)) => dOk r.2.1 := by
  refine .of (fun k => spec_l1Odd.F_eq (cl k) k c) (.bind (below_gv c 10 hc).tq fun x ⟨hx, h, _⟩ => ?_)
  have h := h (by omega)
  have hi : ∀ l : List Int, l.length = 10 → x.1.1.toNat < l.length := fun l hl => by omega
  exact .bt (by rw [decide_eq_true h.1, decide_eq_true (hi _ rfl)]; rfl) (.some (lgn (hi _ rfl)) (.ret hx))
theorem min_ans (a b : Int) : Ans 164 s_spec_l1Min (a, b, ()) ((min a b, ()), ()) := by
  refine Ans.of (fun k => spec_l1Min.F_eq (cl k) k a b) (.all fun k => ?_)
  unfold spec_l1Min.F spec_l1Min.Fm
  by_cases h : a < b
  · rw [decide_eq_true h, Int.min_eq_left (by omega)]; rfl
  · rw [decide_eq_false h, Int.min_eq_right (by omega)]; rfl
theorem num_gv (c : Dice) (n : Int) (hc : dOk c) : Gv 156 s_spec_l1Num (c, n, ()) fun (r : (Int × Unit) × (Dice × Unit)) => dOk r.2.1 := by
  refine .of (fun k => spec_l1Num.F_eq (cl k) k c n) (.bind (once_gv c 10 hc).tq fun x hx => .bif (fun _ => ?_) fun _ => ?_)
  · refine .bind (odd_gv x.2.1 hx).tq fun y hy => .bind (below_gv y.2.1 4 hy).tq fun z ⟨hz, h, _⟩ => ?_
    have h := h (by omega)
    have hi : ∀ l : List Int, l.length = 4 → z.1.1.toNat < l.length := fun l hl => by omega
    exact .bt (by rw [decide_eq_true h.1, decide_eq_true (hi _ rfl)]; rfl) (.some (lgn (hi _ rfl)) (.ret hz))
  · refine .bind (once_gv x.2.1 2 hx).tq fun y hy => .bif (fun _ => ?_) fun _ => ?_
    · exact .bind (min_ans n 4).tq fun _ _ => .bind (below_gv y.2.1 _ hy).tq fun z hz => .ret hz.1
    · exact .bind (below_gv y.2.1 _ hy).tq fun z hz => .ret hz.1


end Go.Proofs.Ytcmgjdmhemfecaa.Pf
