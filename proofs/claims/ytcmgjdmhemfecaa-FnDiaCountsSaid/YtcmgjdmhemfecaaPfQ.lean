/- What a text answers, told by what is known of it alone; draws by a cursor. No condition. -/
import Derived.Test.YtcmgjdmhemfecaaPfP
namespace Go.Proofs.Ytcmgjdmhemfecaa.Pf
open Go Go.Pv

/-! ### From some number of calls on, with d rounds or more -/
def Tq {α : Type} (d : Nat) (f : Nat → Nat → Option α) (P : α → Prop) : Prop := ∃ r, P r ∧ ∃ k0, ∀ k, k0 ≤ k → ∀ q, d ≤ q → f k q = some r
section
variable {α β : Type} {d : Nat} {P : α → Prop} {Q : β → Prop}
theorem Tq.ret {r : α} (h : P r) : Tq d (fun _ _ => some r) P := ⟨r, h, 0, fun _ _ _ _ => rfl⟩
theorem Tq.bind {f : Nat → Nat → Option α} {K : Nat → Nat → α → Option β} (h : Tq d f P) (hK : ∀ x, P x → Tq d (fun k q => K k q x) Q) : Tq d (fun k q => (f k q).bind (K k q)) Q := by
  obtain ⟨x, hx, k0, h⟩ := h
  obtain ⟨r, hr, k1, hK⟩ := hK x hx
  refine ⟨r, hr, max k0 k1, fun k hk q hq => ?_⟩
  show (f k q).bind (K k q) = some r
  rw [h k (by omega) q hq]; exact hK k (by omega) q hq
theorem Tq.some {x : α} {f : Option α} {K : Nat → Nat → α → Option β} (h : f = .some x) (hK : Tq d (fun k q => K k q x) Q) : Tq d (fun k q => f.bind (K k q)) Q := by
  rw [h]; exact hK
theorem Tq.bif {c : Bool} {a b : Nat → Nat → Option α} (ha : c = true → Tq d a P) (hb : c = false → Tq d b P) : Tq d (fun k q => bif c then a k q else b k q) P := by
  cases c with
  | true => exact ha rfl
  | false => exact hb rfl
theorem Tq.bt {c : Bool} {a b : Nat → Nat → Option α} (h : c = true) (ha : Tq d a P) : Tq d (fun k q => bif c then a k q else b k q) P := .bif (fun _ => ha) fun e => by rw [h] at e; cases e
theorem Tq.bf {c : Bool} {a b : Nat → Nat → Option α} (h : c = false) (hb : Tq d b P) : Tq d (fun k q => bif c then a k q else b k q) P := .bif (fun e => by rw [h] at e; cases e) fun _ => hb
theorem Tq.mono {f : Nat → Nat → Option α} {P Q : α → Prop} (h : Tq d f P) (hPQ : ∀ x, P x → Q x) : Tq d f Q := by
  obtain ⟨r, hr, h⟩ := h
  exact ⟨r, hPQ r hr, h⟩
theorem Tq.succ {f : Nat → Nat → Option α} (h : Tq d (fun k q => f k (q + 1)) P) : Tq (d + 1) f P := by
  obtain ⟨r, hr, k0, h⟩ := h
  refine ⟨r, hr, k0, fun k hk q hq => ?_⟩
  obtain ⟨q, rfl⟩ : ∃ p, q = p + 1 := ⟨q - 1, by omega⟩
  exact h k hk q (by omega)
theorem Tq.diag {f : Nat → Nat → Option α} {e : Nat} (h : Tq d f P) : Tq e (fun k _ => f k k) P := by
  obtain ⟨r, hr, k0, h⟩ := h
  exact ⟨r, hr, max k0 d, fun k hk q _ => h k (by omega) k (by omega)⟩
theorem Tq.lift {f : Nat → Option α} {e : Nat} (h : Tq d (fun k _ => f k) P) : Tq e (fun k _ => f k) P := by
  obtain ⟨r, hr, k0, h⟩ := h
  exact ⟨r, hr, k0, fun k hk q _ => h k hk d (Nat.le_refl _)⟩
theorem Tq.eq {f g : Nat → Nat → Option α} (h : Tq d g P) (e : ∀ k q, f k q = g k q) : Tq d f P := by
  obtain ⟨r, hr, k0, h⟩ := h
  exact ⟨r, hr, k0, fun k hk q hq => (e k q).trans (h k hk q hq)⟩
end
/-- A function answers something of which so much is known. -/
def Gv (g : Nat) (s : Sg) (l : s.A.den) (P : s.R.den → Prop) : Prop := ∃ r, P r ∧ Ans g s l r
theorem Gv.tq {g : Nat} {s : Sg} {l : s.A.den} {P : s.R.den → Prop} {d : Nat} (h : Gv g s l P) : Tq d (fun k _ => cl k g s l) P := by
  obtain ⟨r, hr, k0, h⟩ := h
  exact ⟨r, hr, k0, fun k hk _ _ => h k hk⟩
theorem Ans.tq {g : Nat} {s : Sg} {l : s.A.den} {r : s.R.den} {d : Nat} (h : Ans g s l r) : Tq d (fun k _ => cl k g s l) (· = r) := Gv.tq ⟨r, rfl, h⟩
theorem Gv.of {g : Nat} {s : Sg} {l : s.A.den} {P : s.R.den → Prop} {f : Nat → Option s.R.den} (he : ∀ k, bodyK E (cl k) g k s l = f k) (h : Tq 0 (fun k _ => f k) P) : Gv g s l P := by
  obtain ⟨r, hr, k0, h⟩ := h
  exact ⟨r, hr, Ans.of he ⟨k0, fun k hk => h k hk 0 (Nat.le_refl _)⟩⟩
theorem Gv.ans {g : Nat} {s : Sg} {l : s.A.den} {r : s.R.den} (h : Gv g s l (· = r)) : Ans g s l r := by
  obtain ⟨_, rfl, h⟩ := h
  exact h
theorem Tq.ev {P : Nat → Prop} (h : Ev P) : ∃ k0, ∀ k, k0 ≤ k → P k := h

/-! ### The cursor -/
theorem new_gv (code : List Int) (h1 : code.length ≤ maxLen) (h2 : ∀ y ∈ code, 0 ≤ y ∧ y ≤ 255) : Gv 129 s_spec_l1New (code, ()) fun (r : (Dice × Unit) × Unit) => dOk r.1.1 := by
  have hl := h1
  rw [maxLen_eq] at hl
  have key : ∀ (n j : Nat) (h : Int), code.length - j = n → Tq (n + 1) (fun k q => spec_l1New.L0 (cl k) k code q h (j : Int)) fun r => dOk r.1.1 := by
    intro n
    induction n with
    | zero =>
      intro j h hn
      exact .succ (.bf (dnlt (show code.length ≤ j by omega)) (.ret ⟨h1, h2, Int.le_refl _⟩))
    | succ n ih =>
      intro j h hn
      have hj : j < code.length := by omega
      refine .succ (.bt (dlt hj) (.bt (dle0 j) (.some (lg hj) ?_)))
      have := ih (j + 1) (bitsI BinOp.and IntKind.i64 (IntKind.i64.wrap (IntKind.i64.wrap (IntKind.i64.wrap (h * (181 : Int)) + IntKind.i64.wrap code[j]) + (11 : Int))) (1073741823 : Int)) (by omega)
      simp only [ws hj hl]
      exact this
  exact .of (fun k => spec_l1New.F_eq (cl k) k code) (key _ 0 _ rfl).diag
theorem byte_gv (c : Dice) (hc : dOk c) : Gv 163 s_spec_l1Byte (c, ()) fun (r : (Int × Unit) × (Dice × Unit)) => dOk r.2.1 ∧ 0 ≤ r.1.1 ∧ r.1.1 ≤ 255 := by
  obtain ⟨h1, h2, h3⟩ := hc
  have hl := h1
  rw [maxLen_eq] at hl
  refine .of (fun k => spec_l1Byte.F_eq (cl k) k c) (.bif (fun e => ?_) fun e => ?_)
  · have e := of_decide_eq_true e
    have hi : c.2.1.toNat < c.1.length := by omega
    refine .bt (decide_eq_true h3) (.some (lgn hi) (.ret ⟨⟨h1, h2, ?_⟩, bitsI_and_le (by omega) (.inr rfl) (by omega)⟩))
    show 0 ≤ IntKind.i64.wrap (c.2.1 + 1)
    rw [w64 (by omega) (by omega)]; omega
  · exact .ret ⟨⟨h1, h2, h3⟩, bitsI_and_le (by omega) (.inr rfl) (by omega)⟩
theorem below_gv (c : Dice) (n : Int) (hc : dOk c) : Gv 144 s_spec_l1Below (c, n, ()) fun (r : (Int × Unit) × (Dice × Unit)) => dOk r.2.1 ∧ (0 < n → 0 ≤ r.1.1 ∧ r.1.1 < n) ∧ 0 ≤ r.1.1 := by
  refine .of (fun k => spec_l1Below.F_eq (cl k) k c n) (.bif (fun e => ?_) fun e => ?_)
  · have e := of_decide_eq_true e
    exact .ret ⟨hc, fun h => by omega, Int.le_refl _⟩
  · have e := of_decide_eq_false e
    refine .bif (fun e2 => ?_) fun e2 => ?_
    · refine .bind (byte_gv c hc).tq fun x ⟨hx, x0, x1⟩ => .bf (decide_eq_false (by omega)) (.ret ⟨hx, fun h => ?_, Int.tmod_nonneg _ x0⟩)
      exact ⟨Int.tmod_nonneg _ x0, Int.tmod_lt_of_pos _ h⟩
    · refine .bind (byte_gv c hc).tq fun x ⟨hx, x0, x1⟩ => .bind (byte_gv x.2.1 hx).tq fun y ⟨hy, y0, y1⟩ => .bind (byte_gv y.2.1 hy).tq fun z ⟨hz, z0, z1⟩ => .bind (byte_gv z.2.1 hz).tq fun t ⟨ht, t0, t1⟩ => .bf (decide_eq_false (by omega)) (.ret ⟨ht, ?_⟩)
      have w1 : IntKind.i64.wrap (x.1.1 * 16777216) = x.1.1 * 16777216 := w64 (by omega) (by omega)
      have w2 : IntKind.i64.wrap (y.1.1 * 65536) = y.1.1 * 65536 := w64 (by omega) (by omega)
      have w3 : IntKind.i64.wrap (z.1.1 * 256) = z.1.1 * 256 := w64 (by omega) (by omega)
      rw [w1, w2, w3, w64 (x := x.1.1 * 16777216 + y.1.1 * 65536) (by omega) (by omega), w64 (x := x.1.1 * 16777216 + y.1.1 * 65536 + z.1.1 * 256) (by omega) (by omega), w64 (by omega) (by omega)]
      exact ⟨fun h => ⟨Int.tmod_nonneg _ (by omega), Int.tmod_lt_of_pos _ h⟩, Int.tmod_nonneg _ (by omega)⟩
theorem once_gv (c : Dice) (n : Int) (hc : dOk c) : Gv 131 s_spec_l1Once (c, n, ()) fun (r : (Bool × Unit) × (Dice × Unit)) => dOk r.2.1 :=
  .of (fun k => spec_l1Once.F_eq (cl k) k c n) (.bind (below_gv c n hc).tq fun _ h => .ret h.1)
theorem from_gv (c : Dice) (a b : Int) (hc : dOk c) : Gv 157 s_spec_l1From (c, a, b, ()) fun (r : (Int × Unit) × (Dice × Unit)) => dOk r.2.1 :=
  .of (fun k => spec_l1From.F_eq (cl k) k c a b) (.bind (below_gv c _ hc).tq fun _ h => .ret h.1)
theorem odd_gv (c : Dice) (hc : dOk c) : Gv 161 s_spec_l1Odd (c, ()) fun (r : (Int × Unit) × (Dice × Unit)) => dOk r.2.1 := by
  refine .of (fun k => spec_l1Odd.F_eq (cl k) k c) (.bind (below_gv c 10 hc).tq fun x ⟨hx, h, _⟩ => ?_)
  have h := h (by omega)
  have hi : ∀ l : List Int, l.length = 10 → x.1.1.toNat < l.length := fun l hl => by omega
  exact .bt (by rw [decide_eq_true h.1, decide_eq_true (hi _ rfl)]; rfl) (.some (lgn (hi _ rfl)) (.ret hx))
theorem min_ans (a b : Int) : Ans 164 s_spec_l1Min (a, b, ()) ((min a b, ()), ()) := by
  refine Ans.of (fun k => spec_l1Min.F_eq (cl k) k a b) (.all fun k => ?_)
  unfold spec_l1Min.F spec_l1Min.Fm
  by_cases h : a < b
  · rw [decide_eq_true h, Int.min_eq_left (by omega)]; rfl
  · rw [decide_eq_false h, Int.min_eq_right (by omega)]; rfl
theorem num_gv (c : Dice) (n : Int) (hc : dOk c) : Gv 156 s_spec_l1Num (c, n, ()) fun (r : (Int × Unit) × (Dice × Unit)) => dOk r.2.1 := by
  refine .of (fun k => spec_l1Num.F_eq (cl k) k c n) (.bind (once_gv c 10 hc).tq fun x hx => .bif (fun _ => ?_) fun _ => ?_)
  · refine .bind (odd_gv x.2.1 hx).tq fun y hy => .bind (below_gv y.2.1 4 hy).tq fun z ⟨hz, h, _⟩ => ?_
    have h := h (by omega)
    have hi : ∀ l : List Int, l.length = 4 → z.1.1.toNat < l.length := fun l hl => by omega
    exact .bt (by rw [decide_eq_true h.1, decide_eq_true (hi _ rfl)]; rfl) (.some (lgn (hi _ rfl)) (.ret hz))
  · refine .bind (once_gv x.2.1 2 hx).tq fun y hy => .bif (fun _ => ?_) fun _ => ?_
    · exact .bind (min_ans n 4).tq fun _ _ => .bind (below_gv y.2.1 _ hy).tq fun z hz => .ret hz.1
    · exact .bind (below_gv y.2.1 _ hy).tq fun z hz => .ret hz.1

/-! ### Drawn Dias -/
theorem ap1 {n : Nat} (h : n ≤ 10000000) : decide ((n + 1) * ti4.bytes ≤ (140737488355328 : Nat)) = true := decide_eq_true (by show (n + 1) * 1 ≤ _; omega)
theorem draw_gv (c : Dice) (m : Nat) (hm : m ≤ 10) (hc : dOk c) : Gv 132 s_spec_l13Draw (c, (m : Int), ()) fun (r : (Dia × Unit) × (Dice × Unit)) => dOk r.2.1 ∧ ∃ t, t.length = 2 ^ m ∧ r.1.1 = mkDia m t := by
  have hp := pow10 hm
  refine .of (fun k => spec_l13Draw.F_eq (cl k) k c (m : Int)) (.bind (below_gv c 5 hc).tq fun y ⟨hy, h, _⟩ => ?_)
  have h := h (by omega)
  have key : ∀ (n j : Nat) (t : List Bool) (c : Dice), dOk c → 2 ^ m - j = n → j ≤ 2 ^ m → t.length = j → Tq (n + 1) (fun k q => spec_l13Draw.L0 (cl k) k (m : Int) y q (j : Int) t c.1 c.2.1 c.2.2.1) fun r => dOk r.2.1 ∧ ∃ t, t.length = 2 ^ m ∧ r.1.1 = mkDia m t := by
    intro n
    induction n with
    | zero =>
      intro j t c hc hn hj ht
      refine .succ (.bind (l13Size_ans m hm).tq fun z hz => ?_)
      subst hz
      refine .bf (dnlt (show 2 ^ m ≤ j by omega)) (.bind (l13Make_ans m t hm (by omega)).tq fun z hz => ?_)
      subst hz
      exact .ret ⟨hc, t, by omega, rfl⟩
    | succ n ih =>
      intro j t c hc hn hj ht
      refine .succ (.bind (l13Size_ans m hm).tq fun z hz => ?_)
      subst hz
      have hj' : j < 2 ^ m := by omega
      have hw : IntKind.i64.wrap ((j : Int) + 1) = ((j + 1 : Nat) : Int) := ws hj' (by omega)
      refine .bt (dlt hj') (.bif (fun _ => ?_) fun _ => .bif (fun _ => ?_) fun _ => ?_)
      · refine .bind (once_gv c 2 hc).tq fun x hx => .bt (ap1 (by omega)) ?_
        simp only [hw]
        exact ih (j + 1) _ x.2.1 hx (by omega) (by omega) (by rw [List.length_append, ht]; rfl)
      · refine .bind (once_gv c 6 hc).tq fun x hx => .bt (ap1 (by omega)) ?_
        simp only [hw]
        exact ih (j + 1) _ x.2.1 hx (by omega) (by omega) (by rw [List.length_append, ht]; rfl)
      · have hw2 : IntKind.i64.wrap (1 + y.1.1) = 1 + y.1.1 := w64 (by omega) (by omega)
        refine .bf (by rw [hw2]; exact decide_eq_false (by omega)) (.bt (ap1 (by omega)) ?_)
        simp only [hw]
        exact ih (j + 1) _ c hc (by omega) (by omega) (by rw [List.length_append, ht]; rfl)
  exact (key _ 0 [] y.2.1 hy rfl (Nat.zero_le _) rfl).diag
theorem ap92 {n : Nat} (h : n ≤ 1000000) : decide ((n + 1) * ti92.bytes ≤ (140737488355328 : Nat)) = true := decide_eq_true (by show (n + 1) * 24 ≤ _; omega)
theorem drawAny_gv (c : Dice) (hc : dOk c) : Gv 130 s_spec_l13DrawAny (c, ()) fun (r : (Dia × Unit) × (Dice × Unit)) => dOk r.2.1 ∧ r.1.1.2.2.1.length ≤ 1024 := by
  refine .of (fun k => spec_l13DrawAny.F_eq (cl k) k c) (.bind (below_gv c 6 hc).tq fun y ⟨hy, h, _⟩ => .bind (once_gv y.2.1 30 hy).tq fun z hz => ?_)
  have h := h (by omega)
  obtain ⟨v, hv⟩ := Int.eq_ofNat_of_zero_le h.1
  have hv10 : v ≤ 10 := by have := h.2; rw [hv] at this; omega
  refine .bif (fun _ => .bind (draw_gv z.2.1 10 (by omega) hz).tq fun d ⟨hd, t, ht, e⟩ => ?_) fun _ => .bind (hv ▸ draw_gv z.2.1 v hv10 hz).tq fun d ⟨hd, t, ht, e⟩ => ?_
  all_goals
    have hl : d.1.1.2.2.1.length ≤ 1023 := by rw [e]; exact mkDia_len _ t (by omega)
    refine .bind (once_gv d.2.1 8 hd).tq fun x hx => .bif (fun _ => ?_) fun _ => .ret ⟨hx, by show d.1.1.2.2.1.length ≤ 1024; omega⟩
    refine .bind (below_gv x.2.1 4 hx).tq fun u ⟨hu, _, _⟩ => ?_
    refine .bif (fun _ => .bind (num_gv u.2.1 10 hu).tq fun a ha => .ret ⟨ha, by show d.1.1.2.2.1.length ≤ 1024; omega⟩) fun _ => ?_
    refine .bif (fun _ => .bind (from_gv u.2.1 _ _ hu).tq fun a ha => .ret ⟨ha, by show d.1.1.2.2.1.length ≤ 1024; omega⟩) fun _ => ?_
    refine .bif (fun _ => .bif (fun e3 => ?_) fun _ => .ret ⟨hu, by show d.1.1.2.2.1.length ≤ 1024; omega⟩) fun _ => ?_
    · have e3 := of_decide_eq_true e3
      refine .bind (below_gv u.2.1 _ hu).tq fun a ⟨ha, h, _⟩ => .bind (from_gv a.2.1 _ _ ha).tq fun b hb => .bind (below_gv b.2.1 _ hb).tq fun c ⟨hc, _⟩ => .bind (below_gv c.2.1 _ hc).tq fun e ⟨he, _⟩ => ?_
      have h := h (by omega)
      have hi : a.1.1.toNat < d.1.1.2.2.1.length := by omega
      exact .bt (by rw [decide_eq_true h.1, decide_eq_true hi]; rfl) (.some (lgn hi) (.ret ⟨he, by show (List.set _ _ _).length ≤ 1024; rw [List.length_set]; omega⟩))
    refine .bif (fun _ => ?_) fun _ => .ret ⟨hu, by show d.1.1.2.2.1.length ≤ 1024; omega⟩
    refine .bind (below_gv u.2.1 _ hu).tq fun a ⟨ha, _⟩ => .bind (below_gv a.2.1 _ ha).tq fun b ⟨hb, _⟩ => .bind (below_gv b.2.1 _ hb).tq fun c ⟨hc, _⟩ => ?_
    exact .bt (ap92 (by omega)) (.ret ⟨hc, by show (d.1.1.2.2.1 ++ [_]).length ≤ 1024; rw [List.length_append]; show _ + 1 ≤ _; omega⟩)
theorem drawAnd_gv (code : List Int) (h1 : code.length ≤ maxLen) (h2 : ∀ y ∈ code, 0 ≤ y ∧ y ≤ 255) : Gv 75 s_spec_DrawAndDia (code, ()) fun (r : (Dia × (Dia × Unit)) × Unit) => r.1.1.2.2.1.length ≤ 1024 ∧ r.1.2.1.2.2.1.length ≤ 1024 := by
  refine .of (fun k => spec_DrawAndDia.F_eq (cl k) k code) (.bind (new_gv code h1 h2).tq fun c hc => .bind (drawAny_gv c.1.1 hc).tq fun a ⟨ha, la⟩ => .bind (once_gv a.2.1 8 ha).tq fun o ho => .bif (fun _ => ?_) fun _ => ?_)
  · exact .bind (drawAny_gv o.2.1 ho).tq fun b ⟨_, lb⟩ => .ret ⟨la, lb⟩
  · have hin : Gv 88 s_spec_l1In (a.1.1.1, (0 : Int), (10 : Int), ()) (· = ((decide (0 ≤ a.1.1.1) && decide (a.1.1.1 ≤ 10), ()), ())) := ⟨_, rfl, l1In_ev.mono fun k h => h _ _ _⟩
    refine .bind hin.tq fun i hi => ?_
    subst hi
    refine .bif (fun _ => .bind (drawAny_gv o.2.1 ho).tq fun b ⟨_, lb⟩ => .ret ⟨la, lb⟩) fun e => ?_
    simp only [Bool.not_eq_false', Bool.and_eq_true, decide_eq_true_eq] at e
    obtain ⟨v, hv⟩ := Int.eq_ofNat_of_zero_le e.1
    have hv10 : v ≤ 10 := by have := e.2; rw [hv] at this; exact Int.ofNat_le.1 (show ((v : Nat) : Int) ≤ ((10 : Nat) : Int) from this)
    exact .bind (hv ▸ draw_gv o.2.1 v hv10 ho).tq fun d ⟨hd, t, ht, e⟩ => .ret ⟨la, by show d.1.1.2.2.1.length ≤ 1024; rw [e]; have := mkDia_len v t hv10; omega⟩

theorem cnt_le : ∀ l : List Bool, 0 ≤ cnt l ∧ cnt l ≤ l.length
  | [] => ⟨Int.le_refl _, Int.le_refl _⟩
  | b :: l => by
    have h := cnt_le l
    have hb := bit_le b
    show 0 ≤ bit b + cnt l ∧ bit b + cnt l ≤ ((b :: l).length : Int)
    rw [List.length_cons]
    omega
theorem cnt_both (f g : Nat → Bool) : ∀ l : List Nat, cnt (l.map fun n => opB true (f n) (g n)) + cnt (l.map fun n => opB false (f n) (g n)) = cnt (l.map f) + cnt (l.map g)
  | [] => rfl
  | n :: l => by
    have h := cnt_both f g l
    show bit (opB true (f n) (g n)) + cnt (l.map fun n => opB true (f n) (g n)) + (bit (opB false (f n) (g n)) + cnt (l.map fun n => opB false (f n) (g n))) = bit (f n) + cnt (l.map f) + (bit (g n) + cnt (l.map g))
    have e : bit (opB true (f n) (g n)) + bit (opB false (f n) (g n)) = bit (f n) + bit (g n) := by cases f n <;> cases g n <;> rfl
    omega
theorem cnt_not (f : Nat → Bool) : ∀ l : List Nat, cnt (l.map fun n => !f n) = (l.length : Int) - cnt (l.map f)
  | [] => rfl
  | n :: l => by
    have h := cnt_not f l
    show bit (!f n) + cnt (l.map fun n => !f n) = ((n :: l).length : Int) - (bit (f n) + cnt (l.map f))
    have e : bit (!f n) + bit (f n) = 1 := by cases f n <;> rfl
    rw [List.length_cons]
    omega

end Go.Proofs.Ytcmgjdmhemfecaa.Pf
