/- Dice, pictures, the Dias' functions on functions of bits. No condition. -/
import Derived.Test.YtcmgjdmhemfecaaPfO
namespace Go.Proofs.Ytcmgjdmhemfecaa.Pf
open Go Go.Pv

/-! ### Steps through a text -/
theorem bind_k {α β : Type} {f : Option α} {x : α} {K : α → Option β} {r : Option β} (h : f = some x) (hK : K x = r) : f.bind K = r := by rw [h]; exact hK
theorem bif_t {α : Type} {c : Bool} {a b r : α} (h : c = true) (ha : a = r) : (bif c then a else b) = r := by rw [h]; exact ha
theorem bif_f {α : Type} {c : Bool} {a b r : α} (h : c = false) (hb : b = r) : (bif c then a else b) = r := by rw [h]; exact hb

/-! ### Dice -/
abbrev Dice := List Int × (Int × (Int × Unit))
def dOk (d : Dice) : Prop := d.1.length ≤ maxLen ∧ (∀ y ∈ d.1, 0 ≤ y ∧ y ≤ 255) ∧ 0 ≤ d.2.1
theorem bitsI_and_le {k : IntKind} {x y : Int} (hy : 0 ≤ y) (hk : k = .u64 ∨ k = .i64) (hy2 : y ≤ 9223372036854775807) : 0 ≤ bitsI .and k x y ∧ bitsI .and k x y ≤ y := by
  obtain ⟨n, rfl⟩ : ∃ n : Nat, y = n := ⟨y.toNat, by omega⟩
  unfold bitsI
  dsimp only
  have hb : k.bits = 64 := by rcases hk with rfl | rfl <;> rfl
  have h1 : (BitVec.ofInt k.bits x &&& BitVec.ofInt k.bits (n : Int)).toNat ≤ n := by
    rw [BitVec.toNat_and]
    refine Nat.le_trans Nat.and_le_right ?_
    rw [BitVec.toNat_ofInt, hb]
    have : ((n : Int) % ((2 ^ 64 : Nat) : Int)) = n := Int.emod_eq_of_lt (by omega) (by omega)
    rw [this]; simp
  generalize (BitVec.ofInt k.bits x &&& BitVec.ofInt k.bits (n : Int)).toNat = z at *
  have : k.wrap (z : Int) = z := by
    rcases hk with rfl | rfl
    · simp only [IntKind.wrap, IntKind.bits, IntKind.signed, Bool.false_and]
      split
      · rename_i h; cases h
      · omega
    · exact w64 (by omega) (by omega)
  rw [this]; omega
theorem below_ans (d : Dice) {n : Int} (hd : dOk d) (hn : 0 < n) : ∃ x d', dOk d' ∧ (0 ≤ x ∧ x < n) ∧ Ans 55 s_laws_dice_below (d, n, ()) ((x, ()), d', ()) := by
  obtain ⟨h1, h2, h3⟩ := hd
  rw [maxLen_eq] at h1
  have hF := fun k => laws_dice_below.F_eq (cl k) k d n
  have hb := bitsI_and_le (k := .u64) (x := shrI IntKind.u64 (IntKind.u64.wrap (IntKind.u64.wrap (d.2.2.1 * (6364136223846793005 : Int)) + (1442695040888963407 : Int))) (33 : Int)) (y := 16777215) (by omega) (.inl rfl) (by omega)
  generalize hz : bitsI .and .u64 (shrI IntKind.u64 (IntKind.u64.wrap (IntKind.u64.wrap (d.2.2.1 * (6364136223846793005 : Int)) + (1442695040888963407 : Int))) (33 : Int)) 16777215 = z at hb
  by_cases h : d.2.1 < (d.1.length : Int)
  · have hi : d.2.1.toNat < d.1.length := by omega
    have hy := h2 _ (List.getElem_mem hi)
    have e : IntKind.i64.wrap (IntKind.i64.wrap z + IntKind.i64.wrap d.1[d.2.1.toNat]) = z + d.1[d.2.1.toNat] := by
      rw [w64 (x := z) (by omega) (by omega), w64 (x := d.1[d.2.1.toNat]) (by omega) (by omega), w64 (by omega) (by omega)]
    refine ⟨(z + d.1[d.2.1.toNat]).tmod n, (d.1, IntKind.i64.wrap (d.2.1 + 1), IntKind.u64.wrap (IntKind.u64.wrap (d.2.2.1 * (6364136223846793005 : Int)) + (1442695040888963407 : Int)), d.2.2.2), ⟨maxLen_eq ▸ h1, h2, ?_⟩, ⟨Int.tmod_nonneg _ (by omega), Int.tmod_lt_of_pos _ hn⟩, Ans.of hF (.all fun k => ?_)⟩
    · show 0 ≤ IntKind.i64.wrap (d.2.1 + 1)
      rw [w64 (by omega) (by omega)]; omega
    · unfold laws_dice_below.F laws_dice_below.Fm
      refine bif_t (decide_eq_true h) (bif_t (decide_eq_true h3) (bind_k (lgn hi) (bif_f (decide_eq_false (show ¬ n = 0 by omega)) ?_)))
      rw [hz, e]
  · have e : IntKind.i64.wrap z = z := w64 (by omega) (by omega)
    refine ⟨z.tmod n, (d.1, d.2.1, IntKind.u64.wrap (IntKind.u64.wrap (d.2.2.1 * (6364136223846793005 : Int)) + (1442695040888963407 : Int)), d.2.2.2), ⟨maxLen_eq ▸ h1, h2, h3⟩, ⟨Int.tmod_nonneg _ (by omega), Int.tmod_lt_of_pos _ hn⟩, Ans.of hF (.all fun k => ?_)⟩
    unfold laws_dice_below.F laws_dice_below.Fm
    refine bif_f (decide_eq_false h) (bif_f (decide_eq_false (show ¬ n = 0 by omega)) ?_)
    rw [hz, e]
theorem roll_ans (code : List Int) (seed : Int) (h1 : code.length ≤ maxLen) (h2 : ∀ y ∈ code, 0 ≤ y ∧ y ≤ 255) : ∃ d, dOk d ∧ Ans 54 s_laws_roll (code, seed, ()) ((d, ()), ()) := by
  have hl := h1
  rw [maxLen_eq] at hl
  have key : ∀ (n j : Nat) (h : Int), code.length - j = n → ∃ h', ∀ k q, n < q → laws_roll.L0 (cl k) k code q (j : Int) h = some (((code, 0, h', ()), ()), ()) := by
    intro n
    induction n with
    | zero =>
      intro j h hn
      refine ⟨h, fun k q hq => ?_⟩
      obtain ⟨q, rfl⟩ : ∃ p, q = p + 1 := ⟨q - 1, by omega⟩
      simp only [laws_roll.L0, laws_roll.step0, dnlt (show code.length ≤ j by omega), cond_false]
    | succ n ih =>
      intro j h hn
      have hj : j < code.length := by omega
      obtain ⟨h', ih⟩ := ih (j + 1) (IntKind.u64.wrap (IntKind.u64.wrap (IntKind.u64.wrap (h * (1099511628211 : Int)) + IntKind.u64.wrap code[j]) + (3 : Int))) (by omega)
      refine ⟨h', fun k q hq => ?_⟩
      obtain ⟨q, rfl⟩ : ∃ p, q = p + 1 := ⟨q - 1, by omega⟩
      simp only [laws_roll.L0, laws_roll.step0, dlt hj, cond_true, dle0, lg hj, Option.bind_some, ws hj hl]
      exact ih k q (by omega)
  obtain ⟨h', hk⟩ := key code.length 0 (IntKind.u64.wrap (IntKind.u64.wrap (seed * (7919 : Int)) + IntKind.u64.wrap (code.length : Int))) rfl
  exact ⟨(code, 0, h', ()), ⟨h1, h2, Int.le_refl _⟩, Ans.of (fun k => laws_roll.F_eq (cl k) k code seed) ((Ev.ge (code.length + 1)).mono fun k hge => hk k k (by omega))⟩
theorem big_ans (code : List Int) : Ans 53 s_laws_big (code, ()) ((decide ((code.length : Int) > 4096), ()), ()) := Ans.of (fun k => laws_big.F_eq (cl k) k code) (.all fun _ => rfl)

theorem u8_of {y : Int} (h : Fits (.int .u8) y) : 0 ≤ y ∧ y ≤ 255 := ⟨h.1, h.2⟩

/-! ### The functions on Dias -/
variable {m : Nat} {g h : Bf}
theorem or_f (g h : Bf) (hm : m ≤ 10) : Ans 57 s_impl_OrDia (fD m g, fD m h, ()) ((fD m fun f => opB false (g f) (h f), true, ()), ()) := by
  have := impl_OrDia_ans (fD m g) (fD m h) (by have := fD_len g hm; omega) (by have := fD_len h hm; omega)
  rwa [both_fD false g h hm] at this
theorem and_f (g h : Bf) (hm : m ≤ 10) : Ans 58 s_impl_AndDia (fD m g, fD m h, ()) ((fD m fun f => opB true (g f) (h f), true, ()), ()) := by
  have := impl_AndDia_ans (fD m g) (fD m h) (by have := fD_len g hm; omega) (by have := fD_len h hm; omega)
  rwa [both_fD true g h hm] at this
theorem not_f (g : Bf) (hm : m ≤ 10) : Ans 59 s_impl_NotDia (fD m g, ()) ((fD m fun f => !g f, ()), ()) := by
  have := impl_NotDia_ans (fD m g) (by have := fD_len g hm; omega)
  rwa [not_fD g hm] at this
theorem fix_f {v : Nat} (hg : Loc m g) (yes : Bool) (hm : m ≤ 10) (hv : v < m) : Ans 60 s_impl_FixDia (fD m g, (v : Int), yes, ()) ((fD m fun f => g (upd f v yes), true, ()), ()) := by
  have := impl_FixDia_ans (fD m g) (by have := fD_len g hm; omega) (v : Int) yes
  rwa [fix_fD hg yes hm hv] at this
theorem some_f {v : Nat} (hg : Loc m g) (hm : m ≤ 10) (hv : v < m) : Ans 64 s_impl_SomeDia (fD m g, (v : Int), ()) ((fD m fun f => g (upd f v false) || g (upd f v true), true, ()), ()) := by
  have := impl_SomeDia_ans (fD m g) (by have := fD_len g hm; omega) (v : Int)
  rwa [some_fD hg hm hv] at this
theorem var_f {v : Nat} (hm : m ≤ 10) (hv : v < m) : Ans 26 s_impl_VarDia ((m : Int), (v : Int), ()) ((fD m fun f => f v, true, ()), ()) := by
  rw [var_fD hv]
  refine Ans.of (fun k => impl_VarDia.F_eq (cl k) k (m : Int) (v : Int)) (.all fun k => ?_)
  simp only [impl_VarDia.F, impl_VarDia.Fm]
  rw [decide_eq_false (by omega), decide_eq_false (by omega), decide_eq_false (by omega), decide_eq_false (by omega)]; rfl
theorem const_f (b : Bool) (hm : m ≤ 10) : Ans 31 s_impl_ConstDia ((m : Int), b, ()) ((fD m fun _ => b, true, ()), ()) := by
  rw [const_fD]
  refine Ans.of (fun k => impl_ConstDia.F_eq (cl k) k (m : Int) b) (truth_ev.mono fun k hk => ?_)
  simp only [impl_ConstDia.F, impl_ConstDia.Fm, hk b, Option.bind_some]
  rw [decide_eq_false (by omega), decide_eq_false (by omega)]; rfl
theorem okI_f (g : Bf) (hm : m ≤ 10) : Ans 46 s_impl_DiaOk (fD m g, ()) ((true, ()), ()) := by
  have := impl_DiaOk_ans (fD m g) (by have := fD_len g hm; omega)
  rwa [fD_ok g hm] at this
theorem okS_f (g : Bf) (hm : m ≤ 10) : Ans 44 s_spec_DiaOk (fD m g, ()) ((true, ()), ()) := by
  have := spec_DiaOk_ans (fD m g) (by have := fD_len g hm; omega)
  rwa [fD_ok g hm] at this
theorem likeDia_ans (d : Dia) (hl : d.2.2.1.length ≤ 1048576) : Ans 61 s_laws_likeDia (d, d, ()) ((true, ()), ()) := by
  have key : ∀ (n k q j : Nat), d.2.2.1.length - j = n → n < q → laws_likeDia.L0 (cl k) k d d q (j : Int) = some ((true, ()), ()) := by
    intro n
    induction n with
    | zero =>
      intro k q j hn hq
      obtain ⟨q, rfl⟩ : ∃ p, q = p + 1 := ⟨q - 1, by omega⟩
      simp only [laws_likeDia.L0, laws_likeDia.step0, dnlt (show d.2.2.1.length ≤ j by omega), cond_false]
    | succ n ih =>
      intro k q j hn hq
      obtain ⟨q, rfl⟩ : ∃ p, q = p + 1 := ⟨q - 1, by omega⟩
      have hj : j < d.2.2.1.length := by omega
      have e : eqV KnT d.2.2.1[j] d.2.2.1[j] = true := by rw [eqKn, decide_eq_true rfl]
      simp only [laws_likeDia.L0, laws_likeDia.step0, dlt hj, cond_true, dle0, lg hj, Option.bind_some, ws hj (show d.2.2.1.length ≤ 9223372036854775807 by omega)]
      rw [e]
      exact ih k q (j + 1) (by omega) (by omega)
  refine Ans.of (fun k => laws_likeDia.F_eq (cl k) k d d) ((Ev.ge (d.2.2.1.length + 1)).mono fun k hge => ?_)
  simp only [laws_likeDia.F, laws_likeDia.Fm, bne_self_eq_false, cond_false]
  exact key _ k k 0 rfl (by omega)
theorem like_f (g h : Bf) (hm : m ≤ 10) (e : ∀ n, n < 2 ^ m → g (bitN m n) = h (bitN m n)) : Ans 61 s_laws_likeDia (fD m g, fD m h, ()) ((true, ()), ()) := by
  rw [fD_congr e]
  exact likeDia_ans _ (by have := fD_len h hm; omega)

/-! ### Pictures -/
theorem picture_ans (d : Dice) (hm1 : 1 ≤ m) (hm : m ≤ 10) (s : Nat) (hs : s ≤ 1000) (hd : dOk d) : ∃ g d', Loc m g ∧ dOk d' ∧ Ans 56 s_laws_picture (d, (m : Int), (s : Int), ()) ((fD m g, ()), d', ()) := by
  have key : ∀ (s : Nat) (g : Bf) (d : Dice), s ≤ 1000 → Loc m g → dOk d → ∃ g' d', Loc m g' ∧ dOk d' ∧ Ev fun k => ∀ q, s < q →
      laws_picture.L0 (cl k) k (m : Int) q (s : Int) (fD m g).2.2.1 (fD m g).1 (fD m g).2.1 d.1 d.2.1 d.2.2.1 = some ((fD m g', ()), d', ()) := by
    intro s
    induction s with
    | zero =>
      intro g d _ hg hd
      refine ⟨g, d, hg, hd, .all fun k q hq => ?_⟩
      obtain ⟨q, rfl⟩ : ∃ p, q = p + 1 := ⟨q - 1, by omega⟩
      rfl
    | succ s ih =>
      intro g d hs hg hd
      obtain ⟨x, d1, hd1, hx, a1⟩ := below_ans d hd (n := (m : Int)) (by omega)
      obtain ⟨v, rfl⟩ : ∃ v : Nat, x = v := ⟨x.toNat, by omega⟩
      have hv : v < m := by omega
      have a2 := var_f hm hv
      obtain ⟨y, d2, hd2, hy, a3⟩ := below_ans d1 hd1 (n := 4) (by omega)
      have hw : IntKind.i64.wrap (((s + 1 : Nat) : Int) - 1) = (s : Int) := by rw [w64 (by omega) (by omega)]; omega
      have hpos : decide (((s + 1 : Nat) : Int) > 0) = true := decide_eq_true (by omega)
      have lv := Loc.var (m := m) hv
      by_cases y0 : y = 0
      · obtain ⟨g', d', hg', hd', ih⟩ := ih (fun f => opB true (g f) (f v)) d2 (by omega) (hg.both true lv) hd2
        refine ⟨g', d', hg', hd', (a1.and (a2.and (a3.and ((and_f g (fun f => f v) hm).and ih)))).mono fun k ⟨a1, a2, a3, a4, ih⟩ q hq => ?_⟩
        obtain ⟨q, rfl⟩ : ∃ p, q = p + 1 := ⟨q - 1, by omega⟩
        unfold laws_picture.L0 laws_picture.step0
        refine bif_t hpos (bind_k a1 (bind_k a2 (bind_k a3 (bif_t (by rw [y0]; rfl) (bind_k a4 ?_)))))
        rw [hw]; exact ih q (by omega)
      by_cases y1 : y = 1
      · obtain ⟨g', d', hg', hd', ih⟩ := ih (fun f => opB false (g f) (f v)) d2 (by omega) (hg.both false lv) hd2
        refine ⟨g', d', hg', hd', (a1.and (a2.and (a3.and ((or_f g (fun f => f v) hm).and ih)))).mono fun k ⟨a1, a2, a3, a4, ih⟩ q hq => ?_⟩
        obtain ⟨q, rfl⟩ : ∃ p, q = p + 1 := ⟨q - 1, by omega⟩
        unfold laws_picture.L0 laws_picture.step0
        refine bif_t hpos (bind_k a1 (bind_k a2 (bind_k a3 (bif_f (by simpa using y0) (bif_t (by rw [y1]; rfl) (bind_k a4 ?_))))))
        rw [hw]; exact ih q (by omega)
      by_cases y2 : y = 2
      · obtain ⟨g', d', hg', hd', ih⟩ := ih (fun f => !g f) d2 (by omega) hg.not hd2
        refine ⟨g', d', hg', hd', (a1.and (a2.and (a3.and ((not_f g hm).and ih)))).mono fun k ⟨a1, a2, a3, a4, ih⟩ q hq => ?_⟩
        obtain ⟨q, rfl⟩ : ∃ p, q = p + 1 := ⟨q - 1, by omega⟩
        unfold laws_picture.L0 laws_picture.step0
        refine bif_t hpos (bind_k a1 (bind_k a2 (bind_k a3 (bif_f (by simpa using y0) (bif_f (by simpa using y1) (bif_t (by rw [y2]; rfl) (bind_k a4 ?_)))))))
        rw [hw]; exact ih q (by omega)
      have y3 : y = 3 := by omega
      obtain ⟨g', d', hg', hd', ih⟩ := ih (fun f => opB false (!g f) (f v)) d2 (by omega) (hg.not.both false lv) hd2
      refine ⟨g', d', hg', hd', (a1.and (a2.and (a3.and ((not_f g hm).and ((or_f (fun f => !g f) (fun f => f v) hm).and ih))))).mono fun k ⟨a1, a2, a3, a4, a5, ih⟩ q hq => ?_⟩
      obtain ⟨q, rfl⟩ : ∃ p, q = p + 1 := ⟨q - 1, by omega⟩
      unfold laws_picture.L0 laws_picture.step0
      refine bif_t hpos (bind_k a1 (bind_k a2 (bind_k a3 (bif_f (by simpa using y0) (bif_f (by simpa using y1) (bif_f (by simpa using y2) (bif_t (by rw [y3]; rfl) (bind_k a4 (bind_k a5 ?_)))))))))
      rw [hw]; exact ih q (by omega)
  obtain ⟨x, d1, hd1, hx, a1⟩ := below_ans d hd (n := (m : Int)) (by omega)
  obtain ⟨v, rfl⟩ : ∃ v : Nat, x = v := ⟨x.toNat, by omega⟩
  have hv : v < m := by omega
  obtain ⟨g', d', hg', hd', hk⟩ := key s (fun f => f v) d1 hs (Loc.var hv) hd1
  refine ⟨g', d', hg', hd', Ans.of (fun k => laws_picture.F_eq (cl k) k d (m : Int) (s : Int)) ((a1.and ((var_f hm hv).and (hk.and (Ev.ge (s + 1))))).mono fun k ⟨a1, a2, hk, hge⟩ => ?_)⟩
  exact bind_k a1 (bind_k a2 (hk k (by omega)))

end Go.Proofs.Ytcmgjdmhemfecaa.Pf
