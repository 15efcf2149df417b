/- Dice, pictures, the Dias' functions on functions of bits. No condition. -/
import Derived.Test.YtcmgjdmhemfecaaPfO
import Derived.Test.YtcmgjdmhemfecaaPfCu
namespace Go.Proofs.Ytcmgjdmhemfecaa.Pf
open Go Go.Pv

/-! ### The functions on Dias -/
variable {m : Nat} {g h : Bf}
theorem or_f (g h : Bf) (hm : m ≤ 10) : Ans 57 s_impl_OrDia (fD m g, fD m h, ()) ((fD m fun f => opB false (g f) (h f), true, ()), ()) := by
  have := impl_OrDia_ans (fD m g) (fD m h) (by have := fD_len g hm; omega) (by have := fD_len h hm; omega)
  rwa [both_fD false g h hm] at this
theorem and_f (g h : Bf) (hm : m ≤ 10) : Ans 58 s_impl_AndDia (fD m g, fD m h, ()) ((fD m fun f => opB true (g f) (h f), true, ()), ()) := by
  have := impl_AndDia_ans (fD m g) (fD m h) (by have := fD_len g hm; omega) (by have := fD_len h hm; omega)
  rwa [both_fD true g h hm] at this
theorem not_f (g : Bf) (hm : m ≤ 10) : Ans 59 s_impl_NotDia (fD m g, ()) ((fD m fun f => !g f, ()), ()) := by
  have := impl_NotDia_ans (fD m g) (by have := fD_len g hm; omega)
  rwa [not_fD g hm] at this
theorem fix_f {v : Nat} (hg : Loc m g) (yes : Bool) (hm : m ≤ 10) (hv : v < m) : Ans 60 s_impl_FixDia (fD m g, (v : Int), yes, ()) ((fD m fun f => g (upd f v yes), true, ()), ()) := by
  have := impl_FixDia_ans (fD m g) (by have := fD_len g hm; omega) (v : Int) yes
  rwa [fix_fD hg yes hm hv] at this
theorem some_f {v : Nat} (hg : Loc m g) (hm : m ≤ 10) (hv : v < m) : Ans 64 s_impl_SomeDia (fD m g, (v : Int), ()) ((fD m fun f => g (upd f v false) || g (upd f v true), true, ()), ()) := by
  have := impl_SomeDia_ans (fD m g) (by have := fD_len g hm; omega) (v : Int)
  rwa [some_fD hg hm hv] at this
theorem var_f {v : Nat} (hm : m ≤ 10) (hv : v < m) : Ans 26 s_impl_VarDia ((m : Int), (v : Int), ()) ((fD m fun f => f v, true, ()), ()) := by
  rw [var_fD hv]
  refine Ans.of (fun k => impl_VarDia.F_eq (cl k) k (m : Int) (v : Int)) (.all fun k => ?_)
  simp only [impl_VarDia.F, impl_VarDia.Fm]
  rw [decide_eq_false (by omega), decide_eq_false (by omega), decide_eq_false (by omega), decide_eq_false (by omega)]; rfl
theorem const_f (b : Bool) (hm : m ≤ 10) : Ans 31 s_impl_ConstDia ((m : Int), b, ()) ((fD m fun _ => b, true, ()), ()) := by
  rw [const_fD]
  refine Ans.of (fun k => impl_ConstDia.F_eq (cl k) k (m : Int) b) (truth_ev.mono fun k hk => ?_)
  simp only [impl_ConstDia.F, impl_ConstDia.Fm, hk b, Option.bind_some]
  rw [decide_eq_false (by omega), decide_eq_false (by omega)]; rfl
theorem okI_f (g : Bf) (hm : m ≤ 10) : Ans 46 s_impl_DiaOk (fD m g, ()) ((true, ()), ()) := by
  have := impl_DiaOk_ans (fD m g) (by have := fD_len g hm; omega)
  rwa [fD_ok g hm] at this
theorem okS_f (g : Bf) (hm : m ≤ 10) : Ans 44 s_spec_DiaOk (fD m g, ()) ((true, ()), ()) := by
  have := spec_DiaOk_ans (fD m g) (by have := fD_len g hm; omega)
  rwa [fD_ok g hm] at this
theorem likeDia_ans (d : Dia) (hl : d.2.2.1.length ≤ 1048576) : Ans 61 s_laws_likeDia (d, d, ()) ((true, ()), ()) := by
  have key : ∀ (n k q j : Nat), d.2.2.1.length - j = n → n < q → laws_likeDia.L0 (cl k) k d d q (j : Int) = some ((true, ()), ()) := by
    intro n
    induction n with
    | zero =>
      intro k q j hn hq
      obtain ⟨q, rfl⟩ : ∃ p, q = p + 1 := ⟨q - 1, by omega⟩
      simp only [laws_likeDia.L0, laws_likeDia.step0, dnlt (show d.2.2.1.length ≤ j by omega), cond_false]
    | succ n ih =>
      intro k q j hn hq
      obtain ⟨q, rfl⟩ : ∃ p, q = p + 1 := ⟨q - 1, by omega⟩
      have hj : j < d.2.2.1.length := by omega
      have e : eqV KnT d.2.2.1[j] d.2.2.1[j] = true := by rw [eqKn, decide_eq_true rfl]
      simp only [laws_likeDia.L0, laws_likeDia.step0, dlt hj, cond_true, dle0, lg hj, Option.bind_some, ws hj (show d.2.2.1.length ≤ 9223372036854775807 by omega)]
      rw [e]
      exact ih k q (j + 1) (by omega) (by omega)
  refine Ans.of (fun k => laws_likeDia.F_eq (cl k) k d d) ((Ev.ge (d.2.2.1.length + 1)).mono fun k hge => ?_)
  simp only [laws_likeDia.F, laws_likeDia.Fm, bne_self_eq_false, cond_false]
  exact key _ k k 0 rfl (by omega)
theorem like_f (g h : Bf) (hm : m ≤ 10) (e : ∀ n, n < 2 ^ m → g (bitN m n) = h (bitN m n)) : Ans 61 s_laws_likeDia (fD m g, fD m h, ()) ((true, ()), ()) := by
  rw [fD_congr e]
  exact likeDia_ans _ (by have := fD_len h hm; omega)

/-! ### Pictures -/
theorem picture_ans (d : Dice) (hm1 : 1 ≤ m) (hm : m ≤ 10) (s : Nat) (hs : s ≤ 1000) (hd : dOk d) : ∃ g d', Loc m g ∧ dOk d' ∧ Ans 56 s_laws_picture (d, (m : Int), (s : Int), ()) ((fD m g, ()), d', ()) := by
  have key : ∀ (s : Nat) (g : Bf) (d : Dice), s ≤ 1000 → Loc m g → dOk d → ∃ g' d', Loc m g' ∧ dOk d' ∧ Ev fun k => ∀ q, s < q →
      laws_picture.L0 (cl k) k (m : Int) q (s : Int) (fD m g).2.2.1 (fD m g).1 (fD m g).2.1 d.1 d.2.1 d.2.2.1 = some ((fD m g', ()), d', ()) := by
    intro s
    induction s with
    | zero =>
      intro g d _ hg hd
      refine ⟨g, d, hg, hd, .all fun k q hq => ?_⟩
      obtain ⟨q, rfl⟩ : ∃ p, q = p + 1 := ⟨q - 1, by omega⟩
      rfl
    | succ s ih =>
      intro g d hs hg hd
      obtain ⟨x, d1, hd1, hx, a1⟩ := below_ans d hd (n := (m : Int)) (by omega)
      obtain ⟨v, rfl⟩ : ∃ v : Nat, x = v := ⟨x.toNat, by omega⟩
      have hv : v < m := by omega
      have a2 := var_f hm hv
      obtain ⟨y, d2, hd2, hy, a3⟩ := below_ans d1 hd1 (n := 4) (by omega)
      have hw : IntKind.i64.wrap (((s + 1 : Nat) : Int) - 1) = (s : Int) := by rw [w64 (by omega) (by omega)]; omega
      have hpos : decide (((s + 1 : Nat) : Int) > 0) = true := decide_eq_true (by omega)
      have lv := Loc.var (m := m) hv
      by_cases y0 : y = 0
      · obtain ⟨g', d', hg', hd', ih⟩ := ih (fun f => opB true (g f) (f v)) d2 (by omega) (hg.both true lv) hd2
        refine ⟨g', d', hg', hd', (a1.and (a2.and (a3.and ((and_f g (fun f => f v) hm).and ih)))).mono fun k ⟨a1, a2, a3, a4, ih⟩ q hq => ?_⟩
        obtain ⟨q, rfl⟩ : ∃ p, q = p + 1 := ⟨q - 1, by omega⟩
        unfold laws_picture.L0 laws_picture.step0
        refine bif_t hpos (bind_k a1 (bind_k a2 (bind_k a3 (bif_t (by rw [y0]; rfl) (bind_k a4 ?_)))))
        rw [hw]; exact ih q (by omega)
      by_cases y1 : y = 1
      · obtain ⟨g', d', hg', hd', ih⟩ := ih (fun f => opB false (g f) (f v)) d2 (by omega) (hg.both false lv) hd2
        refine ⟨g', d', hg', hd', (a1.and (a2.and (a3.and ((or_f g (fun f => f v) hm).and ih)))).mono fun k ⟨a1, a2, a3, a4, ih⟩ q hq => ?_⟩
        obtain ⟨q, rfl⟩ : ∃ p, q = p + 1 := ⟨q - 1, by omega⟩
        unfold laws_picture.L0 laws_picture.step0
        refine bif_t hpos (bind_k a1 (bind_k a2 (bind_k a3 (bif_f (by simpa using y0) (bif_t (by rw [y1]; rfl) (bind_k a4 ?_))))))
        rw [hw]; exact ih q (by omega)
      by_cases y2 : y = 2
      · obtain ⟨g', d', hg', hd', ih⟩ := ih (fun f => !g f) d2 (by omega) hg.not hd2
        refine ⟨g', d', hg', hd', (a1.and (a2.and (a3.and ((not_f g hm).and ih)))).mono fun k ⟨a1, a2, a3, a4, ih⟩ q hq => ?_⟩
        obtain ⟨q, rfl⟩ : ∃ p, q = p + 1 := ⟨q - 1, by omega⟩
        unfold laws_picture.L0 laws_picture.step0
        refine bif_t hpos (bind_k a1 (bind_k a2 (bind_k a3 (bif_f (by simpa using y0) (bif_f (by simpa using y1) (bif_t (by rw [y2]; rfl) (bind_k a4 ?_)))))))
        rw [hw]; exact ih q (by omega)
      have y3 : y = 3 := by omega
      obtain ⟨g', d', hg', hd', ih⟩ := ih (fun f => opB false (!g f) (f v)) d2 (by omega) (hg.not.both false lv) hd2
      refine ⟨g', d', hg', hd', (a1.and (a2.and (a3.and ((not_f g hm).and ((or_f (fun f => !g f) (fun f => f v) hm).and ih))))).mono fun k ⟨a1, a2, a3, a4, a5, ih⟩ q hq => ?_⟩
      obtain ⟨q, rfl⟩ : ∃ p, q = p + 1 := ⟨q - 1, by omega⟩
      unfold laws_picture.L0 laws_picture.step0
      refine bif_t hpos (bind_k a1 (bind_k a2 (bind_k a3 (bif_f (by simpa using y0) (bif_f (by simpa using y1) (bif_f (by simpa using y2) (bif_t (by rw [y3]; rfl) (bind_k a4 (bind_k a5 ?_)))))))))
      rw [hw]; exact ih q (by omega)
  obtain ⟨x, d1, hd1, hx, a1⟩ := below_ans d hd (n := (m : Int)) (by omega)
  obtain ⟨v, rfl⟩ : ∃ v : Nat, x = v := ⟨x.toNat, by omega⟩
  have hv : v < m := by omega
  obtain ⟨g', d', hg', hd', hk⟩ := key s (fun f => f v) d1 hs (Loc.var hv) hd1
  refine ⟨g', d', hg', hd', Ans.of (fun k => laws_picture.F_eq (cl k) k d (m : Int) (s : Int)) ((a1.and ((var_f hm hv).and (hk.and (Ev.ge (s + 1))))).mono fun k ⟨a1, a2, hk, hge⟩ => ?_)⟩
  exact bind_k a1 (bind_k a2 (hk k (by omega)))

end Go.Proofs.Ytcmgjdmhemfecaa.Pf
