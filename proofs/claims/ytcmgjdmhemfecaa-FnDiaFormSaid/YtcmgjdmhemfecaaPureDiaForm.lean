/- The law on rm, over plain values: it answers yes. No condition. -/
import Derived.Test.YtcmgjdmhemfecaaPfP
import Derived.Test.YtcmgjdmhemfecaaPfTLDiaForm
namespace Go.Proofs.Ytcmgjdmhemfecaa.fnDiaForm
open Go Go.Pv Pf
set_option maxRecDepth 4000 in
theorem pure : ∀ (a0 : Ty.den (.slc (.int .u8))) (_ : Fits (.slc (.int .u8)) a0), ∃ r : Sg.R Pf.s_laws_FnDiaForm |>.den, (∃ k, sem Pf.E (fun _ _ => none) k Pf.n_laws_FnDiaForm Pf.s_laws_FnDiaForm (a0, ()) = some r) ∧ r.1.1 = true := by
  intro code ⟨f1, f2⟩
  have hc : ∀ y ∈ code, 0 ≤ y ∧ y ≤ 255 := fun y hy => u8_of (f2 y hy)
  refine ⟨((true, ()), ()), Ans.sem (Ans.of (fun k => laws_FnDiaForm.F_eq (cl k) k code) ?_), rfl⟩
  by_cases hb : (code.length : Int) > 4096
  · exact (big_ans code).mono fun k h => bind_k h (bif_t (decide_eq_true hb) rfl)
  obtain ⟨d0, h0, a0⟩ := roll_ans code 21 f1 hc
  obtain ⟨x, d1, h1, hx, a1⟩ := below_ans d0 h0 (n := 5) (by omega)
  obtain ⟨s, d2, h2, hs, a2⟩ := below_ans d1 h1 (n := 8) (by omega)
  obtain ⟨m, hm⟩ : ∃ m : Nat, IntKind.i64.wrap (1 + x) = (m : Int) := ⟨(1 + x).toNat, by rw [w64 (by omega) (by omega)]; omega⟩
  rw [w64 (by omega) (by omega)] at hm
  have hw : IntKind.i64.wrap (1 + x) = (m : Int) := by rw [w64 (by omega) (by omega)]; exact hm
  have m1 : 1 ≤ m := by omega
  have m2 : m ≤ 10 := by omega
  obtain ⟨s, rfl⟩ : ∃ n : Nat, s = n := ⟨s.toNat, by omega⟩
  obtain ⟨g, d3, lg, h3, a3⟩ := picture_ans d2 m1 m2 s (by omega) h2
  obtain ⟨t, d4, h4, ht, a4⟩ := below_ans d3 h3 (n := 8) (by omega)
  obtain ⟨t, rfl⟩ : ∃ n : Nat, t = n := ⟨t.toNat, by omega⟩
  obtain ⟨h, d5, lh, h5, a5⟩ := picture_ans d4 m1 m2 t (by omega) h4
  obtain ⟨v, d6, h6, hv, a6⟩ := below_ans d5 h5 (n := (m : Int)) (by omega)
  obtain ⟨v, rfl⟩ : ∃ n : Nat, v = n := ⟨v.toNat, by omega⟩
  have hv : v < m := by omega
  have b1 := or_f g h m2
  have b2 := not_f g m2
  have b3 := not_f h m2
  have b4 := and_f (fun f => !g f) (fun f => !h f) m2
  have b5 := var_f m2 hv
  have b6 := fix_f lg true m2 hv
  have b7 := fix_f lg false m2 hv
  have b8 := and_f (fun f => f v) (fun f => g (upd f v true)) m2
  have b9 := not_f (fun f => f v) m2
  have b10 := and_f (fun f => !f v) (fun f => g (upd f v false)) m2
  have b11 := or_f (fun f => opB true (f v) (g (upd f v true))) (fun f => opB true (!f v) (g (upd f v false))) m2
  have b12 := const_f false m2
  have b13 := and_f g (fun f => !g f) m2
  have b14 := not_f (fun f => opB true (!g f) (!h f)) m2
  have b15 := like_f (fun f => !opB true (!g f) (!h f)) (fun f => opB false (g f) (h f)) m2 fun n _ => by
    cases g (bitN m n) <;> cases h (bitN m n) <;> rfl
  have b16 := not_f (fun f => !g f) m2
  have b17 := like_f (fun f => !!g f) g m2 fun n _ => by cases g (bitN m n) <;> rfl
  have b18 := like_f (fun f => opB false (opB true (f v) (g (upd f v true))) (opB true (!f v) (g (upd f v false)))) g m2 fun n _ => by
    have hu : ∀ b, bitN m n v = b → upd (bitN m n) v b = bitN m n := fun b hb => by
      funext w
      unfold upd
      by_cases e : w = v
      · rw [if_pos e, e, hb]
      · rw [if_neg e]
    cases hb : bitN m n v with
    | true => rw [hu true hb]; cases g (bitN m n) <;> cases g (upd (bitN m n) v false) <;> rfl
    | false => rw [hu false hb]; cases g (bitN m n) <;> cases g (upd (bitN m n) v true) <;> rfl
  have b19 := like_f (fun f => opB true (g f) (!g f)) (fun _ => false) m2 fun n _ => by cases g (bitN m n) <;> rfl
  have b20 := okS_f (fun f => opB false (g f) (h f)) m2
  have b21 := okI_f (fun f => opB false (g f) (h f)) m2
  refine ((big_ans code).and (a0.and (a1.and (a2.and (a3.and (a4.and (a5.and (a6.and (b1.and (b2.and (b3.and (b4.and (b5.and (b6.and (b7.and (b8.and (b9.and (b10.and (b11.and (b12.and (b13.and (b14.and (b15.and (b16.and (b17.and (b18.and (b19.and (b20.and b21)))))))))))))))))))))))))))).mono fun k ⟨hbig, a0, a1, a2, a3, a4, a5, a6, b1, b2, b3, b4, b5, b6, b7, b8, b9, b10, b11, b12, b13, b14, b15, b16, b17, b18, b19, b20, b21⟩ => ?_
  unfold laws_FnDiaForm.F laws_FnDiaForm.Fm
  refine bind_k hbig (bif_f (decide_eq_false hb) (bind_k a0 (bind_k a1 (bind_k a2 ?_))))
  simp only [hw]
  refine bind_k a3 (bind_k a4 (bind_k a5 (bind_k a6 (bind_k b1 (bind_k b2 (bind_k b3 (bind_k b4 (bind_k b5 (bind_k b6 (bind_k b7 (bind_k b8 (bind_k b9 (bind_k b10 (bind_k b11 (bind_k b12 (bind_k b2 (bind_k b13 (bif_t rfl (bif_t rfl (bind_k b14 (bind_k b15 (bif_t rfl (bind_k b2 (bind_k b16 (bind_k b17 (bif_t rfl (bind_k b18 (bif_t rfl (bind_k b19 (bif_t rfl (bind_k b20 (bif_t rfl (bind_k b21 rfl)))))))))))))))))))))))))))))))))
end Go.Proofs.Ytcmgjdmhemfecaa.fnDiaForm
