/- Dias: knots put behind those there are, by a search and by a table of places. No condition. -/
import Derived.Test.YtcmgjdmhemfecaaPfF
namespace Go.Proofs.Ytcmgjdmhemfecaa.Pf
open Go Go.Pv

abbrev KnT : Ty := (Ty.int IntKind.i64).pair ((Ty.int IntKind.i64).pair ((Ty.int IntKind.i64).pair Ty.unit))
theorem eqKn (x y : Kn) : eqV KnT x y = decide (x = y) := by
  obtain ⟨a, b, c, ⟨⟩⟩ := x
  obtain ⟨a', b', c', ⟨⟩⟩ := y
  have h : eqV KnT (a, b, c, ()) (a', b', c', ()) = (a == a' && (b == b' && c == c')) := rfl
  rw [h]
  by_cases h1 : a = a'
  · by_cases h2 : b = b'
    · by_cases h3 : c = c'
      · subst h1 h2 h3; simp
      · simp [h3]
    · simp [h2]
  · simp [h1]

/-! ### The place of a knot -/
def seek (k : Kn) : List Kn → Nat → Option Nat
  | [], _ => none
  | a :: r, i => if a = k then some i else seek k r (i + 1)
theorem seek_lt {k : Kn} : ∀ {l : List Kn} {i j : Nat}, seek k l i = some j → i ≤ j ∧ j < i + l.length
  | [], _, _, h => by cases h
  | a :: r, i, j, h => by
    unfold seek at h
    split at h
    · cases h; simp
    · have := seek_lt h
      simp only [List.length_cons]; omega
theorem seek_put (x k : Kn) : ∀ (l : List Kn) (i : Nat), seek k l i = none → seek x (l ++ [k]) i = if x = k then some (i + l.length) else seek x l i
  | [], i, _ => by
    show (if k = x then some i else none) = _
    by_cases e : x = k
    · rw [if_pos e, if_pos e.symm]; rfl
    · rw [if_neg e, if_neg fun h => e h.symm]; rfl
  | a :: r, i, h => by
    unfold seek at h
    by_cases ha : a = k
    · rw [if_pos ha] at h; cases h
    · rw [if_neg ha] at h
      show (if a = x then some i else seek x (r ++ [k]) (i + 1)) = _
      rw [seek_put x k r (i + 1) h]
      by_cases e : x = k
      · rw [if_pos e, if_pos e, if_neg fun h => ha (h.trans e), List.length_cons]
        congr 1; omega
      · rw [if_neg e, if_neg e]; rfl
def Pl (ks : List Kn) (ps : List (Kn × Int)) : Prop := ∀ x : Kn, mfind KnT ps x = (seek x ks 0).map fun i : Nat => (i : Int) + 2
theorem mfind_put (x k : Kn) (v : Int) : ∀ ps : List (Kn × Int), mfind KnT (mput KnT ps k v) x = if x = k then some v else mfind KnT ps x
  | [] => by
    show (bif eqV KnT x k then some v else none) = _
    rw [eqKn]
    by_cases e : x = k
    · rw [if_pos e, decide_eq_true e]; rfl
    · rw [if_neg e, decide_eq_false e]; rfl
  | (a, b) :: ps => by
    show mfind KnT (bif eqV KnT k a then (k, v) :: ps else (a, b) :: mput KnT ps k v) x = (if x = k then some v else bif eqV KnT x a then some b else mfind KnT ps x)
    rw [eqKn, eqKn]
    by_cases e : k = a
    · rw [decide_eq_true e, cond_true]
      show (bif eqV KnT x k then some v else mfind KnT ps x) = _
      rw [eqKn]
      subst e
      by_cases e2 : x = k
      · rw [if_pos e2, decide_eq_true e2]; rfl
      · rw [if_neg e2, decide_eq_false e2]; rfl
    · rw [decide_eq_false e, cond_false]
      show (bif eqV KnT x a then some b else mfind KnT (mput KnT ps k v) x) = _
      rw [eqKn, mfind_put x k v ps]
      by_cases e2 : x = a
      · rw [decide_eq_true e2, cond_true, if_neg fun h => e (h.symm.trans e2)]; rfl
      · rw [decide_eq_false e2, cond_false]; rfl
theorem Pl.put {ks : List Kn} {ps : List (Kn × Int)} (h : Pl ks ps) {k : Kn} (hk : seek k ks 0 = none) : Pl (ks ++ [k]) (mput KnT ps k ((ks.length : Int) + 2)) := fun x => by
  rw [mfind_put, seek_put x k ks 0 hk, h x]
  by_cases e : x = k
  · rw [if_pos e, if_pos e, Nat.zero_add]; rfl
  · rw [if_neg e, if_neg e]

def putEnd (ks : List Kn) (k : Kn) : List Kn × Int := match seek k ks 0 with
  | some i => (ks, (i : Int) + 2)
  | none => (ks ++ [k], (ks.length : Int) + 2)
def putP : Nat → List Kn → Int → List Bool → List Kn × Int
  | 0, ks, _, t => (ks, bit (t.headD false))
  | m + 1, ks, v, t =>
    if (putP m ks (v + 1) (t.take (2 ^ m))).2 = (putP m (putP m ks (v + 1) (t.take (2 ^ m))).1 (v + 1) (t.drop (2 ^ m))).2 then
      ((putP m (putP m ks (v + 1) (t.take (2 ^ m))).1 (v + 1) (t.drop (2 ^ m))).1, (putP m ks (v + 1) (t.take (2 ^ m))).2)
    else putEnd (putP m (putP m ks (v + 1) (t.take (2 ^ m))).1 (v + 1) (t.drop (2 ^ m))).1 (v, (putP m ks (v + 1) (t.take (2 ^ m))).2, (putP m (putP m ks (v + 1) (t.take (2 ^ m))).1 (v + 1) (t.drop (2 ^ m))).2, ())
theorem putEnd_len (ks : List Kn) (k : Kn) : (putEnd ks k).1.length ≤ ks.length + 1 := by
  unfold putEnd
  cases seek k ks 0 with
  | none => simp
  | some i => exact Nat.le_succ _
theorem putP_len : ∀ (m : Nat) (ks : List Kn) (v : Int) (t : List Bool), (putP m ks v t).1.length + 1 ≤ ks.length + 2 ^ m
  | 0, ks, v, t => by simp [putP]
  | m + 1, ks, v, t => by
    have h1 := putP_len m ks (v + 1) (t.take (2 ^ m))
    have h2 := putP_len m (putP m ks (v + 1) (t.take (2 ^ m))).1 (v + 1) (t.drop (2 ^ m))
    have e : 2 ^ (m + 1) = 2 ^ m + 2 ^ m := by rw [Nat.pow_succ]; omega
    unfold putP
    rw [e]
    split
    · dsimp only; omega
    · have h3 := putEnd_len (putP m (putP m ks (v + 1) (t.take (2 ^ m))).1 (v + 1) (t.drop (2 ^ m))).1 (v, (putP m ks (v + 1) (t.take (2 ^ m))).2, (putP m (putP m ks (v + 1) (t.take (2 ^ m))).1 (v + 1) (t.drop (2 ^ m))).2, ())
      omega

theorem putLoop (k : Nat) (v low high : Int) (ks : List Kn) (hl : ks.length ≤ 4096) : ∀ (d q j : Nat), ks.length - j = d → d < q → ∀ y2 : ((List Kn × (Int × Unit)) × Unit), y2.1.2.1 = low →
    spec_l13Put.L0 (cl k) k v y2 ((ks, high, ()), ()) q (j : Int) = match seek (v, low, high, ()) (ks.drop j) j with
      | some i => some ((ks, (i : Int) + 2, ()), ())
      | none => some ((ks ++ [(v, low, high, ())], (ks.length : Int) + 2, ()), ()) := by
  intro d
  induction d with
  | zero =>
    intro q j hd hq y2 hy
    obtain ⟨q, rfl⟩ : ∃ p, q = p + 1 := ⟨q - 1, by omega⟩
    simp only [spec_l13Put.L0, spec_l13Put.step0, dnlt (show ks.length ≤ j by omega), cond_false, hy, List.drop_of_length_le (show ks.length ≤ j by omega), seek, List.length_cons, List.length_nil]
    rw [decide_eq_true (by show (ks.length + (0 + 1)) * 24 ≤ _; omega), cond_true, w64 (by omega) (by omega)]
  | succ d ih =>
    intro q j hd hq y2 hy
    obtain ⟨q, rfl⟩ : ∃ p, q = p + 1 := ⟨q - 1, by omega⟩
    have hj : j < ks.length := by omega
    simp only [spec_l13Put.L0, spec_l13Put.step0, dlt hj, cond_true, dle0, Int.toNat_natCast, decide_eq_true hj, Bool.and_self, lgn hj, Option.bind_some, hy, ws hj (show ks.length ≤ 9223372036854775807 by omega)]
    have e := eqKn ks[j] (v, low, high, ())
    rw [show eqV ((Ty.int IntKind.i64).pair ((Ty.int IntKind.i64).pair ((Ty.int IntKind.i64).pair Ty.unit))) ks[j] (v, low, high, ()) = decide (ks[j] = (v, low, high, ())) from e]
    rw [List.drop_eq_getElem_cons hj]
    unfold seek
    by_cases h : ks[j] = (v, low, high, ())
    · rw [decide_eq_true h, cond_true, if_pos h, w64 (by omega) (by omega)]
    · rw [decide_eq_false h, cond_false, if_neg h]
      exact ih q (j + 1) (by omega) (by omega) y2 hy

theorem half_eq {m : Nat} {t : List Bool} (hm : m < 10) (ht : t.length = 2 ^ (m + 1)) : IntKind.i64.wrap ((t.length : Int).tdiv 2) = ((2 ^ m : Nat) : Int) ∧ t.length = 2 ^ m + 2 ^ m ∧ 0 < 2 ^ m ∧ 2 ^ m ≤ 512 := by
  have e : 2 ^ (m + 1) = 2 ^ m + 2 ^ m := by rw [Nat.pow_succ]; omega
  have h0 : 0 < 2 ^ m := Nat.pow_pos (by omega)
  have h1 : 2 ^ m ≤ 512 := Nat.pow_le_pow_right (n := 2) (by omega) (show m ≤ 9 by omega)
  refine ⟨?_, by omega, h0, h1⟩
  have e2 : (t.length : Int).tdiv 2 = ((t.length / 2 : Nat) : Int) := rfl
  have e3 : t.length / 2 = 2 ^ m := by omega
  rw [e2, e3]
  exact w64n (Nat.le_trans h1 (by decide))

theorem l13Put_ans : ∀ (m : Nat) (ks : List Kn) (v : Int) (t : List Bool), m ≤ 10 → t.length = 2 ^ m → 0 ≤ v → v + m ≤ 100 → ks.length + 2 ^ m ≤ 2048 → Ans 151 s_spec_l13Put (ks, v, t, ()) (((putP m ks v t).1, (putP m ks v t).2, ()), ())
  | 0, ks, v, t, hm, ht, hv, hv2, hl => by
    refine Ans.of (fun k => spec_l13Put.F_eq (cl k) k ks v t) (l5Bit_ev.mono fun k hb => ?_)
    obtain ⟨b, rfl⟩ : ∃ b, t = [b] := by
      match t, ht with
      | [b], _ => exact ⟨b, rfl⟩
    simp only [spec_l13Put.F, spec_l13Put.Fm]
    rw [show (((List.length [b] : Nat) : Int) == 1) = true from rfl, cond_true, show lget [b] (Int.toNat (0 : Int)) = some b from rfl, Option.bind_some, hb b, Option.bind_some]
    rfl
  | m + 1, ks, v, t, hm, ht, hv, hv2, hl => by
    obtain ⟨e1, e2, e3, e4⟩ := half_eq (show m < 10 by omega) ht
    have e5 : 2 ^ (m + 1) = 2 ^ m + 2 ^ m := by omega
    have hlen1 := putP_len m ks (v + 1) (t.take (2 ^ m))
    have hlen2 := putP_len m (putP m ks (v + 1) (t.take (2 ^ m))).1 (v + 1) (t.drop (2 ^ m))
    have h1 := l13Put_ans m ks (v + 1) (t.take (2 ^ m)) (by omega) (by rw [List.length_take]; omega) (by omega) (by omega) (by omega)
    have h2 := l13Put_ans m (putP m ks (v + 1) (t.take (2 ^ m))).1 (v + 1) (t.drop (2 ^ m)) (by omega) (by rw [List.length_drop]; omega) (by omega) (by omega) (by omega)
    refine Ans.of (fun k => spec_l13Put.F_eq (cl k) k ks v t) ((h1.and (h2.and (Ev.ge 4097))).mono fun k ⟨h1, h2, hk⟩ => ?_)
    unfold putP
    generalize ha : putP m ks (v + 1) (t.take (2 ^ m)) = a at *
    generalize hb : putP m a.1 (v + 1) (t.drop (2 ^ m)) = b at *
    have ew : IntKind.i64.wrap (v + 1) = v + 1 := w64 (by omega) (by omega)
    have et : List.take (t.length - 2 ^ m) (List.drop (2 ^ m) t) = List.drop (2 ^ m) t := List.take_of_length_le (by rw [List.length_drop]; omega)
    simp only [spec_l13Put.F, spec_l13Put.Fm]
    rw [beq_false_of_ne (by omega), cond_false]
    simp only [e1, ew, dle0, cond_true, Int.toNat_natCast, Nat.sub_zero, List.drop_zero, decide_eq_true (Nat.zero_le (2 ^ m)), decide_eq_true (show 2 ^ m ≤ t.length by omega), decide_eq_true (Nat.le_refl t.length), Bool.and_self, h1, Option.bind_some, et, h2]
    by_cases e : a.2 = b.2
    · rw [if_pos e, e, beq_self_eq_true, cond_true]
    · rw [if_neg e, beq_false_of_ne e, cond_false]
      have := putLoop k v a.2 b.2 b.1 (by omega) b.1.length k 0 rfl (by omega) ((a.1, a.2, ()), ()) rfl
      refine this.trans ?_
      rw [List.drop_zero]
      unfold putEnd
      cases seek (v, a.2, b.2, ()) b.1 0 <;> rfl

theorem forge_ans : ∀ (m : Nat) (ks : List Kn) (ps : List (Kn × Int)) (v : Int) (t : List Bool), m ≤ 10 → t.length = 2 ^ m → 0 ≤ v → v + m ≤ 100 → ks.length + 2 ^ m ≤ 2048 → Pl ks ps →
    ∃ ps', Pl (putP m ks v t).1 ps' ∧ Ans 153 s_impl_smith_forge ((ks, ps, ()), v, t, ()) (((putP m ks v t).2, ()), ((putP m ks v t).1, ps', ()), ())
  | 0, ks, ps, v, t, hm, ht, hv, hv2, hl, hp => by
    refine ⟨ps, hp, Ans.of (fun k => impl_smith_forge.F_eq (cl k) k (ks, ps, ()) v t) (truth_ev.mono fun k hb => ?_)⟩
    obtain ⟨b, rfl⟩ : ∃ b, t = [b] := by
      match t, ht with
      | [b], _ => exact ⟨b, rfl⟩
    simp only [impl_smith_forge.F, impl_smith_forge.Fm]
    rw [show (((List.length [b] : Nat) : Int) == 1) = true from rfl, cond_true, show lget [b] (Int.toNat (0 : Int)) = some b from rfl, Option.bind_some, hb b, Option.bind_some]
    rfl
  | m + 1, ks, ps, v, t, hm, ht, hv, hv2, hl, hp => by
    obtain ⟨e1, e2, e3, e4⟩ := half_eq (show m < 10 by omega) ht
    have e5 : 2 ^ (m + 1) = 2 ^ m + 2 ^ m := by omega
    have hlen1 := putP_len m ks (v + 1) (t.take (2 ^ m))
    have hlen2 := putP_len m (putP m ks (v + 1) (t.take (2 ^ m))).1 (v + 1) (t.drop (2 ^ m))
    obtain ⟨ps1, hp1, h1⟩ := forge_ans m ks ps (v + 1) (t.take (2 ^ m)) (by omega) (by rw [List.length_take]; omega) (by omega) (by omega) (by omega) hp
    obtain ⟨ps2, hp2, h2⟩ := forge_ans m (putP m ks (v + 1) (t.take (2 ^ m))).1 ps1 (v + 1) (t.drop (2 ^ m)) (by omega) (by rw [List.length_drop]; omega) (by omega) (by omega) (by omega) hp1
    unfold putP
    generalize ha : putP m ks (v + 1) (t.take (2 ^ m)) = a at *
    generalize hb : putP m a.1 (v + 1) (t.drop (2 ^ m)) = b at *
    have ew : IntKind.i64.wrap (v + 1) = v + 1 := w64 (by omega) (by omega)
    have et : List.take (t.length - 2 ^ m) (List.drop (2 ^ m) t) = List.drop (2 ^ m) t := List.take_of_length_le (by rw [List.length_drop]; omega)
    have pre : ∀ k, cl k 153 s_impl_smith_forge ((ks, ps, ()), v + 1, t.take (2 ^ m), ()) = some ((a.2, ()), (a.1, ps1, ()), ()) → cl k 153 s_impl_smith_forge ((a.1, ps1, ()), v + 1, t.drop (2 ^ m), ()) = some ((b.2, ()), (b.1, ps2, ()), ()) →
        impl_smith_forge.F (cl k) k (ks, ps, ()) v t = (bif a.2 == b.2 then some ((a.2, ()), (b.1, ps2, ()), ())
          else bif !(mfind KnT ps2 (v, a.2, b.2, ())).isSome then
              bif decide ((b.1.length + [(v, a.2, b.2, ())].length) * ti92.bytes ≤ (140737488355328 : Nat)) then
                some ((IntKind.i64.wrap ((↑(b.1 ++ [(v, a.2, b.2, ())]).length : Int) + (1 : Int)), ()), (b.1 ++ [(v, a.2, b.2, ())], mput KnT ps2 (v, a.2, b.2, ()) (IntKind.i64.wrap ((↑(b.1 ++ [(v, a.2, b.2, ())]).length : Int) + (1 : Int))), ()), ())
              else none
            else some (((mfind KnT ps2 (v, a.2, b.2, ())).getD 0, ()), (b.1, ps2, ()), ())) := by
      intro k h1 h2
      simp only [impl_smith_forge.F, impl_smith_forge.Fm]
      rw [beq_false_of_ne (by omega), cond_false]
      simp only [e1, ew, dle0, cond_true, Int.toNat_natCast, Nat.sub_zero, List.drop_zero, decide_eq_true (Nat.zero_le (2 ^ m)), decide_eq_true (show 2 ^ m ≤ t.length by omega), decide_eq_true (Nat.le_refl t.length), Bool.and_self, h1, Option.bind_some, et, h2]
      rfl
    have hF := fun k => impl_smith_forge.F_eq (cl k) k (ks, ps, ()) v t
    by_cases e : a.2 = b.2
    · rw [if_pos e]
      refine ⟨ps2, hp2, Ans.of hF ((h1.and h2).mono fun k ⟨h1, h2⟩ => ?_)⟩
      rw [pre k h1 h2, e, beq_self_eq_true, cond_true]
    · rw [if_neg e]
      have hf := hp2 (v, a.2, b.2, ())
      unfold putEnd
      cases hs : seek (v, a.2, b.2, ()) b.1 0 with
      | some i =>
        rw [hs] at hf
        refine ⟨ps2, hp2, Ans.of hF ((h1.and h2).mono fun k ⟨h1, h2⟩ => ?_)⟩
        rw [pre k h1 h2, beq_false_of_ne e, cond_false, hf]; rfl
      | none =>
        rw [hs] at hf
        refine ⟨_, hp2.put hs, Ans.of hF ((h1.and h2).mono fun k ⟨h1, h2⟩ => ?_)⟩
        rw [pre k h1 h2, beq_false_of_ne e, cond_false, hf]
        have ew2 : IntKind.i64.wrap ((↑(b.1 ++ [(v, a.2, b.2, ())]).length : Int) + (1 : Int)) = (b.1.length : Int) + 2 := by
          rw [List.length_append, List.length_singleton, w64 (by omega) (by omega)]; omega
        rw [ew2]
        simp only [Option.map_none, Option.isSome_none, Bool.not_false, cond_true]
        rw [decide_eq_true (by show (b.1.length + 1) * 24 ≤ _; omega), cond_true]

def mkDia (m : Nat) (t : List Bool) : Dia := ((m : Int), (putP m [] 0 t).2, (putP m [] 0 t).1, ())
theorem l13Make_ans (m : Nat) (t : List Bool) (hm : m ≤ 10) (ht : t.length = 2 ^ m) : Ans 105 s_spec_l13Make ((m : Int), t, ()) ((mkDia m t, ()), ()) := by
  have hp := pow10 hm
  refine Ans.of (fun k => spec_l13Make.F_eq (cl k) k (m : Int) t) ((l13Put_ans m [] 0 t hm ht (Int.le_refl _) (by omega) (by simp only [List.length_nil]; omega)).mono fun k h => ?_)
  simp only [spec_l13Make.F, spec_l13Make.Fm, h, Option.bind_some]; rfl
theorem diaOf_ans (m : Nat) (t : List Bool) (hm : m ≤ 10) (ht : t.length = 2 ^ m) : Ans 109 s_impl_diaOf ((m : Int), t, ()) ((mkDia m t, ()), ()) := by
  have hp := pow10 hm
  obtain ⟨ps, _, h⟩ := forge_ans m [] [] 0 t hm ht (Int.le_refl _) (by omega) (by simp only [List.length_nil]; omega) (fun x => rfl)
  refine Ans.of (fun k => impl_diaOf.F_eq (cl k) k (m : Int) t) (h.mono fun k h => ?_)
  simp only [impl_diaOf.F, impl_diaOf.Fm, h, Option.bind_some]; rfl

end Go.Proofs.Ytcmgjdmhemfecaa.Pf
