/- Dias as functions of bits. No condition. -/
import Derived.Test.YtcmgjdmhemfecaaPfN
import Derived.Test.YtcmgjdmhemfecaaPfT5
namespace Go.Proofs.Ytcmgjdmhemfecaa.Pf
open Go Go.Pv

abbrev Bf := (Nat → Bool) → Bool
def fT (m : Nat) (g : Bf) : List Bool := (List.range (2 ^ m)).map fun n => g (bitN m n)
theorem fT_len (m : Nat) (g : Bf) : (fT m g).length = 2 ^ m := by simp [fT]
def fD (m : Nat) (g : Bf) : Dia := mkDia m (fT m g)
/-- It looks at the first bits alone. -/
def Loc (m : Nat) (g : Bf) : Prop := ∀ f f' : Nat → Bool, (∀ w, w < m → f w = f' w) → g f = g f'
theorem fD_ok {m : Nat} (g : Bf) (hm : m ≤ 10) : diaOk (fD m g) = true := (mkDia_ok m _ hm (fT_len m g)).1
theorem fD_tab {m : Nat} (g : Bf) (hm : m ≤ 10) : tab m (fD m g).2.2.1 (fD m g).2.1 = fT m g := (mkDia_ok m _ hm (fT_len m g)).2
theorem fD_nat (m : Nat) (g : Bf) : (fD m g).1.toNat = m := Int.toNat_natCast m
theorem fD_len {m : Nat} (g : Bf) (hm : m ≤ 10) : (fD m g).2.2.1.length ≤ 1023 := mkDia_len m _ hm
theorem fD_congr {m : Nat} {g h : Bf} (e : ∀ n, n < 2 ^ m → g (bitN m n) = h (bitN m n)) : fD m g = fD m h := by
  unfold fD fT
  rw [List.map_congr_left fun n hn => e n (List.mem_range.1 hn)]

theorem idx_bit (f : Nat → Bool) : ∀ (j v w : Nat), w < j → (idx j v f).testBit (j - 1 - w) = f (v + w)
  | 0, _, _, h => by omega
  | j + 1, v, w, h => by
    have hl := idx_lt j (v + 1) f
    unfold idx
    cases w with
    | zero =>
      rw [show j + 1 - 1 - 0 = j by omega]
      cases hf : f v with
      | true => rw [if_pos rfl, Nat.testBit_two_pow_add_eq, Nat.testBit_lt_two_pow hl]; rfl
      | false => rw [if_neg (by simp), Nat.zero_add, Nat.testBit_lt_two_pow hl]
    | succ w =>
      have ih := idx_bit f j (v + 1) w (by omega)
      rw [show j + 1 - 1 - (w + 1) = j - 1 - w by omega]
      rw [show v + (w + 1) = v + 1 + w by omega, ← ih]
      cases hf : f v with
      | true => rw [if_pos rfl, Nat.testBit_two_pow_add_gt (by omega)]
      | false => rw [if_neg (by simp), Nat.zero_add]
theorem fT_get {m i : Nat} (g : Bf) (h : i < 2 ^ m) : (fT m g).getD i false = g (bitN m i) := by
  rw [List.getD_eq_getElem?_getD, List.getElem?_eq_getElem (by rw [fT_len]; exact h)]
  simp [fT]
theorem fD_walk {m : Nat} {g : Bf} (hg : Loc m g) (f : Nat → Bool) : walk (fD m g).2.2.1 f (fD m g).2.2.1.length (fD m g).2.1 = g f := by
  have h := putP_ok m m 0 [] (fT m g) (by omega) (fT_len m g) (fun i hi => by simp at hi)
  have hi := idx_lt m 0 f
  refine (h.yes f _ h.hi).trans ?_
  rw [fT_get g hi]
  refine hg _ _ fun w hw => ?_
  have := idx_bit f m 0 w hw
  rw [Nat.zero_add] at this
  exact this

theorem both_fD {m : Nat} (and : Bool) (g h : Bf) (hm : m ≤ 10) : both and (fD m g) (fD m h) = (fD m fun f => opB and (g f) (h f), true, ()) := by
  unfold both
  rw [if_pos ⟨fD_ok g hm, fD_ok h hm, rfl⟩, fD_nat, fD_nat, fD_tab g hm, fD_tab h hm]
  have e : bothT and (fT m g) (fT m h) = fT m fun f => opB and (g f) (h f) := by
    unfold bothT
    rw [fT_len]
    refine List.map_congr_left fun n hn => ?_
    have hn := List.mem_range.1 hn
    rw [fT_get g hn, fT_get h hn]
  rw [e]; rfl
theorem not_fD {m : Nat} (g : Bf) (hm : m ≤ 10) : notDia (fD m g) = fD m fun f => !g f := by
  unfold notDia
  rw [if_pos (fD_ok g hm), fD_nat, fD_tab g hm]
  unfold fD fT
  rw [List.map_map]; rfl
def upd (f : Nat → Bool) (v : Nat) (yes : Bool) : Nat → Bool := fun w => if w = v then yes else f w
theorem fix_fD {m v : Nat} {g : Bf} (hg : Loc m g) (yes : Bool) (hm : m ≤ 10) (hv : v < m) : fixDia (fD m g) (v : Int) yes = (fD m fun f => g (upd f v yes), true, ()) := by
  unfold fixDia
  rw [if_pos ⟨fD_ok g hm, by omega, by show (v : Int) < (m : Int); omega⟩, fD_nat, Int.toNat_natCast]
  have e : tabV m v yes (fD m g).2.2.1 (fD m g).2.1 = fT m fun f => g (upd f v yes) := by
    unfold tabV fT
    refine List.map_congr_left fun n _ => ?_
    exact fD_walk hg _
  rw [e]; rfl
theorem some_fD {m v : Nat} {g : Bf} (hg : Loc m g) (hm : m ≤ 10) (hv : v < m) : someDia (fD m g) (v : Int) = (fD m fun f => g (upd f v false) || g (upd f v true), true, ()) := by
  unfold someDia
  rw [if_pos ⟨fD_ok g hm, by omega, by show (v : Int) < (m : Int); omega⟩, fD_nat, Int.toNat_natCast]
  have e : someT m v (fD m g).2.2.1 (fD m g).2.1 = fT m fun f => g (upd f v false) || g (upd f v true) := by
    unfold someT fT
    refine List.map_congr_left fun n _ => ?_
    rw [fD_walk hg, fD_walk hg]; rfl
  rw [e]; rfl
theorem ok_fD {d : Dia} (h : diaOk d = true) : d.1.toNat ≤ 10 ∧ d.1 = (d.1.toNat : Int) ∧ ∃ g, Loc d.1.toNat g ∧ d = fD d.1.toNat g := by
  have ⟨h1, h2⟩ := diaOk_at h
  have ⟨m1, m2⟩ := diaOk_m h
  exact ⟨m1, m2, fun f => walk d.2.2.1 f d.2.2.1.length d.2.1, fun f f' e => walk_congr (goodB_falls h1) e _ _, h2.symm⟩
theorem Loc.both {m : Nat} {g h : Bf} (and : Bool) (hg : Loc m g) (hh : Loc m h) : Loc m fun f => opB and (g f) (h f) := fun f f' e => by
  show opB and (g f) (h f) = opB and (g f') (h f')
  rw [hg f f' e, hh f f' e]
theorem Loc.not {m : Nat} {g : Bf} (hg : Loc m g) : Loc m fun f => !g f := fun f f' e => by
  show (!g f) = !g f'
  rw [hg f f' e]
theorem Loc.upd {m : Nat} {g : Bf} (hg : Loc m g) (v : Nat) (b : Bool) : Loc m fun f => g (upd f v b) := fun f f' e => hg _ _ fun w hw => by
  unfold Pf.upd
  rw [e w hw]
theorem Loc.var {m v : Nat} (hv : v < m) : Loc m fun f => f v := fun _ _ e => e v hv

theorem take_rep {m : Nat} (b : Bool) : (List.replicate (2 ^ (m + 1)) b).take (2 ^ m) = List.replicate (2 ^ m) b ∧ (List.replicate (2 ^ (m + 1)) b).drop (2 ^ m) = List.replicate (2 ^ m) b := by
  have e5 : 2 ^ (m + 1) = 2 ^ m + 2 ^ m := by rw [Nat.pow_succ]; omega
  rw [List.take_replicate, List.drop_replicate, e5, Nat.min_eq_left (Nat.le_add_right _ _), Nat.add_sub_cancel]
  exact ⟨rfl, rfl⟩
theorem putP_const (ks : List Kn) (b : Bool) : ∀ (m : Nat) (v : Int), putP m ks v (List.replicate (2 ^ m) b) = (ks, bit b)
  | 0, v => rfl
  | m + 1, v => by
    unfold putP
    rw [(take_rep b).1, (take_rep b).2, putP_const ks b m (v + 1), if_pos (by rw [putP_const ks b m (v + 1)])]
    dsimp only
    rw [putP_const ks b m (v + 1)]
theorem const_fD (m : Nat) (b : Bool) : fD m (fun _ => b) = ((m : Int), bit b, [], ()) := by
  have e : fT m (fun _ => b) = List.replicate (2 ^ m) b := by
    unfold fT
    rw [List.map_const', List.length_range]
  unfold fD mkDia
  rw [e, putP_const [] b m 0]
def varT (m d : Nat) : List Bool := (List.range (2 ^ m)).map fun n => n.testBit (m - 1 - d)
theorem half_map (m : Nat) (F : Nat → Bool) : ((List.range (2 ^ (m + 1))).map F).take (2 ^ m) = (List.range (2 ^ m)).map F ∧ ((List.range (2 ^ (m + 1))).map F).drop (2 ^ m) = (List.range (2 ^ m)).map fun n => F (2 ^ m + n) := by
  have e5 : 2 ^ (m + 1) = 2 ^ m + 2 ^ m := by rw [Nat.pow_succ]; omega
  constructor
  · apply List.ext_getElem?
    intro i
    rw [List.getElem?_take]
    by_cases h : i < 2 ^ m
    · rw [if_pos h]; simp [h, show i < 2 ^ (m + 1) by omega]
    · rw [if_neg h]; simp [h]
  · apply List.ext_getElem?
    intro i
    rw [List.getElem?_drop]
    by_cases h : i < 2 ^ m
    · simp [h, show 2 ^ m + i < 2 ^ (m + 1) by omega]
    · simp [h, show ¬ 2 ^ m + i < 2 ^ (m + 1) by omega]
theorem putP_var (V : Int) (ks : List Kn) (hk : ks = [] ∨ ks = [(V, 0, 1, ())]) : ∀ (m d : Nat) (v : Int), d < m → v + d = V → putP m ks v (varT m d) = ([(V, 0, 1, ())], 2)
  | 0, _, _, h, _ => by omega
  | m + 1, 0, v, _, hv => by
    obtain rfl : v = V := by omega
    have h1 : (varT (m + 1) 0).take (2 ^ m) = List.replicate (2 ^ m) false := by
      unfold varT
      rw [(half_map m _).1]
      apply List.ext_getElem?
      intro i
      by_cases h : i < 2 ^ m
      · simp [h, Nat.testBit_lt_two_pow h]
      · simp [h]
    have h2 : (varT (m + 1) 0).drop (2 ^ m) = List.replicate (2 ^ m) true := by
      unfold varT
      rw [(half_map m _).2]
      apply List.ext_getElem?
      intro i
      by_cases h : i < 2 ^ m
      · simp [h, Nat.testBit_two_pow_add_eq, Nat.testBit_lt_two_pow h]
      · simp [h]
    unfold putP
    rw [h1, h2, putP_const ks false m (v + 1)]
    dsimp only
    rw [putP_const ks true m (v + 1), if_neg (show ¬ bit false = (ks, bit true).2 from fun e => absurd (show (0 : Int) = 1 from e) (by decide))]
    dsimp only
    rcases hk with rfl | rfl
    · rfl
    · show putEnd [(v, 0, 1, ())] (v, 0, 1, ()) = _
      unfold putEnd
      have : seek (v, 0, 1, ()) [(v, 0, 1, ())] 0 = some 0 := by unfold seek; rw [if_pos rfl]
      rw [this]; rfl
  | m + 1, d + 1, v, hd, hv => by
    have h1 : (varT (m + 1) (d + 1)).take (2 ^ m) = varT m d := by
      unfold varT
      rw [(half_map m _).1, show m + 1 - 1 - (d + 1) = m - 1 - d by omega]
    have h2 : (varT (m + 1) (d + 1)).drop (2 ^ m) = varT m d := by
      unfold varT
      rw [(half_map m _).2, show m + 1 - 1 - (d + 1) = m - 1 - d by omega]
      refine List.map_congr_left fun n _ => ?_
      rw [Nat.testBit_two_pow_add_gt (by omega)]
    unfold putP
    have a := putP_var V ks hk m d (v + 1) (by omega) (by omega)
    have b := putP_var V [(V, 0, 1, ())] (.inr rfl) m d (v + 1) (by omega) (by omega)
    rw [h1, h2, a]
    dsimp only
    rw [b, if_pos rfl]
theorem var_fD {m v : Nat} (hv : v < m) : fD m (fun f => f v) = ((m : Int), 2, [((v : Int), 0, 1, ())], ()) := by
  unfold fD mkDia
  have := putP_var (v : Int) [] (.inl rfl) m v 0 hv (by omega)
  have e : fT m (fun f => f v) = varT m v := rfl
  rw [e, this]

end Go.Proofs.Ytcmgjdmhemfecaa.Pf
