/- Which expressions may trap: both sides answer the same. Its condition: the expression may stand in the body. -/
import Derived.Test.YtafgkoelefpacaaPfL
import Derived.Test.YtafgkoelefpacaaPfT3
import Derived.Test.YtafgkoelefpacaaPfT4
set_option maxHeartbeats 2000000
set_option linter.all false
namespace Go.Proofs.Ytafgkoelefpacaa.Pf
open Go Go.Pv
/-! ### How many values are there at a place -/
def tk (e : List Tm) (i : Nat) : Int := if h : i < e.length then takes e[i].1 else 0
theorem tk_lt {e : List Tm} {i : Nat} (h : i < e.length) : tk e i = takes e[i].1 := dif_pos h
def dep (e : List Tm) : Nat → Int
  | 0 => 0
  | i + 1 => dep e i + (1 - tk e i)
theorem dep_succ {e : List Tm} {i : Nat} (h : i < e.length) : dep e (i + 1) = dep e i + (1 - takes e[i].1) := by rw [dep, tk_lt h]
theorem okGo_dep {e : List Tm} : ∀ (d j : Nat), e.length - j = d → j ≤ e.length → okGo (dep e j) (e.drop j) → (∀ (i : Nat) (h : i < e.length), j ≤ i → TmOk (dep e i) e[i]) ∧ dep e e.length = 1 := by
  intro d
  induction d with
  | zero =>
    intro j hd hj h
    obtain rfl : j = e.length := by omega
    rw [okGo_end (Nat.le_refl _)] at h
    exact ⟨fun i hi hji => by omega, h⟩
  | succ d ih =>
    intro j hd hj h
    have hj : j < e.length := by omega
    rw [okGo_drop hj] at h
    obtain ⟨h1, h2⟩ := ih (j + 1) (by omega) (by omega) (by unfold dep; rw [tk_lt hj]; exact h.2)
    refine ⟨fun i hi hji => ?_, h2⟩
    rcases Nat.lt_or_ge j i with h3 | h3
    · exact h1 i hi h3
    · obtain rfl : i = j := by omega
      exact h.1
theorem ExpOk.at {e : List Tm} (h : ExpOk e) {i : Nat} (hi : i < e.length) : TmOk (dep e i) e[i] := (okGo_dep e.length 0 rfl (Nat.zero_le _) h.2).1 i hi (Nat.zero_le _)
theorem ExpOk.last {e : List Tm} (h : ExpOk e) : dep e e.length = 1 := (okGo_dep e.length 0 rfl (Nat.zero_le _) h.2).2
theorem ExpOk.pos {e : List Tm} (h : ExpOk e) : 0 < e.length := by
  have := h.last
  rcases Nat.eq_zero_or_pos e.length with h1 | h1
  · rw [h1] at this; exact absurd (show (0 : Int) = 1 from this) (by omega)
  · exact h1
theorem ExpOk.dep_pos {e : List Tm} (h : ExpOk e) {i : Nat} (hi : i < e.length) : 1 ≤ dep e (i + 1) := by
  have h1 := h.at hi
  unfold TmOk at h1
  unfold dep
  rw [tk_lt hi]
  omega
theorem okGo_of {e : List Tm} (m : Nat) : ∀ (s : Nat) (n : Int), s + m ≤ e.length → (∀ (i : Nat) (h : i < e.length), s ≤ i → i < s + m → TmOk (n + dep e i - dep e s) e[i]) → n + dep e (s + m) - dep e s = 1 → okGo n ((e.drop s).take m) := by
  induction m with
  | zero =>
    intro s n _ _ h
    show n = 1
    rw [Nat.add_zero] at h
    omega
  | succ m ih =>
    intro s n hs h h1
    have hs' : s < e.length := by omega
    rw [List.drop_eq_getElem_cons hs', List.take_succ_cons]
    have h2 := h s hs' (Nat.le_refl _) (by omega)
    rw [show n + dep e s - dep e s = n by omega] at h2
    refine ⟨h2, ih (s + 1) _ (by omega) (fun i hi h3 h4 => ?_) ?_⟩
    · have := h i hi (by omega) (by omega)
      rw [show dep e (s + 1) = dep e s + (1 - takes e[s].1) by rw [dep, tk_lt hs']]
      rw [show n + (1 - takes e[s].1) + dep e i - (dep e s + (1 - takes e[s].1)) = n + dep e i - dep e s by omega]
      exact this
    · rw [show dep e (s + 1) = dep e s + (1 - takes e[s].1) by rw [dep, tk_lt hs', ]]
      rw [show s + 1 + m = s + (m + 1) by omega]
      omega
/-! ### Where an expression begins -/
structure Fst (e : List Tm) (i s : Nat) : Prop where
  le : s ≤ i
  de : dep e s = dep e (i + 1) - 1
  up : ∀ y, s < y → y ≤ i → dep e (i + 1) ≤ dep e y
theorem first_loop (e : List Tm) (he : ExpOk e) (i : Nat) (hi : i < e.length) : ∀ (x : Nat), x ≤ i → (∀ y, x < y → y ≤ i → dep e (i + 1) ≤ dep e y) →
    Tq (x + 1) (fun k q => spec_l2First.L0 (cl k) k e q (1 - (dep e (i + 1) - dep e (x + 1))) (x : Int)) (fun (r : (Int × Unit) × Unit) => ∃ s : Nat, Fst e i s ∧ r = (((s : Int), ()), ())) := by
  have hp := he.dep_pos hi
  have hB : ∀ y, y ≤ e.length → 0 ≤ dep e y ∧ dep e y ≤ y := by
    intro y
    induction y with
    | zero => intro _; exact ⟨Int.le_refl _, Int.le_refl _⟩
    | succ y ih =>
      intro h
      have h1 := ih (by omega)
      have h2 := he.at (i := y) (by omega)
      unfold TmOk at h2
      unfold dep
      rw [tk_lt (by omega)]
      omega
  have hl := he.1
  intro x
  induction x with
  | zero =>
    intro hx hup
    have h1 := he.at (i := 0) (by omega)
    have h2 := hB (i + 1) (by omega)
    have h3 := dep_succ (e := e) (i := 0) (by omega)
    have h4 : dep e 0 = 0 := rfl
    have h5 := hB (0 + 1) (by omega)
    unfold TmOk at h1
    have h6 : dep e (i + 1) ≤ dep e (0 + 1) := by
      rcases Nat.eq_zero_or_pos i with rfl | h
      · exact Int.le_refl _
      · exact hup 1 (by omega) (by omega)
    refine Tq.succ ?_
    show Tq 0 (fun k q => spec_l2First.step0 (cl k) k e (spec_l2First.L0 (cl k) k e q) (1 - (dep e (i + 1) - dep e (0 + 1))) ((0 : Nat) : Int)) _
    unfold spec_l2First.step0
    repeat' ((first
     | refine .ba (sTakes_ans _) ?_
     | refine .bt (by first | assumption | (simp (disch := omega) only [zs, w64, zt]; first | done | omega)) ?_
     | refine .bf (by first | assumption | (simp (disch := omega) only [zs, w64, zt]; first | done | omega)) ?_
     | refine .some (lg0 (by omega)) ?_
     | refine .some (lg (by omega)) ?_
     | refine .some (lgI (by omega) (by omega)) ?_
     | (refine .bif (fun zz => ?_) (fun zz => ?_) <;> try simp (disch := omega) only [zs, w64, zt] at zz)) <;> try dsimp only)
    exact Tq.ret ⟨0, ⟨by omega, by omega, fun y h1 h2 => hup y h1 h2⟩, rfl⟩
  | succ x ih =>
    intro hx hup
    have h1 := he.at (i := x + 1) (by omega)
    have h2 := hB (i + 1) (by omega)
    have h3 : dep e (x + 1 + 1) = dep e (x + 1) + (1 - takes e[x + 1].1) := by rw [dep, tk_lt (by omega)]
    have h5 := hB (x + 1) (by omega)
    have h7 := hB (x + 1 + 1) (by omega)
    unfold TmOk at h1
    have h6 : dep e (i + 1) ≤ dep e (x + 1 + 1) := by
      rcases Nat.lt_or_ge (x + 1) i with h | h
      · exact hup (x + 1 + 1) (by omega) (by omega)
      · obtain rfl : i = x + 1 := by omega
        exact Int.le_refl _
    refine Tq.succ ?_
    show Tq (x + 1) (fun k q => spec_l2First.step0 (cl k) k e (spec_l2First.L0 (cl k) k e q) (1 - (dep e (i + 1) - dep e (x + 1 + 1))) ((x + 1 : Nat) : Int)) _
    unfold spec_l2First.step0
    have h8 := takes_le e[x + 1].1
    repeat' ((first
     | refine .ba (sTakes_ans _) ?_
     | refine .bt (by first | assumption | (simp (disch := omega) only [zs, w64, zt]; first | done | omega)) ?_
     | refine .bf (by first | assumption | (simp (disch := omega) only [zs, w64, zt]; first | done | omega)) ?_
     | refine .some (lg0 (by omega)) ?_
     | refine .some (lg (by omega)) ?_
     | refine .some (lgI (by omega) (by omega)) ?_
     | (refine .bif (fun zz => ?_) (fun zz => ?_) <;> try simp (disch := omega) only [zs, w64, zt] at zz)) <;> try dsimp only)
    · exact Tq.ret ⟨x + 1, ⟨by omega, by omega, fun y h1 h2 => hup y h1 h2⟩, rfl⟩
    · simp (disch := omega) only [w64]
      rw [show 1 - (dep e (i + 1) - dep e (x + 1 + 1)) - 1 + takes e[x + 1].1 = 1 - (dep e (i + 1) - dep e (x + 1)) by omega, show ((x + 1 : Nat) : Int) - 1 = (x : Int) by omega]
      refine ih (by omega) fun y h1 h2 => ?_
      rcases Nat.lt_or_ge (x + 1) y with h | h
      · exact hup y h h2
      · obtain rfl : y = x + 1 := by omega
        omega
theorem first_gv (e : List Tm) (he : ExpOk e) (i : Nat) (hi : i < e.length) : Gv n_spec_l2First s_spec_l2First (e, (i : Int), ()) (fun (r : (Int × Unit) × Unit) => ∃ s : Nat, Fst e i s ∧ r = (((s : Int), ()), ())) := by
  refine Gv.of (fun k => spec_l2First.F_eq (cl k) k e i) ?_
  unfold spec_l2First.F spec_l2First.Fm
  have := first_loop e he i hi i (Nat.le_refl _) (fun y h1 h2 => by omega)
  rw [show 1 - (dep e (i + 1) - dep e (i + 1)) = 1 by omega] at this
  exact Tq.diag this
/-! ### Its parts -/
def sl (e : List Tm) (s n : Nat) : List Tm := (e.drop s).take (n - s)
theorem sl_len {e : List Tm} {s n : Nat} (hn : n ≤ e.length) : (sl e s n).length = n - s := by
  unfold sl; rw [List.length_take, List.length_drop]; omega
theorem sl_get {e : List Tm} {s n j : Nat} (hn : n ≤ e.length) (hj : j < n - s) : (sl e s n)[j]'(by rw [sl_len hn]; exact hj) = e[s + j]'(by omega) := by
  unfold sl; rw [List.getElem_take, List.getElem_drop]
theorem dep_sl {e : List Tm} {s n : Nat} (hn : n ≤ e.length) : ∀ (j : Nat), j ≤ n - s → dep (sl e s n) j = dep e (s + j) - dep e s := by
  intro j
  induction j with
  | zero => intro _; rw [Nat.add_zero]; show (0 : Int) = _; omega
  | succ j ih =>
    intro hj
    have h1 := ih (by omega)
    have h2 : dep (sl e s n) (j + 1) = dep (sl e s n) j + (1 - tk (sl e s n) j) := rfl
    have h3 : dep e (s + (j + 1)) = dep e (s + j) + (1 - tk e (s + j)) := rfl
    rw [h2, h3, tk_lt (by rw [sl_len hn]; omega), tk_lt (by omega), sl_get hn (by omega), h1]
    omega
theorem Fst.ok {e : List Tm} (he : ExpOk e) {i s : Nat} (hi : i < e.length) (h : Fst e i s) : ExpOk (sl e s (i + 1)) := by
  obtain ⟨h1, h2, h3⟩ := h
  refine ⟨by rw [sl_len (by omega)]; have := he.1; omega, ?_⟩
  unfold sl
  refine okGo_of _ s 0 (by omega) (fun y hy h4 h5 => ?_) (by rw [show s + (i + 1 - s) = i + 1 by omega]; omega)
  have h6 := he.at hy
  have h7 : dep e (y + 1) = dep e y + (1 - takes e[y].1) := by rw [dep, tk_lt hy]
  have h8 : dep e (i + 1) ≤ dep e (y + 1) := by
    rcases Nat.lt_or_ge y i with h | h
    · exact h3 (y + 1) (by omega) (by omega)
    · obtain rfl : y = i := by omega
      exact Int.le_refl _
  unfold TmOk at h6 ⊢
  omega
theorem by134 : ti134.bytes = 16 := rfl
theorem by83 : ti83.bytes = 24 := rfl
theorem copy_ans (e : List Tm) (he : e.length ≤ 1048576) : Ans n_spec_l2Copy s_spec_l2Copy (e, ()) ((e, ()), ()) := by
  refine Gv.ans (Gv.of (fun k => spec_l2Copy.F_eq (cl k) k e) ?_)
  unfold spec_l2Copy.F spec_l2Copy.Fm
  refine Tq.bt (apb (by rw [by134]; omega)) (Tq.ret ?_)
  rw [List.nil_append]
theorem part_step (a : List Tm) (ha : ExpOk a) {P : (List (List Tm) × Unit) × Unit → Prop} (n en : Nat) (acc : List (List Tm)) (hd : dep a en = n + 1) (hn : en ≤ a.length) (hnn : n ≤ 3) (hacc : acc.length ≤ 10)
    (H : ∀ f, en ≠ 0 → Fst a (en - 1) f → dep a f = n → Tq (n + 1) (fun k q => spec_PartsOf.L0 (cl k) k a q ((f : Int) - 1) (n : Int) ([sl a f en] ++ acc)) P) :
    Tq (n + 1 + 1) (fun k q => spec_PartsOf.L0 (cl k) k a q ((en : Int) - 1) ((n + 1 : Nat) : Int) acc) P := by
  have hl := ha.1
  have h0 : en ≠ 0 := by
    rintro rfl
    have : (0 : Int) = n + 1 := hd
    omega
  obtain ⟨m, rfl⟩ : ∃ m, en = m + 1 := ⟨en - 1, by omega⟩
  rw [show (((m + 1 : Nat) : Int) - 1) = (m : Int) by omega]
  refine Tq.succ ?_
  show Tq (n + 1) (fun k q => spec_PartsOf.step0 (cl k) k a (spec_PartsOf.L0 (cl k) k a q) (m : Int) ((n + 1 : Nat) : Int) acc) _
  unfold spec_PartsOf.step0
  refine Tq.bt (decide_eq_true (by omega)) (Tq.bind (first_gv a ha m (by omega)).tq ?_)
  rintro y ⟨f, hf, rfl⟩
  have hf1 := hf.le
  dsimp only
  rw [ws (n := a.length) (by omega) (by omega), Int.toNat_natCast, Int.toNat_natCast]
  have hc := copy_ans (sl a f (m + 1)) (by rw [sl_len (by omega)]; omega)
  unfold sl at hc
  refine Tq.bt (decide_eq_true (by omega)) (Tq.bt (decide_eq_true (by omega)) (Tq.bt (by simp only [zs]; omega) (Tq.bind hc.tq ?_)))
  rintro y rfl
  refine Tq.bt (apb (by rw [by83]; simp only [List.length_cons, List.length_nil]; omega)) ?_
  simp (disch := omega) only [w64]
  rw [show ((n + 1 : Nat) : Int) - 1 = (n : Int) by omega]
  have := hf.de
  exact H f h0 hf (by rw [show m + 1 - 1 = m by omega] at *; omega)
theorem parts_loop (a : List Tm) (ha : ExpOk a) : ∀ (n en : Nat) (acc : List (List Tm)), dep a en = n → en ≤ a.length → n ≤ 3 → acc.length + n ≤ 10 →
    Tq (n + 1) (fun k q => spec_PartsOf.L0 (cl k) k a q ((en : Int) - 1) (n : Int) acc) (fun (r : (List (List Tm) × Unit) × Unit) => ∃ out, r = ((out ++ acc, ()), ()) ∧ out.length = n) := by
  intro n
  induction n with
  | zero =>
    intro en acc h1 h2 h3 h4
    refine Tq.succ ?_
    show Tq 0 (fun k q => spec_PartsOf.step0 (cl k) k a (spec_PartsOf.L0 (cl k) k a q) ((en : Int) - 1) ((0 : Nat) : Int) acc) _
    unfold spec_PartsOf.step0
    exact Tq.bf (by rfl) (Tq.ret ⟨[], rfl, rfl⟩)
  | succ n ih =>
    intro en acc h1 h2 h3 h4
    refine part_step a ha n en acc (by omega) h2 (by omega) (by omega) fun f h5 h6 h7 => ?_
    have := h6.le
    refine (ih f ([sl a f en] ++ acc) h7 (by omega) (by omega) (by simp only [List.length_append, List.length_cons, List.length_nil]; omega)).mono ?_
    rintro _ ⟨out, rfl, h8⟩
    exact ⟨out ++ [sl a f en], by rw [List.append_assoc], by simp [h8]⟩
theorem parts_gv (a : List Tm) (ha : ExpOk a) : Gv n_spec_PartsOf s_spec_PartsOf (a, ()) (fun (r : (List (List Tm) × Unit) × Unit) => ∃ out, r = ((out, ()), ()) ∧
    (∀ n : Nat, tk a (a.length - 1) = n + 1 → ∃ pre f, out = pre ++ [sl a f (a.length - 1)] ∧ pre.length = n ∧ Fst a (a.length - 2) f ∧ 2 ≤ a.length)) := by
  have hp := ha.pos
  have hl := ha.1
  refine Gv.of (fun k => spec_PartsOf.F_eq (cl k) k a) ?_
  unfold spec_PartsOf.F spec_PartsOf.Fm
  have h1 := ha.at (i := a.length - 1) (by omega)
  have h2 := ha.last
  have h3 : dep a (a.length - 1 + 1) = dep a (a.length - 1) + (1 - tk a (a.length - 1)) := rfl
  rw [show a.length - 1 + 1 = a.length by omega] at h3
  have h4 := tk_lt (e := a) (i := a.length - 1) (by omega)
  have h5 := takes_le a[a.length - 1].1
  unfold TmOk at h1
  have hs := sExpOk_ans a (by omega)
  rw [bo_t ha] at hs
  refine Tq.bind hs.tq ?_
  rintro y rfl
  rw [w64 (x := (a.length : Int) - 1) (by omega) (by omega), w64 (x := (a.length : Int) - 2) (by omega) (by omega), show (a.length : Int) - 1 = ((a.length - 1 : Nat) : Int) by omega]
  refine Tq.bf rfl (Tq.bt (dle0 _) (Tq.some (lg (by omega)) (Tq.bind (sTakes_ans _).tq ?_)))
  rintro y rfl
  dsimp only
  rw [← h4]
  obtain ⟨n, hn⟩ : ∃ n : Nat, tk a (a.length - 1) = n := ⟨(tk a (a.length - 1)).toNat, by omega⟩
  rw [hn, show (a.length : Int) - 2 = ((a.length - 1 : Nat) : Int) - 1 by omega]
  rcases n with _ | n
  · refine Tq.diag ((parts_loop a ha 0 (a.length - 1) [] (by omega) (by omega) (by omega) (by simp)).mono ?_)
    rintro _ ⟨out, rfl, h8⟩
    exact ⟨out, by rw [List.append_nil], fun n hn => by omega⟩
  · refine Tq.diag (part_step a ha n (a.length - 1) [] (by omega) (by omega) (by omega) (by simp) fun f h5 h6 h7 => ?_)
    have := h6.le
    refine (parts_loop a ha n f ([sl a f (a.length - 1)] ++ []) h7 (by omega) (by omega) (by simp only [List.length_append, List.length_cons, List.length_nil]; omega)).mono ?_
    rintro _ ⟨out, rfl, h8⟩
    refine ⟨out ++ [sl a f (a.length - 1)], by rw [List.append_nil], fun n' hn' => ⟨out, f, rfl, by omega, ?_, by omega⟩⟩
    rw [show a.length - 2 = a.length - 1 - 1 by omega]
    exact h6
end Go.Proofs.Ytafgkoelefpacaa.Pf
