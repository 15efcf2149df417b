/- Drawn clauses. No condition. -/
import Derived.Test.YtcmgjdmhemfecaaPfCu
import Derived.Test.YtcmgjdmhemfecaaPfC
import Derived.Test.YtcmgjdmhemfecaaPfTD
namespace Go.Proofs.Ytcmgjdmhemfecaa.Pf
open Go Go.Pv

theorem Tq.dn {α : Type} {P : α → Prop} {f : Nat → Nat → Option α} {j : Nat} (h : Tq 0 (fun k _ => f k (k - (j + 1) + 1)) P) : Tq 0 (fun k _ => f k (k - j)) P := by
  obtain ⟨r, hr, k0, h⟩ := h
  refine ⟨r, hr, max k0 (j + 1), fun k hk q hq => ?_⟩
  show f k (k - j) = Option.some r
  rw [show k - j = k - (j + 1) + 1 by omega]
  exact h k (by omega) q hq

def Few (n : Nat) (cs : List (List Int)) : Prop := cs.length ≤ n ∧ ∀ x ∈ cs, x.length ≤ 3
theorem Few.add {n : Nat} {cs : List (List Int)} {l : List Int} (h : Few n cs) (hl : l.length ≤ 3) : Few (n + 1) (cs ++ [l]) := by
  refine ⟨by rw [List.length_append, List.length_singleton]; have := h.1; omega, fun x hx => ?_⟩
  rcases List.mem_append.1 hx with hx | hx
  · exact h.2 x hx
  · rw [List.mem_singleton.1 hx]; exact hl
theorem Few.le {n m : Nat} {cs : List (List Int)} (h : Few n cs) (hm : n ≤ m) : Few m cs := ⟨by have := h.1; omega, h.2⟩
theorem Few.small {n : Nat} {c : Cnf} (h : Few n c.2.1) (hn : n ≤ 1048576) : Small c := ⟨by have := h.1; omega, fun x hx => by have := h.2 x hx; omega⟩
theorem apW2 {n : Nat} (h : n ≤ 1000000) : decide ((n + 1) * ti2.bytes ≤ (140737488355328 : Nat)) = true := decide_eq_true (by show (n + 1) * 8 ≤ _; omega)
theorem apW41 {n : Nat} (h : n ≤ 1000000) : decide ((n + 1) * ti41.bytes ≤ (140737488355328 : Nat)) = true := decide_eq_true (by show (n + 1) * 24 ≤ _; omega)

abbrev DrawR := (Cnf × Unit) × (Dice × Unit)
def DrawP (n : Nat) (r : DrawR) : Prop := dOk r.2.1 ∧ Few n r.1.1.2.1

theorem draw_k3 {P : DrawR → Prop} (v1 : List Int) (h0 : 0 < v1.length) (h1 : v1.length ≤ 100) (v2 : Int) (cs : List (List Int)) (hcs : cs.length ≤ 100) (rr : Nat → Int → List (List Int) → List Int → Int → Int → Option DrawR)
    (h : ∀ (l : List Int) (d : Dice), l.length ≤ 3 → dOk d → Tq 0 (fun k _ => rr k (IntKind.i64.wrap (v2 - 1)) (cs ++ [l]) d.1 d.2.1 d.2.2.1) P) :
    ∀ (n : Nat) (v : Int) (l : List Int) (d : Dice), v = (n : Int) → l.length + n ≤ 3 → dOk d → Tq (n + 1) (fun k q => spec_l14Draw.L3 (cl k) k v1 v2 cs (rr k) q v l d.1 d.2.1 d.2.2.1) P := by
  intro n
  induction n with
  | zero =>
    intro v l d hv hl hd
    exact .succ (.bf (decide_eq_false (by omega)) (.bt (apW41 (by omega)) (h l d (by omega) hd).lift))
  | succ n ih =>
    intro v l d hv hl hd
    have hw : IntKind.i64.wrap (v - 1) = (n : Int) := by rw [w64 (by omega) (by omega)]; omega
    refine .succ (.bt (decide_eq_true (by omega)) (.bind (below_gv d (v1.length : Int) hd).tq fun y ⟨hy, hb, _⟩ => ?_))
    have hb := hb (by omega)
    have hi : y.1.1.toNat < v1.length := by omega
    refine .bt (by rw [decide_eq_true hb.1, decide_eq_true hi]; rfl) (.some (lgn hi) (.bind (l2In_ans l _ (by rw [maxLen_eq]; omega)).tq fun x hx => ?_))
    refine .bif (fun _ => .bind (l2In_ans l _ (by rw [maxLen_eq]; omega)).tq fun x hx => .bif (fun _ => .bind (once_gv y.2.1 2 hy).tq fun o ho => .bif (fun _ => ?_) fun _ => ?_) fun _ => ?_) fun _ => ?_
    · exact .bt (apW2 (by omega)) (ih _ _ o.2.1 hw (by rw [List.length_append, List.length_singleton]; omega) ho)
    · exact .bt (apW2 (by omega)) (ih _ _ o.2.1 hw (by rw [List.length_append, List.length_singleton]; omega) ho)
    · exact ih _ l y.2.1 hw (by omega) hy
    · exact ih _ l y.2.1 hw (by omega) hy

theorem draw_k2 (V : Int) (v1 : List Int) (h0 : 0 < V → 0 < v1.length) (h1 : v1.length ≤ 100) :
    ∀ (n j : Nat) (v : Int) (cs : List (List Int)) (d : Dice), v = (n : Int) → n ≤ 8 → Few (8 - n) cs → dOk d → Tq 0 (fun k _ => spec_l14Draw.L2 (cl k) k V v1 (k - j) v cs d.1 d.2.1 d.2.2.1) (DrawP 8) := by
  intro n
  induction n with
  | zero =>
    intro j v cs d hv hn hcs hd
    exact Tq.dn (f := fun k p => spec_l14Draw.L2 (cl k) k V v1 p v cs d.1 d.2.1 d.2.2.1) (.bf (decide_eq_false (by omega)) (.ret ⟨hd, hcs⟩))
  | succ n ih =>
    intro j v cs d hv hn hcs hd
    have hw : IntKind.i64.wrap (v - 1) = (n : Int) := by rw [w64 (by omega) (by omega)]; omega
    refine Tq.dn (f := fun k p => spec_l14Draw.L2 (cl k) k V v1 p v cs d.1 d.2.1 d.2.2.1) (.bt (decide_eq_true (by omega)) (.bif (fun hV => .bind (below_gv d 3 hd).tq fun y ⟨hy, hb, _⟩ => ?_) fun _ => .ret ⟨hd, hcs.le (by omega)⟩))
    have hb := hb (by omega)
    obtain ⟨m, hm⟩ : ∃ m : Nat, IntKind.i64.wrap (1 + y.1.1) = (m : Int) ∧ m ≤ 3 := ⟨(1 + y.1.1).toNat, by rw [w64 (by omega) (by omega)]; omega, by omega⟩
    have := (draw_k3 (P := DrawP 8) v1 (h0 (of_decide_eq_true hV)) h1 v cs (by have := hcs.1; omega) (fun k => spec_l14Draw.L2 (cl k) k V v1 (k - (j + 1))) (fun l d' hl hd' => by
      exact ih (j + 1) _ (cs ++ [l]) d' hw (by omega) ((hcs.add hl).le (by omega)) hd') m _ [] y.2.1 hm.1 (by simp; omega) hy).diag (e := 0)
    exact this

theorem draw_k1 (V : Int) : ∀ (n : Nat) (v : Int) (pool : List Int) (d : Dice), v = (n : Int) → pool.length + n ≤ 50 → 0 < n ∨ 0 < pool.length → dOk d → Tq (n + 1) (fun k q => spec_l14Draw.L1 (cl k) k [] V q v pool d.1 d.2.1 d.2.2.1) (DrawP 8) := by
  have fin : ∀ (pool : List Int) (d : Dice) (e : Nat), pool.length ≤ 50 → (0 < V → 0 < pool.length) → dOk d → Tq e (fun k _ => (cl k 144 s_spec_l1Below (d, 9, ())).bind fun (y : (Int × Unit) × (Dice × Unit)) => spec_l14Draw.L2 (cl k) k V pool k y.1.1 [] y.2.1.1 y.2.1.2.1 y.2.1.2.2.1) (DrawP 8) := by
    intro pool d e hp h0 hd
    refine .bind (below_gv d 9 hd).tq fun y ⟨hy, hb, _⟩ => ?_
    have hb := hb (by omega)
    obtain ⟨m, hm⟩ := Int.eq_ofNat_of_zero_le hb.1
    exact (draw_k2 V pool h0 (by omega) m 0 _ [] y.2.1 hm (by omega) ⟨Nat.zero_le _, fun x hx => by cases hx⟩ hy).lift (e := e)
  intro n
  induction n with
  | zero =>
    intro v pool d hv hl h0 hd
    exact .succ (.bf (decide_eq_false (by omega)) (fin pool d _ (by omega) (fun _ => by omega) hd))
  | succ n ih =>
    intro v pool d hv hl h0 hd
    have hw : IntKind.i64.wrap (v - 1) = (n : Int) := by rw [w64 (by omega) (by omega)]; omega
    refine .succ (.bt (decide_eq_true (by omega)) (.bif (fun hV => .bind (below_gv d V hd).tq fun y ⟨hy, _, _⟩ => .bind (l2With_ans pool _ (by omega)).tq fun x hx => ?_) fun hV => fin pool d _ (by omega) (fun h => by rw [decide_eq_false_iff_not] at hV; exact (hV h).elim) hd))
    subst hx
    exact ih _ (withL pool (IntKind.i64.wrap (1 + y.1.1))) y.2.1 hw (by have := withL_len pool (IntKind.i64.wrap (1 + y.1.1)); omega) (.inr (List.length_pos_of_mem (withL_mem.2 (.inl rfl)))) hy

theorem draw14_gv (c : Dice) (hc : dOk c) : Gv 160 s_spec_l14Draw (c, ()) (DrawP 8) := by
  have h0 : ∀ (V : Int) (d : Dice), dOk d → Tq 0 (fun k _ => spec_l14Draw.L0 (cl k) k k [] V [] 0 d.1 d.2.1 d.2.2.1) (DrawP 8) := by
    intro V d hd
    refine Tq.diag (d := 1) (f := fun k q => spec_l14Draw.L0 (cl k) k q [] V [] 0 d.1 d.2.1 d.2.2.1) (.succ (.bind (below_gv d 6 hd).tq fun y ⟨hy, hb, _⟩ => ?_))
    have hb := hb (by omega)
    obtain ⟨m, hm⟩ : ∃ m : Nat, IntKind.i64.wrap (1 + y.1.1) = (m : Int) ∧ 1 ≤ m ∧ m ≤ 6 := ⟨(1 + y.1.1).toNat, by rw [w64 (by omega) (by omega)]; omega, by omega, by omega⟩
    exact (draw_k1 V m _ [] y.2.1 hm.1 (by simp; omega) (.inl (by omega)) hy).diag (e := 0)
  refine .of (fun k => spec_l14Draw.F_eq (cl k) k c) (.bind (below_gv c 8 hc).tq fun y ⟨hy, _, _⟩ => .bind (once_gv y.2.1 4 hy).tq fun o ho => .bif (fun _ => .bind (below_gv o.2.1 51 ho).tq fun z ⟨hz, _, _⟩ => ?_) fun _ => ?_)
  · exact h0 _ z.2.1 hz
  · exact h0 _ o.2.1 ho

theorem any_k0 (y0 : DrawR) : ∀ (n : Nat) (cs : List (List Int)) (d : Dice), cs.length + n = 61 → Few 61 cs → dOk d →
    Tq (n + 1) (fun k q => spec_l14DrawAny.L0 (cl k) k y0 q cs d.1 d.2.1 d.2.2.1) (DrawP 61) := by
  intro n
  induction n with
  | zero =>
    intro cs d hl hf hd
    refine .succ (.bind (below_gv d 2 hd).tq fun y ⟨hy, hb, _⟩ => ?_)
    have hb := hb (by omega)
    refine .bf (decide_eq_false ?_) (.ret ⟨hy, hf⟩)
    rw [w64 (by omega) (by omega)]; omega
  | succ n ih =>
    intro cs d hl hf hd
    refine .succ (.bind (below_gv d 2 hd).tq fun y ⟨hy, hb, _⟩ => .bif (fun _ => .bt (apW41 (by omega)) ?_) fun _ => .ret ⟨hy, hf⟩)
    exact ih (cs ++ [[]]) y.2.1 (by rw [List.length_append, List.length_singleton]; omega) ⟨by rw [List.length_append, List.length_singleton]; omega, (hf.add (by simp)).2⟩ hy
theorem any_k1 : ∀ (n : Nat) (v : Int) (cs : List (List Int)) (d : Dice), v + n = 14 → Few (13 - n) cs → n ≤ 13 → dOk d →
    Tq (n + 1) (fun k q => spec_l14DrawAny.L1 (cl k) k q v cs d.1 d.2.1 d.2.2.1) (DrawP 61) := by
  intro n
  induction n with
  | zero =>
    intro v cs d hv hf hn hd
    refine .succ (.bind (below_gv d 2 hd).tq fun y ⟨hy, hb, _⟩ => ?_)
    have hb := hb (by omega)
    refine .bf (decide_eq_false ?_) (.ret ⟨hy, hf.le (by omega)⟩)
    rw [w64 (by omega) (by omega)]; omega
  | succ n ih =>
    intro v cs d hv hf hn hd
    have hw : IntKind.i64.wrap (v + 1) = v + 1 := w64 (by omega) (by omega)
    refine .succ (.bind (below_gv d 2 hd).tq fun y ⟨hy, hb, _⟩ => .bif (fun _ => .bind (below_gv y.2.1 2 hy).tq fun z ⟨hz, hb, _⟩ => ?_) fun _ => .ret ⟨hy, hf.le (by omega)⟩)
    have hb := hb (by omega)
    have hz1 : IntKind.i64.wrap (1 + z.1.1) = 1 + z.1.1 := w64 (by omega) (by omega)
    refine .bt (decide_eq_true (by rw [hz1]; omega)) (.bt (by rw [hz1, decide_eq_true (Nat.zero_le _), Bool.true_and]; exact decide_eq_true (show (1 + z.1.1).toNat ≤ 2 by omega)) (.bt (apW41 (by have := hf.1; omega)) ?_))
    exact ih _ _ z.2.1 (by rw [hw]; omega) ((hf.add (Nat.le_trans (List.length_take_le' _ _) (by simp))).le (by omega)) (by omega) hz
theorem any14_gv (c : Dice) (hc : dOk c) : Gv 139 s_spec_l14DrawAny (c, ()) (DrawP 61) := by
  refine .of (fun k => spec_l14DrawAny.F_eq (cl k) k c) (.bind (draw14_gv c hc).tq fun a ⟨ha, fa⟩ => .bind (once_gv a.2.1 8 ha).tq fun o ho => .bif (fun _ => .bind (below_gv o.2.1 5 ho).tq fun y ⟨hy, _, _⟩ => ?_) fun _ => .ret ⟨ho, fa.le (by omega)⟩)
  refine .bif (fun _ => .bind (num_gv y.2.1 300 hy).tq fun z hz => .ret ⟨hz, fa.le (by omega)⟩) fun _ => ?_
  refine .bif (fun _ => .bt (apW41 (by have := fa.1; omega)) (.ret ⟨hy, (fa.add (by simp)).le (by omega)⟩)) fun _ => ?_
  refine .bif (fun _ => .bind (from_gv y.2.1 _ _ hy).tq fun p hp => .bind (from_gv p.2.1 _ _ hp).tq fun q hq => .bind (odd_gv q.2.1 hq).tq fun r hr => .bind (below_gv r.2.1 3 hr).tq fun z ⟨hz, hb, _⟩ => ?_) fun _ => ?_
  · have hb := hb (by omega)
    have hz1 : IntKind.i64.wrap (1 + z.1.1) = 1 + z.1.1 := w64 (by omega) (by omega)
    refine .bt (decide_eq_true (by rw [hz1]; omega)) (.bt (by rw [hz1, decide_eq_true (Nat.zero_le _), Bool.true_and]; exact decide_eq_true (show (1 + z.1.1).toNat ≤ 3 by omega)) (.bt (apW41 (by have := fa.1; omega)) (.ret ⟨hz, ?_⟩)))
    exact (fa.add (Nat.le_trans (List.length_take_le' _ _) (by simp))).le (by omega)
  refine .bif (fun _ => ?_) fun _ => .bif (fun _ => ?_) fun _ => .ret ⟨hy, fa.le (by omega)⟩
  · exact (any_k0 a (61 - a.1.1.2.1.length) _ y.2.1 (by have := fa.1; omega) (fa.le (by omega)) hy).diag
  · exact (any_k1 13 1 [] y.2.1 (by omega) ⟨Nat.zero_le _, fun x hx => by cases hx⟩ (by omega) hy).diag
theorem drawCount_gv (code : List Int) (h1 : code.length ≤ maxLen) (h2 : ∀ y ∈ code, 0 ≤ y ∧ y ≤ 255) : Gv 83 s_spec_DrawCountCnf (code, ()) fun (r : (Cnf × Unit) × Unit) => Few 61 r.1.1.2.1 :=
  .of (fun k => spec_DrawCountCnf.F_eq (cl k) k code) (.bind (new_gv code h1 h2).tq fun c hc => .bind (any14_gv c.1.1 hc).tq fun _ h => .ret h.2)
end Go.Proofs.Ytcmgjdmhemfecaa.Pf
