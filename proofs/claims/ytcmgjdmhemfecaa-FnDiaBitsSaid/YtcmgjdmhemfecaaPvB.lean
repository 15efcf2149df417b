/- Operations that change or make objects. No condition. -/
import Derived.Test.YtcmgjdmhemfecaaPvA
import Derived.Laws.StructEq
import Derived.Laws.CopyRow
import Derived.Laws.MakeOwn
import Derived.Great.BuildSlice
set_option linter.unusedVariables false
/- '==' of structs of whole numbers and bools, of strings: what it computes is what the reading says. No condition. -/
namespace Go.Pv
open Go
variable {own own' : Own} {w w' : World} {G G' : Gs} {ρ : Type} {E : Env}

theorem eqf_cons {P : Program} {d : Nat} {xs ys : Array Value} {f : Field} {fs : List Field} {a b : Value} {r s : Bool} (hn : (f.name == "_") = false) (ha : (part f.type xs f.offset).run P w = .ok a w) (hb : (part f.type ys f.offset).run P w = .ok b w) (he : (Op.equalIn d f.type a b).run P w = .ok r w)
    (hr : (Op.eqFields d xs ys fs).run P w = .ok s w) : (Op.eqFields d xs ys (f :: fs)).run P w = .ok (r && s) w := by
  have hn' : f.name ≠ "_" := by simpa using hn
  rw [Op.eqFields]
  simp only [if_pos hn', Sem.run_bind, ha, hb, he, Result.andThen_ok]
  cases r
  · simp
  · simpa using hr

theorem eqFs_some {f : Nat → Ty → Bool} {P : Program} {d : Nat} (hf : ∀ T t, f T t = true → ∀ {x y : t.den} {cx cy : List Value} {p q : Pos} {vx vy : Value}, Rep own w t x p cx → Rep own w t y q cy → IsVal t.agg cx vx → IsVal t.agg cy vy →
      (Op.equalIn d T vx vy).run P w = .ok (eqV t x y) w) (hp : ∀ T t, f T t = true → ∃ j, TIok P j T ∧ j.size = t.size ∧ j.agg = t.agg) :
    ∀ (t : Ty) {fl : List Field} {x y : t.den} {cx cy c0 d0 : List Value} {p q : Pos}, (∀ g ∈ fl, (g.name == "_") = false) → eqFs f c0.length (fl.map fun g => (g.offset, g.type)) t = true → c0.length = d0.length → Rep own w t x p cx → Rep own w t y q cy →
      (Op.eqFields d (c0 ++ cx).toArray (d0 ++ cy).toArray fl).run P w = .ok (eqV t x y) w
  | .unit, [], x, y, cx, cy, c0, d0, p, q, hn, h, hl, hx, hy => by simp [Op.eqFields, eqV]
  | .pair a b, g :: fl, x, y, cx, cy, c0, d0, p, q, hn, h, hl, hx, hy => by
    simp only [List.map_cons, eqFs] at h
    cases h1 : Nat.beq c0.length g.offset
    · rw [h1] at h; cases h
    rw [h1] at h
    have h1 := beq_nat h1
    cases h2 : f g.type a
    · rw [h2] at h; cases h
    rw [h2] at h
    obtain ⟨c1, c2, rfl, hx1, hx2⟩ := hx
    obtain ⟨d1, d2, rfl, hy1, hy2⟩ := hy
    obtain ⟨j, hj, hjs, hja⟩ := hp _ _ h2
    obtain ⟨vx, hvx, hix⟩ := run_part hj (c1 := c0) (c2 := c1) (c3 := c2) (hx1.length.trans hjs.symm) w
    obtain ⟨vy, hvy, hiy⟩ := run_part hj (c1 := d0) (c2 := d1) (c3 := d2) (hy1.length.trans hjs.symm) w
    rw [h1] at hvx
    rw [← hl, h1] at hvy
    rw [hja] at hix hiy
    have he := hf _ _ h2 hx1 hy1 hix hiy
    have hr := eqFs_some hf hp b (fl := fl) (c0 := c0 ++ c1) (d0 := d0 ++ d1) (fun g hg => hn g (List.mem_cons_of_mem _ hg)) (by
      rw [List.length_append, hx1.length]; exact h) (by rw [List.length_append, List.length_append, hx1.length, hy1.length, hl]) hx2 hy2
    rw [List.append_assoc, List.append_assoc] at hr
    have := eqf_cons (hn g List.mem_cons_self) hvx hvy he hr
    rw [this]
    cases b <;> simp [eqV]
  | .pair _ _, [], _, _, _, _, _, _, _, _, _, h, _, _, _ => by cases h
  | .unit, _ :: _, _, _, _, _, _, _, _, _, _, h, _, _, _ => by cases h
  | .int _, fl, _, _, _, _, _, _, _, _, _, h, _, _, _ => by cases fl <;> cases h
  | .bool, fl, _, _, _, _, _, _, _, _, _, h, _, _, _ => by cases fl <;> cases h
  | .str, fl, _, _, _, _, _, _, _, _, _, h, _, _, _ => by cases fl <;> cases h
  | .slc _, fl, _, _, _, _, _, _, _, _, _, h, _, _, _ => by cases fl <;> cases h
  | .sptr _, fl, _, _, _, _, _, _, _, _, _, h, _, _, _ => by cases fl <;> cases h
  | .own _ _, fl, _, _, _, _, _, _, _, _, _, h, _, _, _ => by cases fl <;> cases h
  | .bx _, fl, _, _, _, _, _, _, _, _, _, h, _, _, _ => by cases fl <;> cases h
  | .hole _, fl, _, _, _, _, _, _, _, _, _, h, _, _, _ => by cases fl <;> cases h
  | .arr _ _, fl, _, _, _, _, _, _, _, _, _, h, _, _, _ => by cases fl <;> cases h
  | .mp _ _ _, fl, _, _, _, _, _, _, _, _, _, h, _, _, _ => by cases fl <;> cases h
  | .nmap, fl, _, _, _, _, _, _, _, _, _, h, _, _, _ => by cases fl <;> cases h
  | .hdr, fl, _, _, _, _, _, _, _, _, _, h, _, _, _ => by cases fl <;> cases h
  | .clo _ _, fl, _, _, _, _, _, _, _, _, _, h, _, _, _ => by cases fl <;> cases h

/-- The types that '==' looks into are known. -/
theorem eqT_ti {k T : Nat} {t : Ty} (h : eqT E k T t = true) : ∃ k' i, k = k' + 1 ∧ E.ti T = some i ∧ i.eq = true ∧ i.size = t.size ∧ i.agg = t.agg ∧ eqM (eqT E k') i.d t = true := by
  cases k with
  | zero => cases h
  | succ k =>
    unfold eqT at h
    cases hi : E.ti T with
    | none => rw [hi] at h; cases h
    | some i =>
      rw [hi] at h
      dsimp only at h
      cases he : i.eq
      · rw [he] at h; cases h
      rw [he] at h
      cases hs : Nat.beq i.size t.size
      · rw [hs] at h; cases h
      rw [hs] at h
      cases ha : (i.agg == t.agg)
      · rw [ha] at h; cases h
      rw [ha] at h
      exact ⟨k, i, rfl, rfl, he, beq_nat hs, eq_of_beq ha, h⟩
theorem eqT_guard (hE : EnvOk E) {k T : Nat} {t : Ty} (h : eqT E k T t = true) : E.P.eqGuardType E.P.depth T = false := by
  obtain ⟨_, i, _, hi, he, _⟩ := eqT_ti h
  exact ((hE.ti T i hi).eqs he).1

theorem eqIn_some (hE : EnvOk E) (d : Nat) : ∀ {k T : Nat} {t : Ty} {x y : t.den} {cx cy : List Value} {p q : Pos} {vx vy : Value}, eqT E k T t = true → Rep own w t x p cx → Rep own w t y q cy → IsVal t.agg cx vx → IsVal t.agg cy vy →
    (Op.equalIn (d + k) T vx vy).run E.P w = .ok (eqV t x y) w
  | 0, T, t, x, y, cx, cy, p, q, vx, vy, h, hx, hy, hvx, hvy => by cases h
  | k + 1, T, t, x, y, cx, cy, p, q, vx, vy, h, hx, hy, hvx, hvy => by
    obtain ⟨k', i, hk, hi, he, hz1, hz2, hm⟩ := eqT_ti h
    clear hz1 hz2
    cases hk
    obtain ⟨dd, hd, htd, _⟩ := (hE.ti T i hi).und
    have hq := (hE.ti T i hi).eqs he
    unfold eqM at hm
    split at hm
    · rename_i k1 k2 hd1
      rw [hd1] at htd
      simp only [TDok] at htd
      subst htd
      simp only [Rep] at hx hy
      have hvx : cx = [vx] := hvx
      have hvy : cy = [vy] := hvy
      rw [hx.1] at hvx
      rw [hy.1] at hvy
      simp only [List.cons.injEq, and_true] at hvx hvy
      subst hvx hvy
      exact run_equalIn_int (P := E.P) w (d + k) T k2 k1 x y hd
    · rename_i hd1
      rw [hd1] at htd
      simp only [TDok] at htd
      subst htd
      simp only [Rep] at hx hy
      have hvx : cx = [vx] := hvx
      have hvy : cy = [vy] := hvy
      rw [hx] at hvx
      rw [hy] at hvy
      simp only [List.cons.injEq, and_true] at hvx hvy
      subst hvx hvy
      exact run_equalIn_bool' (P := E.P) w (d + k) T x y hd
    · rename_i hd1
      rw [hd1] at htd
      simp only [TDok] at htd
      subst htd
      simp only [Rep] at hx hy
      have hvx : cx = [vx] := hvx
      have hvy : cy = [vy] := hvy
      rw [hx.1] at hvx
      rw [hy.1] at hvy
      simp only [List.cons.injEq, and_true] at hvx hvy
      subst hvx hvy
      rw [← Nat.add_assoc, run_equalIn_string (P := E.P) w (d + k) T x y hd]
      simp only [eqV, beq_toListBytes]
    · rename_i fs a b hd1
      rw [hd1] at htd
      obtain ⟨fields, rfl, hfs⟩ := htd
      have hvx : vx = .agg cx.toArray := hvx
      have hvy : vy = .agg cy.toArray := hvy
      subst hvx hvy
      have hF : E.P.fieldsOf T = fields := by simp [Program.fieldsOf, hd]
      rw [← Nat.add_assoc, run_equalIn_struct (P := E.P) w (d + k) T _ _ (by rw [hF]; exact hd) hq.2.1, hF]
      have := eqFs_some (own := own) (w := w) (P := E.P) (d := d + k) (f := eqT E k) (fun T' t' h' => by
        intro x y cx cy p q vx vy h1 h2 h3 h4
        exact eqIn_some hE d h' h1 h2 h3 h4) (fun T' t' h' => ?_) (.pair a b) (fl := fields.toList) (c0 := []) (d0 := []) (x := x) (y := y) (fun g hg => hq.2.2 fields hd g hg) (by rw [hfs]; exact hm) rfl hx hy
      · simpa using this
      · obtain ⟨k2, j, hk2, hj, hje, hjs, hja, hjm⟩ := eqT_ti h'
        exact ⟨j, hE.ti T' j hj, hjs, hja⟩
    · cases hm

theorem binK_some (hE : EnvOk E) {op : BinOp} {T : Nat} {a b : AV} {va vb : Value} {K : AV → Option ρ} {r : ρ} (x y : Operand) (ha : AVv own w G a va) (hb : AVv own w G b vb) (h : binK E op T a b K = some r) :
    ∃ t z v, K (.v t z) = some r ∧ (do eqGuard op T x y va vb; binOp op T va vb : Sem Value).run E.P w = .ok v w ∧ AVv own w G (.v t z) v := by
  unfold binK at h
  split at h
  · obtain ⟨rfl, hx⟩ := ha.int
    obtain ⟨rfl, hy⟩ := hb.int
    obtain ⟨h0, h⟩ := bif_no h
    have h0 := of_decide_eq_false h0
    exact ⟨_, _, _, h, by simp [guard_int, binOp, Op.shift, h0, shlI], .mkInt (wf_wrap _ _)⟩
  · obtain ⟨rfl, hx⟩ := ha.int
    obtain ⟨rfl, hy⟩ := hb.int
    obtain ⟨h0, h⟩ := bif_no h
    have h0 := of_decide_eq_false h0
    exact ⟨_, _, _, h, by simp [guard_int, binOp, Op.shift, h0, shrI], .mkInt (wf_shr hx _)⟩
  · obtain ⟨rfl, hx⟩ := ha.int
    obtain ⟨rfl, hy⟩ := hb.int
    obtain ⟨hk, h⟩ := nif_yes h
    have hk := ikN_inj hk
    subst hk
    obtain ⟨t, z, v, h1, h2, h3⟩ := intK_some E.P w T hx ⟨by intro e; subst e; simp_all, by intro e; subst e; simp_all⟩ h
    exact ⟨t, z, v, h1, by simp [guard_int, h2], h3⟩
  · rename_i s1 s2
    obtain ⟨rfl, hx⟩ := ha.str
    obtain ⟨rfl, hy⟩ := hb.str
    obtain ⟨h0, h⟩ := bif_yes h
    have h0 := of_decide_eq_true h0
    have h1 : ¬ ((ByteArray.size s1 + ByteArray.size s2 : Nat) : Int) > IntKind.i64.max := fun hlt => by
      have : IntKind.i64.max = 9223372036854775807 := rfl
      rw [this] at hlt
      omega
    refine ⟨_, _, _, h, by simp only [Sem.run_bind, guard_str, Result.andThen_ok, binOp, Op.stringOp, if_neg h1, Sem.run_pure], .mkStr ?_⟩
    simp only [ByteArray.size_append, maxLen]; omega
  · obtain ⟨rfl, hx⟩ := ha.str
    obtain ⟨rfl, hy⟩ := hb.str
    exact ⟨_, _, _, h, by simp [guard_str, binOp, Op.stringOp], .mkBool⟩
  · obtain ⟨rfl, hx⟩ := ha.str
    obtain ⟨rfl, hy⟩ := hb.str
    exact ⟨_, _, _, h, by simp [guard_str, binOp, Op.stringOp], .mkBool⟩
  · obtain rfl := ha.bool
    obtain rfl := hb.bool
    obtain ⟨h0, h⟩ := nif_yes h
    exact ⟨_, _, _, h, by simp only [Sem.run_bind, guard_bool, Result.andThen_ok, run_eql_bool _ _ _ _ (isBool_und hE h0)], .mkBool⟩
  · obtain rfl := ha.bool
    obtain rfl := hb.bool
    obtain ⟨h0, h⟩ := nif_yes h
    exact ⟨_, _, _, h, by simp only [Sem.run_bind, guard_bool, Result.andThen_ok, run_neq_bool _ _ _ _ (isBool_und hE h0)], .mkBool⟩
  · rename_i a b x u y
    obtain ⟨h1, h⟩ := nif_yes h
    obtain ⟨h2, h⟩ := nif_yes h
    obtain ⟨rfl, h⟩ := castD_some h
    obtain ⟨cx, ⟨_, hx⟩, hvx⟩ := ha.cells rfl
    obtain ⟨cy, ⟨_, hy⟩, hvy⟩ := hb.cells rfl
    have h3 := eqIn_some hE 9992 h2 hx hy hvx hvy
    have hvx : va = .agg cx.toArray := hvx
    have hvy : vb = .agg cy.toArray := hvy
    subst hvx hvy
    refine ⟨_, _, _, h, ?_, .mkBool⟩
    simp only [Sem.run_bind, run_eqGuard_agg _ _ _ _ _ _ _ (eqT_guard hE h2), Result.andThen_ok, run_eql_struct, h3]
    rfl
  · rename_i a b x u y
    obtain ⟨h1, h⟩ := nif_yes h
    obtain ⟨h2, h⟩ := nif_yes h
    obtain ⟨rfl, h⟩ := castD_some h
    obtain ⟨cx, ⟨_, hx⟩, hvx⟩ := ha.cells rfl
    obtain ⟨cy, ⟨_, hy⟩, hvy⟩ := hb.cells rfl
    have h3 := eqIn_some hE 9992 h2 hx hy hvx hvy
    have hvx : va = .agg cx.toArray := hvx
    have hvy : vb = .agg cy.toArray := hvy
    subst hvx hvy
    refine ⟨_, _, _, h, ?_, .mkBool⟩
    simp only [Sem.run_bind, run_eqGuard_agg _ _ _ _ _ _ _ (eqT_guard hE h2), Result.andThen_ok, run_neq_struct, h3]
    rfl
  · cases h

end Go.Pv

/- Stores: what is written, and that the rest stays. No condition. -/
namespace Go.Pv
open Go
variable {own own' : Own} {w w' : World} {G G' : Gs} {ρ : Type} {E : Env}

theorem run_storeVar {P : Program} {T : TypeId} {i : TI} (hi : TIok P i T) {g o : Nat} {cur : Array Value} {tid : TypeId} {cs : List Value} {v : Value} (hg : w.heap[g]? = some (.cells cur tid (0, 0))) (hv : IsVal i.agg cs v)
    (h1 : ∀ u ∈ cs, u.oneCell' = true) (hl : cs.length = i.size) (hfit : o + cs.length ≤ cur.size) :
    (storeVar T ⟨g, o, none⟩ v).run P w = .ok () (w.setRow g (cur.toList.take o ++ cs ++ cur.toList.drop (o + cs.length)).toArray) := by
  have hc := hv.cells h1
  have hst := run_storeCells_at P g o tid cs 0 cur w hg (by simpa using hfit) h1
  unfold storeVar
  simp only [Sem.run_bind, run_size hi, Result.andThen_ok, hc, List.size_toArray, hl, ne_eq, not_true_eq_false, if_false]
  simpa [hl] using hst

/-- Other objects, where one block of an object was written. -/
theorem ObR.touch {g : Nat} {o o' : Id} {s : List Nat} {b : Ob} {P : Id → Prop} (h : ObR own w G o' b) (hg : own g = .ob o s) (hw : ∀ k, k ≠ g → w'.heap[k]? = w.heap[k]?) (hne : o' ≠ o)
    (hm : ∀ a, b = .box a → a.men P) : ObR own w' G o' b := by
  have hs : Sealed own w own w' := fun k hk => ⟨hk, hw k fun e => by rw [e, hg] at hk; cases hk⟩
  have hlab : ∀ k r, own k = .ob o' r → k ≠ g := fun k r hk e => by
    rw [e, hg] at hk
    cases hk
    exact hne rfl
  cases b with
  | box a =>
    obtain ⟨hn, k, cur, T, h1, h2, h3, h4⟩ := h
    exact ⟨hn, k, cur, T, h1, h2, (hw k (hlab k _ h2)).trans h3, AVc.keepOk hs (fun _ _ => rfl) hn.2 (hm a rfl) h4⟩
  | list tid e xs =>
    obtain ⟨h1, h2, h3⟩ := h
    exact ⟨h1, h2, Rep.move hs (Mv.ob fun k r hk => ⟨by simpa using hk, hw k (hlab k r hk)⟩) h3⟩
  | map tid k v es =>
    obtain ⟨h1, h2⟩ := h
    exact ⟨h1, Rep.move hs (Mv.obMap fun k r hk => ⟨by simpa using hk, hw k (hlab k r hk)⟩) h2⟩

/-- The block of a list that is there belongs to it. -/
theorem own_list {O : Obs} {o : Id} (hO : Objs own w G O) (ho : has O o = true) (hn : (G o).nest = true) {A : Addr} {m c : Nat} (hv : (G o).v = .slice (some A) m c) : own A.block = .ob o [] := by
  obtain ⟨b, hb⟩ := has_look.1 ho
  have h := hO o b hb
  cases b with
  | box a => rw [h.1.1] at hn; cases hn
  | map tid k v es => rw [h.1] at hn; cases hn
  | list tid e xs =>
    obtain ⟨_, _, hr⟩ := h
    rw [hv] at hr
    simp only [Rep, List.cons.injEq, and_true, Value.slice.injEq, Option.some.injEq, reduceCtorEq, false_and, false_or] at hr
    obtain ⟨g, cap, cur, ⟨rfl, _, _⟩, ho, _⟩ := hr
    exact ho

theorem sameAt_touch {O : Obs} {g : Nat} {o i : Id} {s : List Nat} (hO : Objs own w G O) (hg : own g = .ob o s) (hw : ∀ k, k ≠ g → w'.heap[k]? = w.heap[k]?) (hi : has O i = true) (hne : i ≠ o) (hn : (G i).nest = true) : SameAt w w' (G i).v := by
  intro A m c hv
  refine hw _ fun e => ?_
  have := own_list hO hi hn hv
  rw [e, hg] at this
  cases this
  exact hne rfl

theorem setRow_size (w : World) (g : Nat) (cs : Array Value) : (w.setRow g cs).heap.size = w.heap.size := by simp [World.setRow]

/-- An object is written in its own block. -/
theorem Post.putW {O : Obs} {o : Id} {b b' : Ob} {g : Nat} {s : List Nat} {w' : World} (hO : Objs own w G O)
    (hbd : ∀ g, w.heap.size ≤ g → own g = .out) (hl : look O o = some b) (hg : own g = .ob o s) (hw : ∀ k, k ≠ g → w'.heap[k]? = w.heap[k]?) (hsz : w'.heap.size = w.heap.size) (hos : w'.os = w.os) (htp : w'.tape = w.tape) (hout : w'.output = w.output) (hn : (G o).nest = false)
    (hb : (∀ i, has O i = true → i ≠ o → (G i).nest = true → SameAt w w' (G i).v) → ObR own w' G o b') (hm : ∀ P : Id → Prop, (∀ c, b = .box c → c.men P) → (∀ i, has O i = true → P i) → ∀ a, b' = .box a → a.men P) :
    Post own own w w' G G O (putA O o b') false := by
  have hsame : ∀ i, has O i = true → (G i).nest = true → SameAt w w' (G i).v := by
    intro i hi hin
    have hne : i ≠ o := by rintro rfl; rw [hn] at hin; cases hin
    exact sameAt_touch hO hg hw hi hne hin
  have hho := look_has hl
  refine ⟨?_, ?_, fun _ _ _ => rfl, fun _ => hsame, ?_, ?_, ?_, ?_, by rw [hsz]; exact Nat.le_refl _, hos, htp, hout⟩
  · intro o' c hc
    rw [look_put _ _ _ _ hho] at hc
    by_cases ho : o' = o
    · subst ho
      rw [if_pos rfl] at hc
      cases hc
      exact hb fun i hi _ hin => hsame i hi hin
    · rw [if_neg ho] at hc
      exact (hO o' c hc).touch (P := fun _ => True) hg hw ho (fun a _ => vwK_some.AV.men.all a)
  · intro _ o' ho'
    exact (has_put _ _ _ _ hho).2 ho'
  · intro P hbox o' c hc
    rw [look_put _ _ _ _ hho] at hc
    split at hc
    · cases hc
      exact hm _ (fun c e => (hbox o c (e ▸ hl)).mono fun i hi => .inl hi) (fun i hi => .inr ((has_put _ _ _ _ hho).2 hi)) c rfl
    · exact (hbox o' c hc).mono fun i hi => .inl hi
  · intro k hk
    exact ⟨hk, hw k fun e => by rw [e, hg] at hk; cases hk⟩
  · intro k _ hk
    exact ⟨hk, hw k fun e => by rw [e, hg] at hk; cases hk⟩
  · intro k hk
    rw [hsz] at hk
    exact hbd k hk
theorem Post.put {O : Obs} {o : Id} {b b' : Ob} {g : Nat} {s : List Nat} {new : Array Value} (hO : Objs own w G O)
    (hbd : ∀ g, w.heap.size ≤ g → own g = .out) (hl : look O o = some b) (hg : own g = .ob o s) (hn : (G o).nest = false)
    (hb : (∀ i, has O i = true → i ≠ o → (G i).nest = true → SameAt w (w.setRow g new) (G i).v) → ObR own (w.setRow g new) G o b') (hm : ∀ P : Id → Prop, (∀ c, b = .box c → c.men P) → (∀ i, has O i = true → P i) → ∀ a, b' = .box a → a.men P) :
    Post own own w (w.setRow g new) G G O (putA O o b') false :=
  Post.putW hO hbd hl hg (fun k hk => setRow_other w g k new hk) (setRow_size _ _ _) rfl rfl rfl hn hb hm

theorem seg_take {α : Type} (c1 c2 c3 : List α) : (c1 ++ (c2 ++ c3)).take c1.length = c1 := by simp
theorem seg_drop {α : Type} (c1 c2 c3 : List α) : (c1 ++ (c2 ++ c3)).drop (c1.length + c2.length) = c3 := by
  rw [← List.append_assoc, ← List.length_append]; simp

theorem setF_agg : ∀ {p : List Bool} {a c : AV} {K : AV → Option ρ} {r : ρ}, setF a p c K = some r → ∃ b, K b = some r ∧ (p ≠ [] → b.agg = true) ∧ setF a p c some = some b
  | [], a, c, K, r, h => by
    unfold setF at h
    have h' : nif c.ok (nif (Nat.beq a.size c.size) (K c) none) none = some r := by cases a <;> exact h
    obtain ⟨h1, h'⟩ := nif_yes h'
    obtain ⟨h2, h'⟩ := nif_yes h'
    refine ⟨c, h', fun e => (e rfl).elim, ?_⟩
    unfold setF
    have : nif c.ok (nif (Nat.beq a.size c.size) (some c) none) none = some c := by rw [h1, h2]; rfl
    cases a <;> exact this
  | f :: p, .pr a b, c, K, r, h => by
    cases f <;> simp only [setF] at h ⊢
    · obtain ⟨b', h, _, h'⟩ := setF_agg h
      rw [mkPr_eq] at h
      exact ⟨_, h, fun _ => mkA_agg _ _, by rw [setF_eq, h']; simp [mkPr_eq]⟩
    · obtain ⟨b', h, _, h'⟩ := setF_agg h
      rw [mkPr_eq] at h
      exact ⟨_, h, fun _ => mkA_agg _ _, by rw [setF_eq, h']; simp [mkPr_eq]⟩
  | f :: p, .v t x, c, K, r, h => by
    cases t
    case pair a b =>
      cases f <;> simp only [setF] at h ⊢
      · obtain ⟨b', h, _, h'⟩ := setF_agg h
        rw [mkPr_eq] at h
        exact ⟨_, h, fun _ => mkA_agg _ _, by rw [setF_eq, h']; simp [mkPr_eq]⟩
      · obtain ⟨b', h, _, h'⟩ := setF_agg h
        rw [mkPr_eq] at h
        exact ⟨_, h, fun _ => mkA_agg _ _, by rw [setF_eq, h']; simp [mkPr_eq]⟩
    all_goals (simp only [setF] at h; cases h)
  | f :: p, .dead, c, K, r, h => by simp only [setF] at h; cases h
  | f :: p, .tn, c, K, r, h => by simp only [setF] at h; cases h
  | f :: p, .tp _ _, c, K, r, h => by simp only [setF] at h; cases h
  | f :: p, .hole _, c, K, r, h => by simp only [setF] at h; cases h
  | f :: p, .ref _, c, K, r, h => by simp only [setF] at h; cases h
  | f :: p, .hs _ _ _, c, K, r, h => by simp only [setF] at h; cases h
  | f :: p, .p _ _ _, c, K, r, h => by simp only [setF] at h; cases h
  | f :: p, .e _ _ _ _, c, K, r, h => by simp only [setF] at h; cases h
  | f :: p, .s _ _, c, K, r, h => by simp only [setF] at h; cases h
  | f :: p, .ap _ _, c, K, r, h => by simp only [setF] at h; cases h
  | f :: p, .cl _ _, c, K, r, h => by simp only [setF] at h; cases h
where
  setF_eq {p : List Bool} {a c : AV} {σ : Type} {K : AV → Option σ} : setF a p c K = (setF a p c some).bind K := by
    induction p generalizing a σ with
    | nil =>
      have h1 : ∀ {τ : Type} (K : AV → Option τ), setF a [] c K = nif c.ok (nif (Nat.beq a.size c.size) (K c) none) none := by
        intro τ K; unfold setF; cases a <;> rfl
      rw [h1, h1]
      cases c.ok <;> cases Nat.beq a.size c.size <;> rfl
    | cons f p ih =>
      have hn : ∀ {τ : Type}, (none : Option τ) = (none : Option AV).bind fun _ => none := rfl
      cases a with
      | pr a b =>
        cases f <;> simp only [setF]
        · rw [ih, ih (K := fun a' => mkPr a' b some)]; cases setF a p c some <;> simp [mkPr_eq]
        · rw [ih, ih (K := fun b' => mkPr a b' some)]; cases setF b p c some <;> simp [mkPr_eq]
      | v t x =>
        cases t with
        | pair a b =>
          cases f <;> simp only [setF]
          · rw [ih, ih (K := fun a' => mkPr a' (.v b x.2) some)]; cases setF (.v a x.1) p c some <;> simp [mkPr_eq]
          · rw [ih, ih (K := fun b' => mkPr (.v a x.1) b' some)]; cases setF (.v b x.2) p c some <;> simp [mkPr_eq]
        | _ => simp only [setF]; rfl
      | _ => simp only [setF]; rfl

/-- A store into a box. -/
theorem store_box {T : TypeId} {P : Program} {i : TI} (hi : TIok P i T) {O : Obs} {o : Id} {fp : List Bool} {off : Nat} {x c : AV} {va vx : Value} {K : AV → Option ρ} {r : ρ} (hO : Objs own w G O)
    (hbd : ∀ g, w.heap.size ≤ g → own g = .out) (ha : AVv own w G (.p o fp off) va) (hx : AVv own w G x vx) (hxm : x.men fun i => has O i = true)
    (hs1 : x.size = i.size) (hs2 : x.agg = i.agg) (hl : look O o = some (.box c)) (hoff : offF c fp = off) (h : setF c fp x K = some r) :
    ∃ c' w', K c' = some r ∧ (Instr.storeAt T va vx).run P w = .ok () w' ∧ Post own own w w' G G O (putA O o (.box c')) false := by
  obtain ⟨hn, g, cur, T', hv, hob, hg, hc⟩ := hO o _ hl
  obtain ⟨g', hv', he⟩ := (ha.one rfl rfl)
  rw [hv] at hv'
  cases hv'
  simp only [List.cons.injEq, and_true] at he
  subst he
  obtain ⟨ds, hds⟩ : ∃ ds, x.ok = true → AVc own w G x ds ∧ IsVal x.agg ds vx := by
    cases hok : x.ok
    · exact ⟨[], fun e => by cases e⟩
    · obtain ⟨cs, h1, h2⟩ := hx.cells (ok_cel hok)
      exact ⟨cs, fun _ => ⟨h1, h2⟩⟩
  obtain ⟨c', hk, _, hk'⟩ := setF_agg h
  obtain ⟨c0, c1, c2, c3, e0, hok, hcur, hlen, hl2, hb, hbm, _, hoo⟩ := setF_some (P := fun _ => True) hc (vwK_some.AV.men.all c) (fun e => (hds e).1) (vwK_some.AV.men.all x) hk'
  cases e0
  obtain ⟨hxc, hxv⟩ := hds hok
  rw [hs2] at hxv
  have hfit : off + ds.length ≤ cur.size := by
    have := congrArg List.length hcur
    simp only [Array.length_toList, List.length_append] at this
    omega
  have hst := run_storeVar (P := P) hi hg hxv hxc.one (hxc.length.trans hs1) hfit
  have hnew : (cur.toList.take off ++ ds ++ cur.toList.drop (off + ds.length)) = c1 ++ (ds ++ c3) := by
    rw [hcur, ← hoff, ← hlen, ← hl2, seg_take, seg_drop, List.append_assoc]
  rw [hnew] at hst
  refine ⟨c', w.setRow g (c1 ++ (ds ++ c3)).toArray, hk, by simpa [Instr.storeAt, Instr.sureAddr] using hst, Post.put hO hbd hl hob hn.1 (fun _ => ?_) (fun Q hQ hi a e => by
    cases e
    obtain ⟨c0, d1, d2, d3, e0, _, _, _, _, _, hcm, _⟩ := setF_some (P := Q) (K := some) (r := c') hc (hQ c rfl) (fun e => (hds e).1) (hxm.mono hi) hk'
    cases e0
    exact hcm)⟩
  refine ⟨⟨hn.1, hoo hn.2⟩, g, _, T', hv, hob, setRow_heap w g cur _ T' _ hg, ?_⟩
  exact AVc.keepOk (P := fun _ => True) (fun k hk => ⟨hk, setRow_other w g k _ fun e => by rw [e, hob] at hk; cases hk⟩) (fun _ _ => rfl) (hoo hn.2) hbm hb

theorem seg_get {α : Type} (l nb : List α) (a b k : Nat) (hb : b = a + nb.length) (hl : b ≤ l.length) (hk : k < a ∨ b ≤ k) : (l.take a ++ nb ++ l.drop b)[k]? = l[k]? := by
  have ha : (l.take a).length = a := by rw [List.length_take]; omega
  rcases hk with hk | hk
  · rw [List.append_assoc, List.getElem?_append_left (by omega), List.getElem?_take, if_pos hk]
  · rw [List.getElem?_append_right (by rw [List.length_append, ha]; omega), List.getElem?_drop, List.length_append, ha]
    congr 1
    omega

theorem seg_other {α : Type} (l nb : List α) (s j i : Nat) (hnb : nb.length = s) (hj : j * s + s ≤ l.length) (hij : i ≠ j) :
    ((l.take (j * s) ++ nb ++ l.drop (j * s + s)).drop (i * s)).take s = (l.drop (i * s)).take s := by
  apply List.ext_getElem?
  intro q
  rw [List.getElem?_take, List.getElem?_take]
  split
  · rename_i hq
    rw [List.getElem?_drop, List.getElem?_drop]
    refine seg_get l nb _ _ _ (by rw [hnb]) hj ?_
    rcases Nat.lt_or_gt_of_ne hij with h | h
    · left
      have := Nat.mul_le_mul_right s (Nat.succ_le_of_lt h)
      rw [Nat.succ_mul] at this
      omega
    · right
      have := Nat.mul_le_mul_right s (Nat.succ_le_of_lt h)
      rw [Nat.succ_mul] at this
      omega
  · rfl

theorem seg_self {α : Type} (l nb : List α) (s j : Nat) (hnb : nb.length = s) (hj : j * s + s ≤ l.length) : ((l.take (j * s) ++ nb ++ l.drop (j * s + s)).drop (j * s)).take s = nb := by
  have ha : (l.take (j * s)).length = j * s := by rw [List.length_take]; omega
  rw [List.append_assoc]
  have : (l.take (j * s) ++ (nb ++ l.drop (j * s + s))).drop (j * s) = nb ++ l.drop (j * s + s) := by
    have h := List.drop_left (l₁ := l.take (j * s)) (l₂ := nb ++ l.drop (j * s + s))
    rwa [ha] at h
  rw [this, ← hnb, List.take_left]

theorem seg_split {α : Type} (l : List α) (a s : Nat) : l = l.take a ++ ((l.drop a).take s ++ l.drop (a + s)) := by
  rw [← List.drop_drop, List.take_append_drop, List.take_append_drop]
theorem seg_put {α : Type} (A c1 c2 c3 ds B : List α) (h : c2.length = ds.length) :
    (A ++ ((c1 ++ (c2 ++ c3)) ++ B)).take (A.length + c1.length) ++ ds ++ (A ++ ((c1 ++ (c2 ++ c3)) ++ B)).drop (A.length + c1.length + ds.length) = A ++ (c1 ++ (ds ++ c3)) ++ B := by
  have h1 : A ++ ((c1 ++ (c2 ++ c3)) ++ B) = (A ++ c1) ++ (c2 ++ (c3 ++ B)) := by simp
  rw [h1, ← List.length_append, ← h, seg_take, seg_drop]
  simp

/-- A store into an element of a list of plain values. -/
theorem store_elem {T : TypeId} {P : Program} {i : TI} (hi : TIok P i T) {O : Obs} {o : Id} {fp : List Bool} {off j tid : Nat} {e : Ty} {xs : List e.den} {y : e.den} {x : AV} {va vx : Value} {K : AV → Option ρ} {r : ρ} (hO : Objs own w G O)
    (hbd : ∀ g, w.heap.size ≤ g → own g = .out) (ha : AVv own w G (.e o j fp off) va) (hx : AVv own w G x vx) (hxm : x.men fun i => has O i = true)
    (hs1 : x.size = i.size) (hs2 : x.agg = i.agg) (hl : look O o = some (.list tid e xs)) (hpl : e.plain = true) (hoff : offT e fp = off) (hy : xs[j]? = some y) (h : setF (.v e y) fp x K = some r) :
    ∃ c' w', K c' = some r ∧ (Instr.storeAt T va vx).run P w = .ok () w' ∧ ∀ z : e.den, c' = .v e z → Post own own w w' G G O (putA O o (.list tid e (xs.set j z))) false := by
  obtain ⟨hsz, hn, hr⟩ := hO o _ hl
  obtain ⟨A, m, c, hv, hj, he⟩ := (ha.one rfl rfl)
  simp only [List.cons.injEq, and_true] at he
  subst he
  have hr0 := hr
  rw [hv] at hr
  simp only [Rep, List.cons.injEq, and_true, Value.slice.injEq, Option.some.injEq, reduceCtorEq, false_and, false_or] at hr
  obtain ⟨g, cap, cur, ⟨rfl, rfl, rfl⟩, ho, hg, hc1, hc2, hc3, hel⟩ := hr
  have hy1 := hel j y hy
  obtain ⟨ds, hds⟩ : ∃ ds, x.ok = true → AVc own w G x ds ∧ IsVal x.agg ds vx := by
    cases hok : x.ok
    · exact ⟨[], fun e => by cases e⟩
    · obtain ⟨cs, h1, h2⟩ := hx.cells (ok_cel hok)
      exact ⟨cs, fun _ => ⟨h1, h2⟩⟩
  obtain ⟨c', c1, c2, c3, hk, hok, hcur, hlen, hl2, hb, hbm, hbs, _⟩ := setF_some (P := fun i => has O i = true) (a := .v e y) ⟨hpl, Rep.plain (Sealed.refl _ _) _ hpl hy1⟩ trivial (fun e => (hds e).1) hxm h
  obtain ⟨hxc, hxv⟩ := hds hok
  rw [hs2] at hxv
  rw [offF_v, hoff] at hlen
  have hjs : j * e.size + e.size ≤ cur.size := by
    have := Nat.mul_le_mul_right e.size (show j + 1 ≤ c by omega)
    rw [Nat.succ_mul] at this
    omega
  have hA : (cur.toList.take (j * e.size)).length = j * e.size := by rw [List.length_take, Array.length_toList]; omega
  have hes : (c1 ++ (ds ++ c3)).length = e.size := hb.length.trans hbs
  have hfit : j * e.size + off + ds.length ≤ cur.size := by
    simp only [List.length_append] at hes
    omega
  have hst := run_storeVar (P := P) (o := j * e.size + off) hi hg hxv hxc.one (hxc.length.trans hs1) hfit
  have hnew : cur.toList.take (j * e.size + off) ++ ds ++ cur.toList.drop (j * e.size + off + ds.length) = cur.toList.take (j * e.size) ++ (c1 ++ (ds ++ c3)) ++ cur.toList.drop (j * e.size + e.size) := by
    have h1 := seg_split cur.toList (j * e.size) e.size
    rw [hcur] at h1
    have h2 := seg_put (cur.toList.take (j * e.size)) c1 c2 c3 ds (cur.toList.drop (j * e.size + e.size)) hl2
    rw [← h1, hA, hlen] at h2
    exact h2
  rw [hnew] at hst
  refine ⟨c', _, hk, by rw [hsz, add_row, add_row, Nat.zero_add]; exact hst, fun z hz => ?_⟩
  subst hz
  refine Post.put hO hbd hl ho (by rw [hn, hpl]; rfl) (fun _ => ?_) (fun _ _ _ a e => by cases e)
  refine ⟨hsz, hn, ?_⟩
  rw [hv]
  refine .inr ⟨g, c, _, by rw [List.length_set], ho, setRow_heap w g cur _ tid _ hg, by rw [List.length_set]; exact hc1, hc2, ?_, ?_⟩
  · simp only [List.size_toArray, List.length_append, List.length_take, List.length_drop, Array.length_toList] at hes ⊢
    omega
  · intro q y' hq
    have hs : Sealed own w own (w.setRow g (cur.toList.take (j * e.size) ++ (c1 ++ (ds ++ c3)) ++ cur.toList.drop (j * e.size + e.size)).toArray) :=
      fun k hk => ⟨hk, setRow_other w g k _ fun e => by rw [e, ho] at hk; cases hk⟩
    simp only
    by_cases hqj : q = j
    · subst hqj
      rw [seg_self _ _ _ _ hes (by rw [Array.length_toList]; exact hjs)]
      rw [List.getElem?_set_self (List.getElem?_eq_some_iff.1 hy).1] at hq
      cases hq
      exact Rep.plain hs _ hpl hb.2
    · rw [seg_other _ _ _ _ _ hes (by rw [Array.length_toList]; exact hjs) hqj]
      rw [List.getElem?_set_ne (Ne.symm hqj)] at hq
      exact Rep.plain hs _ hpl (hel q y' hq)

end Go.Pv

/- A byte of a string: no condition. -/
namespace Go.Pv
open Go
variable {own own' : Own} {w w' : World} {G G' : Gs} {ρ : Type} {E : Env}

theorem idxK_some (hE : EnvOk E) {T : TypeId} {a i : AV} {va vi : Value} {K : AV → Option ρ} {r : ρ} (hT : isStr E T = true) (ha : AVv own w G a va) (hi : AVv own w G i vi) (h : idxK a i K = some r) :
    ∃ z v, K (.v (.int .u8) z) = some r ∧ (Instr.index T va vi).run E.P w = .ok v w ∧ AVv own w G (.v (.int .u8) z) v := by
  unfold idxK at h
  split at h
  · rename_i s k i
    obtain ⟨rfl, hs⟩ := ha.str
    obtain ⟨rfl, hwi⟩ := hi.int
    obtain ⟨h0, h⟩ := bif_yes h
    have h0 := of_decide_eq_true h0
    obtain ⟨b, hb, h⟩ := bind_some h
    unfold bt at hb
    obtain ⟨u, hu, rfl⟩ := Option.map_eq_some_iff.1 hb
    have hlt : i.toNat < s.data.size := (Array.getElem?_eq_some_iff.1 hu).1
    have hu8 : u.toNat < 256 := u.toNat_lt
    have hmin : IntKind.u8.min = 0 := rfl
    have hmax : IntKind.u8.max = 255 := rfl
    refine ⟨_, _, h, ?_, .mkInt (by simp only [Lit.wf, Bool.and_eq_true, decide_eq_true_eq, hmin, hmax]; omega)⟩
    have hget : s[i.toNat]? = some u := by
      have : i.toNat < s.size := hlt
      rw [getElem?_pos s i.toNat this]
      have h2 := (Array.getElem?_eq_some_iff.1 hu).2
      exact congrArg some h2
    unfold Instr.index
    simp only [Sem.run_bind, asIntOf, Sem.run_pure, Result.andThen_ok, run_underlying (isStr_und hE hT), if_pos h0, hget]
  · cases h

end Go.Pv

/- New blocks: what was there stays. No condition. -/
namespace Go.Pv
open Go
variable {own own' : Own} {w w' : World} {G G' : Gs} {ρ : Type} {E : Env}

/-- Everything that belongs to somebody stays as it is, and his. -/
def Grows (own : Own) (w : World) (own' : Own) (w' : World) : Prop := ∀ g, own g ≠ .out → own' g = own g ∧ w'.heap[g]? = w.heap[g]?

theorem Grows.sealed (h : Grows own w own' w') : Sealed own w own' w' := fun g hg => by
  have := h g (by rw [hg]; exact fun e => by cases e)
  exact ⟨this.1.trans hg, this.2⟩

theorem ObR.grow {P : Id → Prop} {o : Id} {b : Ob} (hg : Grows own w own' w') (h : ObR own w G o b) (he : G' o = G o) (hm : ∀ a, b = .box a → a.men P) (hG : ∀ i, P i → G' i = G i) : ObR own' w' G' o b := by
  cases b with
  | box a =>
    obtain ⟨hn, g, cur, T, h1, h2, h3, h4⟩ := h
    have hgg := hg g (by rw [h2]; exact fun e => by cases e)
    exact ⟨⟨by rw [he]; exact hn.1, hn.2⟩, g, cur, T, by rw [he]; exact h1, hgg.1.trans h2, hgg.2.trans h3, AVc.keepOk hg.sealed hG hn.2 (hm a rfl) h4⟩
  | list tid e xs =>
    obtain ⟨h1, h2, h3⟩ := h
    refine ⟨by rw [he]; exact h1, by rw [he]; exact h2, ?_⟩
    rw [he]
    refine Rep.move hg.sealed (Mv.ob fun k r hk => ?_) h3
    have hne : own k ≠ .out := by rw [hk]; intro e; cases e
    have h5 := hg k hne
    exact ⟨by rw [h5.1, hk]; simp, h5.2⟩
  | map tid k v es =>
    obtain ⟨h1, h2⟩ := h
    refine ⟨by rw [he]; exact h1, ?_⟩
    rw [he]
    refine Rep.move hg.sealed (Mv.obMap fun k r hk => ?_) h2
    have hne : own k ≠ .out := by rw [hk]; intro e; cases e
    have h5 := hg k hne
    exact ⟨by rw [h5.1, hk]; simp, h5.2⟩

def oput (own : Own) (g : Nat) (l : Lb) : Own := fun k => if k = g then l else own k

theorem grows_alloc (hbd : ∀ g, w.heap.size ≤ g → own g = .out) (ob : Obj) (l : Lb) : Grows own w (oput own w.heap.size l) { w with heap := w.heap.push ob } := by
  intro g hg
  have hlt : g < w.heap.size := by
    rcases Nat.lt_or_ge g w.heap.size with h | h
    · exact h
    · exact (hg (hbd g h)).elim
  refine ⟨if_neg (by omega), ?_⟩
  simp [Array.getElem?_push, Nat.ne_of_lt hlt]

/-- A new object in a new block. -/
theorem Post.alloc {O : Obs} {r : Id} {b : Ob} {x : Gh} {ob : Obj} {l : Lb} {Q : Id → Prop} (hO : Objs own w G O) (hbox : ∀ o c, look O o = some (.box c) → c.men Q) (hQ : ¬Q r)
    (hbd : ∀ g, w.heap.size ≤ g → own g = .out) (hr : has O r = false)
    (hb : ObR (oput own w.heap.size l) { w with heap := w.heap.push ob } (gput G r x) r b) (hm : ∀ a, b = .box a → a.men fun i => has O i = true) :
    Post own (oput own w.heap.size l) w { w with heap := w.heap.push ob } G (gput G r x) O ((r, b) :: O) false := by
  have hg := grows_alloc hbd ob l
  have hne : ∀ o, has O o = true → o ≠ r := by rintro o ho rfl; rw [hr] at ho; cases ho
  refine ⟨?_, fun _ o ho => (has_new _ _ _ _).2 (.inr ho), fun o ho _ => gput_ne _ _ (hne o ho), fun _ o ho hn A m c hv => ?_, ?_, hg.sealed, fun g hlt ho => ?_, fun g hge => ?_, by simp, rfl, rfl, rfl⟩
  · intro o c hc
    rw [look_new] at hc
    by_cases ho : o = r
    · subst ho
      rw [if_pos rfl] at hc
      cases hc
      exact hb
    · rw [if_neg ho] at hc
      exact ObR.grow (P := Q) hg (hO o c hc) (gput_ne _ _ ho) (fun a e => hbox o a (e ▸ hc)) (fun i hi => gput_ne _ _ (by rintro rfl; exact hQ hi))
  · have h1 := own_list hO ho hn hv
    exact (hg _ (by rw [h1]; intro e; cases e)).2
  · intro P hbox o c hc
    rw [look_new] at hc
    split at hc
    · cases hc
      exact (hm c rfl).mono fun i hi => .inr ((has_new _ _ _ _).2 (.inr hi))
    · exact (hbox o c hc).mono fun i hi => .inl hi
  · refine ⟨by rw [oput, if_neg (by omega)]; exact ho, ?_⟩
    simp [Array.getElem?_push, Nat.ne_of_lt hlt]
  · simp only [Array.size_push] at hge
    rw [oput, if_neg (by omega)]
    exact hbd g (by omega)

end Go.Pv

/- What is made of a value without blocks: no condition. -/
namespace Go.Pv
open Go
variable {own own' : Own} {w w' : World} {G G' : Gs} {ρ : Type} {E : Env}

theorem fresh_of {O : Obs} {r o : Id} (h : hasP O r = false) (hp : pre r o = true) : has O o = false := by
  cases e : has O o
  · rfl
  · rw [hasP_of hp e] at h; cases h

/-- A value taken apart under a fresh root: nothing else changes. -/
theorem Un.post {O O' : Obs} {r : Id} {a : AV} {cs : List Value} {Q : Id → Prop} (h : Un own w Q r G G' O O' a cs)
    (hbd : ∀ g, w.heap.size ≤ g → own g = .out) (hr : ∀ o, pre r o = true → has O o = false) : Post own own w w G G' O O' false where
  objs := h.objs
  stay := fun _ o ho => by rw [has_of_look (h.more.kept o ho)]; exact ho
  same := fun o ho _ => by
    refine (h.more.same o ?_).1
    cases e : pre r o
    · rfl
    · rw [hr o e] at ho; cases ho
  nest := fun _ _ _ _ _ _ _ _ => rfl
  box := fun P hbox o c hc => by
    rcases h.box o c hc with h1 | h1
    · exact (hbox o c h1).mono fun i hi => .inl hi
    · exact h1.mono fun i hi => .inr hi.1
  sealed := .refl _ _
  outs := fun _ _ h => ⟨h, rfl⟩
  bound := hbd
  size := Nat.le_refl _
  os := rfl
  tape := rfl
  output := rfl

theorem Sl.none {own' : Own} {w' : World} : ∀ {t : Ty} {p : Pos}, Sl (fun _ => .out) w own' w' t p
  | .int _, _ => trivial
  | .bool, _ => trivial
  | .str, _ => trivial
  | .unit, _ => trivial
  | .slc _, _ => trivial
  | .sptr _, _ => trivial
  | .hole _, _ => trivial
  | .arr _ _, _ => trivial
  | .mp _ _ _, _ => trivial
  | .nmap, _ => trivial
  | .hdr, _ => trivial
  | .clo _ _, _ => trivial
  | .pair _ _, _ => ⟨Sl.none, Sl.none⟩
  | .own _ _, _ => ⟨fun _ h => (nomatch h), fun _ => Sl.none⟩
  | .bx _, _ => ⟨fun _ h => (nomatch h), Sl.none⟩

theorem litC_sh {t : Ty} {x : t.den} {cs : List Value} {q : Pos} (hp : t.sh.plain = true) (h : litC t x = some cs) : Rep own w t.sh (toSh t x) q cs :=
  Rep.sealUp (own := fun _ => .out) (w := w) (fun _ h => (nomatch h)) (p := ⟨[], [], true⟩) q hp Sl.none (litC_rep h)

end Go.Pv

/- Maps of values without blocks: looking up, storing. No condition. -/
namespace Go.Pv
open Go
variable {own own' : Own} {w w' : World} {G G' : Gs} {ρ : Type} {E : Env}

theorem mapOf_some (hE : EnvOk E) {T : Nat} {K : Nat → Nat → Option ρ} {r : ρ} (h : mapOf E T K = some r) : ∃ k v, E.P.underlying T = some (.map k v) ∧ K k v = some r := by
  unfold mapOf tiK at h
  split at h
  · rename_i i hi
    dsimp only at h
    split at h
    · rename_i k v he
      obtain ⟨d, hd, hk, _⟩ := (hE.ti T i hi).und
      rw [he] at hk
      simp only [TDok] at hk
      exact ⟨k, v, by rw [hd, hk], h⟩
    · cases h
  · cases h

/-! ### Keys -/
theorem checkFields {P : Program} (em : Bool) (n : Nat) (cs : Array Value) (w : World) : ∀ fl : List Field, (∀ f ∈ fl, ∃ v, (part f.type cs f.offset).run P w = .ok v w ∧ (Instr.checkKey em n f.type v).run P w = .ok () w) →
    (forIn fl PUnit.unit fun f _ => if f.name ≠ "_" then (do Instr.checkKey em n f.type (← part f.type cs f.offset); pure (ForInStep.yield PUnit.unit)) else pure (ForInStep.yield PUnit.unit) : Sem PUnit).run P w = .ok PUnit.unit w
  | [], _ => by simp
  | f :: fl, h => by
    obtain ⟨v, h1, h2⟩ := h f List.mem_cons_self
    have ih := checkFields em n cs w fl fun g hg => h g (List.mem_cons_of_mem _ hg)
    simp only [List.forIn_cons, Sem.run_bind, Sem.run_ite]
    split
    · simp only [h1, h2, Result.andThen_ok, Sem.run_pure]
      exact ih
    · simp only [Sem.run_pure, Result.andThen_ok]
      exact ih

theorem checkFs {f : Nat → Ty → Bool} {P : Program} {em : Bool} {d : Nat} (hf : ∀ T t, f T t = true → ∀ {x : t.den} {cx : List Value} {p : Pos} {vx : Value}, Rep own w t x p cx → IsVal t.agg cx vx → (Instr.checkKey em d T vx).run P w = .ok () w)
    (hp : ∀ T t, f T t = true → ∃ j, TIok P j T ∧ j.size = t.size ∧ j.agg = t.agg) :
    ∀ (t : Ty) {fl : List Field} {x : t.den} {cx c0 : List Value} {p : Pos}, eqFs f c0.length (fl.map fun g => (g.offset, g.type)) t = true → Rep own w t x p cx →
      ∀ g ∈ fl, ∃ v, (part g.type (c0 ++ cx).toArray g.offset).run P w = .ok v w ∧ (Instr.checkKey em d g.type v).run P w = .ok () w
  | .unit, [], x, cx, c0, p, h, hx => by simp
  | .pair a b, g :: fl, x, cx, c0, p, h, hx => by
    simp only [List.map_cons, eqFs] at h
    cases h1 : Nat.beq c0.length g.offset
    · rw [h1] at h; cases h
    rw [h1] at h
    have h1 := beq_nat h1
    cases h2 : f g.type a
    · rw [h2] at h; cases h
    rw [h2] at h
    obtain ⟨c1, c2, rfl, hx1, hx2⟩ := hx
    obtain ⟨j, hj, hjs, hja⟩ := hp _ _ h2
    obtain ⟨vx, hvx, hix⟩ := run_part hj (c1 := c0) (c2 := c1) (c3 := c2) (hx1.length.trans hjs.symm) w
    rw [h1] at hvx
    rw [hja] at hix
    have hr := checkFs hf hp b (fl := fl) (c0 := c0 ++ c1) (by rw [List.length_append, hx1.length]; exact h) hx2
    rw [List.append_assoc] at hr
    intro q hq
    rcases List.mem_cons.1 hq with rfl | hq
    · exact ⟨vx, hvx, hf _ _ h2 hx1 hix⟩
    · exact hr q hq
  | .pair _ _, [], _, _, _, _, h, _ => by cases h
  | .unit, _ :: _, _, _, _, _, h, _ => by cases h
  | .int _, fl, _, _, _, _, h, _ => by cases fl <;> cases h
  | .bool, fl, _, _, _, _, h, _ => by cases fl <;> cases h
  | .str, fl, _, _, _, _, h, _ => by cases fl <;> cases h
  | .slc _, fl, _, _, _, _, h, _ => by cases fl <;> cases h
  | .sptr _, fl, _, _, _, _, h, _ => by cases fl <;> cases h
  | .own _ _, fl, _, _, _, _, h, _ => by cases fl <;> cases h
  | .bx _, fl, _, _, _, _, h, _ => by cases fl <;> cases h
  | .hole _, fl, _, _, _, _, h, _ => by cases fl <;> cases h
  | .arr _ _, fl, _, _, _, _, h, _ => by cases fl <;> cases h
  | .mp _ _ _, fl, _, _, _, _, h, _ => by cases fl <;> cases h
  | .nmap, fl, _, _, _, _, h, _ => by cases fl <;> cases h
  | .hdr, fl, _, _, _, _, h, _ => by cases fl <;> cases h
  | .clo _ _, fl, _, _, _, _, h, _ => by cases fl <;> cases h

theorem checkKey_some (hE : EnvOk E) (em : Bool) (d : Nat) : ∀ {k T : Nat} {t : Ty} {x : t.den} {cx : List Value} {p : Pos} {vx : Value}, eqT E k T t = true → Rep own w t x p cx → IsVal t.agg cx vx →
    (Instr.checkKey em (d + k) T vx).run E.P w = .ok () w
  | 0, T, t, x, cx, p, vx, h, hx, hvx => by cases h
  | k + 1, T, t, x, cx, p, vx, h, hx, hvx => by
    obtain ⟨k', i, hk, hi, he, hz1, hz2, hm⟩ := eqT_ti h
    clear hz1 hz2
    cases hk
    obtain ⟨dd, hd, htd, _⟩ := (hE.ti T i hi).und
    unfold eqM at hm
    split at hm
    · rename_i k1 k2 hd1
      rw [hd1] at htd
      simp only [TDok] at htd
      subst htd
      rw [← Nat.add_assoc]
      simp [Instr.checkKey, run_underlying hd]
    · rename_i hd1
      rw [hd1] at htd
      simp only [TDok] at htd
      subst htd
      rw [← Nat.add_assoc]
      simp [Instr.checkKey, run_underlying hd]
    · rename_i hd1
      rw [hd1] at htd
      simp only [TDok] at htd
      subst htd
      rw [← Nat.add_assoc]
      simp [Instr.checkKey, run_underlying hd]
    · rename_i fs a b hd1
      rw [hd1] at htd
      obtain ⟨fields, rfl, hfs⟩ := htd
      have hvx : vx = .agg cx.toArray := hvx
      subst hvx
      have := checkFs (own := own) (w := w) (P := E.P) (d := d + k) (em := em) (f := eqT E k) (fun T' t' h' => by
        intro x cx p vx h1 h3
        exact checkKey_some hE em d h' h1 h3) (fun T' t' h' => ?_) (.pair a b) (fl := fields.toList) (c0 := []) (x := x) (by rw [hfs]; exact hm) hx
      · rw [← Nat.add_assoc]
        unfold Instr.checkKey
        simp only [Sem.run_bind, run_underlying hd, Result.andThen_ok]
        rw [← Array.forIn_toList]
        have h5 := checkFields em (d + k) _ w _ this
        rw [List.nil_append] at h5
        rw [h5]
        rfl
      · obtain ⟨k2, j, hk2, hj, hje, hjs, hja, hjm⟩ := eqT_ti h'
        exact ⟨j, hE.ti T' j hj, hjs, hja⟩
    · cases hm


/-! ### Values without blocks -/
theorem Rep.flat_det : ∀ {t : Ty} {x : t.den} {p q : Pos} {cs ds : List Value} {own own' : Own} {w w' : World}, t.flat = true → Rep own w t x p cs → Rep own' w' t x q ds → cs = ds
  | .int _, _, _, _, _, _, _, _, _, _, _, h, h' => by simp only [Rep] at h h'; rw [h.1, h'.1]
  | .bool, _, _, _, _, _, _, _, _, _, _, h, h' => by simp only [Rep] at h h'; rw [h, h']
  | .str, _, _, _, _, _, _, _, _, _, _, h, h' => by simp only [Rep] at h h'; rw [h.1, h'.1]
  | .unit, _, _, _, _, _, _, _, _, _, _, h, h' => by simp only [Rep] at h h'; rw [h, h']
  | .pair a b, _, _, _, _, _, _, _, _, _, hf, h, h' => by
    simp only [Rep] at h h'
    obtain ⟨c1, c2, rfl, h1, h2⟩ := h
    obtain ⟨d1, d2, rfl, h1', h2'⟩ := h'
    simp only [Ty.flat] at hf
    cases ha : a.flat
    · rw [ha] at hf; cases hf
    rw [ha] at hf
    rw [Rep.flat_det ha h1 h1', Rep.flat_det (t := b) hf h2 h2']
  | .slc _, _, _, _, _, _, _, _, _, _, hf, _, _ => by cases hf
  | .sptr _, _, _, _, _, _, _, _, _, _, hf, _, _ => by cases hf
  | .own _ _, _, _, _, _, _, _, _, _, _, hf, _, _ => by cases hf
  | .bx _, _, _, _, _, _, _, _, _, _, hf, _, _ => by cases hf
  | .hole _, _, _, _, _, _, _, _, _, _, hf, _, _ => by cases hf
  | .arr _ _, _, _, _, _, _, _, _, _, _, hf, _, _ => by cases hf
  | .mp _ _ _, _, _, _, _, _, _, _, _, _, hf, _, _ => by cases hf
  | .nmap, _, _, _, _, _, _, _, _, _, hf, _, _ => by cases hf
  | .hdr, _, _, _, _, _, _, _, _, _, hf, _, _ => by cases hf
  | .clo _ _, _, _, _, _, _, _, _, _, _, hf, _, _ => by cases hf

theorem same_flat : ∀ {t : Ty} {x : t.den} {p : Pos} {cs : List Value} {own : Own} {w : World}, t.flat = true → Rep own w t x p cs → ∀ n, ∀ u ∈ cs, Instr.sameBits n u u = true
  | .int _, _, _, _, _, _, _, h, n, u, hu => by simp only [Rep] at h; rw [h.1] at hu; simp at hu; subst hu; cases n <;> simp [Instr.sameBits]
  | .bool, _, _, _, _, _, _, h, n, u, hu => by simp only [Rep] at h; rw [h] at hu; simp at hu; subst hu; cases n <;> simp [Instr.sameBits]
  | .str, _, _, _, _, _, _, h, n, u, hu => by simp only [Rep] at h; rw [h.1] at hu; simp at hu; subst hu; cases n <;> simp only [Instr.sameBits] <;> exact (beq_toListBytes _ _).trans (by simp)
  | .unit, _, _, _, _, _, _, h, n, u, hu => by simp only [Rep] at h; rw [h] at hu; simp at hu
  | .pair a b, _, _, _, _, _, hf, h, n, u, hu => by
    simp only [Rep] at h
    obtain ⟨c1, c2, rfl, h1, h2⟩ := h
    simp only [Ty.flat] at hf
    cases ha : a.flat
    · rw [ha] at hf; cases hf
    rw [ha] at hf
    rcases List.mem_append.1 hu with hu | hu
    · exact same_flat ha h1 n u hu
    · exact same_flat (t := b) hf h2 n u hu
  | .slc _, _, _, _, _, _, hf, _, _, _, _ => by cases hf
  | .sptr _, _, _, _, _, _, hf, _, _, _, _ => by cases hf
  | .own _ _, _, _, _, _, _, hf, _, _, _, _ => by cases hf
  | .bx _, _, _, _, _, _, hf, _, _, _, _ => by cases hf
  | .hole _, _, _, _, _, _, hf, _, _, _, _ => by cases hf
  | .arr _ _, _, _, _, _, _, hf, _, _, _, _ => by cases hf
  | .mp _ _ _, _, _, _, _, _, hf, _, _, _, _ => by cases hf
  | .nmap, _, _, _, _, _, hf, _, _, _, _ => by cases hf
  | .hdr, _, _, _, _, _, hf, _, _, _, _ => by cases hf
  | .clo _ _, _, _, _, _, _, hf, _, _, _, _ => by cases hf

theorem same_val {t : Ty} {x : t.den} {p : Pos} {cs : List Value} {v : Value} (hf : t.flat = true) (h : Rep own w t x p cs) (hv : IsVal t.agg cs v) (n : Nat) : Instr.sameBits (n + 1) v v = true := by
  have hs := same_flat hf h
  cases hg : t.agg
  · rw [hg] at hv
    simp only [IsVal] at hv
    exact hs (n + 1) v (by rw [hv]; simp)
  · rw [hg] at hv
    simp only [IsVal] at hv
    subst hv
    simp only [Instr.sameBits, Bool.and_eq_true, beq_self_eq_true, true_and, List.all_eq_true]
    intro q hq
    obtain ⟨a, b⟩ := q
    have h1 : a = b ∧ a ∈ cs := by
      simp only [List.zip] at hq
      rw [List.mem_iff_getElem?] at hq
      obtain ⟨i, hi⟩ := hq
      rw [List.getElem?_zipWith] at hi
      cases e : cs[i]? with
      | none => rw [e] at hi; simp at hi
      | some c =>
        rw [e] at hi
        simp only [Option.some.injEq, Prod.mk.injEq] at hi
        exact ⟨hi.1.symm.trans hi.2, hi.1 ▸ List.mem_of_getElem? e⟩
    rw [← h1.1]
    exact hs n a h1.2

theorem key_flat : ∀ {t : Ty}, t.eqOk = true → t.flat = true
  | .int _, _ => rfl
  | .bool, _ => rfl
  | .unit, _ => rfl
  | .pair a b, h => by
    simp only [Ty.eqOk] at h
    cases ha : a.eqOk
    · rw [ha] at h; cases h
    rw [ha] at h
    simp only [Ty.flat, key_flat ha, key_flat (t := b) h]
    rfl
  | .str, h => by cases h
  | .slc _, h => by cases h
  | .sptr _, h => by cases h
  | .own _ _, h => by cases h
  | .bx _, h => by cases h
  | .hole _, h => by cases h
  | .arr _ _, h => by cases h
  | .mp _ _ _, h => by cases h
  | .nmap, h => by cases h
  | .hdr, h => by cases h
  | .clo _ _, h => by cases h

theorem keyOk_flat {t : Ty} (h : t.keyOk = true) : t.flat = true := by
  cases t with
  | int _ => rfl
  | str => rfl
  | pair a b => exact key_flat (t := .pair a b) h
  | _ => cases h

theorem eqV_eq : ∀ {t : Ty} {x y : t.den}, t.eqOk = true → eqV t x y = true → x = y
  | .int _, x, y, _, h => by simp only [eqV] at h; exact eq_of_beq (α := Int) h
  | .bool, x, y, _, h => by simp only [eqV] at h; exact eq_of_beq (α := Bool) h
  | .unit, x, y, _, _ => rfl
  | .pair a b, x, y, ho, h => by
    simp only [Ty.eqOk] at ho
    cases ha : a.eqOk
    · rw [ha] at ho; cases ho
    rw [ha] at ho
    have h2 : eqV a x.1 y.1 = true ∧ eqV b x.2 y.2 = true := by
      cases b <;> first | (simp only [eqV, Bool.and_eq_true] at h ⊢; first | exact h | exact ⟨h, trivial⟩ | exact ⟨h.1, trivial⟩ | exact ⟨h, rfl⟩) | (simp only [eqV, Bool.and_eq_true] at h; first | exact h | exact ⟨h, rfl⟩)
    exact Prod.ext (eqV_eq ha h2.1) (eqV_eq (t := b) ho h2.2)
  | .str, _, _, h, _ => by cases h
  | .slc _, _, _, h, _ => by cases h
  | .sptr _, _, _, h, _ => by cases h
  | .own _ _, _, _, h, _ => by cases h
  | .bx _, _, _, h, _ => by cases h
  | .hole _, _, _, h, _ => by cases h
  | .arr _ _, _, _, h, _ => by cases h
  | .mp _ _ _, _, _, h, _ => by cases h
  | .nmap, _, _, h, _ => by cases h
  | .hdr, _, _, h, _ => by cases h
  | .clo _ _, _, _, h, _ => by cases h

theorem keyV_eq {t : Ty} {x y : t.den} (ho : t.keyOk = true) (h : eqV t x y = true) : x = y := by
  cases t with
  | int _ => exact eqV_eq (t := .int _) rfl h
  | str =>
    simp only [eqV] at h
    rw [beq_toListBytes] at h
    have := eq_of_beq h
    rw [ByteArray.toList_eq, ByteArray.toList_eq] at this
    obtain ⟨⟨a⟩⟩ := x
    obtain ⟨⟨b⟩⟩ := y
    exact congrArg _ (congrArg _ this)
  | pair a b => exact eqV_eq (t := .pair a b) ho h
  | _ => cases ho

/-! ### Finding -/
def mloc (k : Ty) {β : Type} : List (k.den × β) → List MapEntry → k.den → Nat → Option (Nat × Value)
  | (a, _) :: l, e :: ms, x, i => bif eqV k x a then some (i, e.val) else mloc k l ms x (i + 1)
  | _, _, _, _ => none

/-- Entries and what they stand for. -/
def MFit (own : Own) (w : World) (k v : Ty) (p : Pos) : List MapEntry → List (k.den × v.den) → Prop
  | [], [] => True
  | m :: ms, x :: es => (∃ kc vc, IsVal k.agg kc m.key ∧ IsVal v.agg vc m.val ∧ Rep own w k x.1 p kc ∧ Rep own w v x.2 p vc) ∧ MFit own w k v p ms es
  | _, _ => False

theorem MFit.of {k v : Ty} {p : Pos} : ∀ {ms : List MapEntry} {es : List (k.den × v.den)}, ms.length = es.length →
    (∀ (i : Nat) (m : MapEntry) (x : k.den × v.den), ms[i]? = some m → es[i]? = some x → ∃ kc vc, IsVal k.agg kc m.key ∧ IsVal v.agg vc m.val ∧ Rep own w k x.1 p kc ∧ Rep own w v x.2 p vc) → MFit own w k v p ms es
  | [], [], _, _ => trivial
  | m :: ms, x :: es, hl, h => ⟨h 0 m x rfl rfl, MFit.of (by simpa using hl) fun i m x h1 h2 => h (i + 1) m x (by simpa using h1) (by simpa using h2)⟩
  | [], _ :: _, hl, _ => by cases hl
  | _ :: _, [], hl, _ => by cases hl

theorem MFit.get {k v : Ty} {p : Pos} : ∀ {ms : List MapEntry} {es : List (k.den × v.den)}, MFit own w k v p ms es → ms.length = es.length ∧
    ∀ (i : Nat) (m : MapEntry) (x : k.den × v.den), ms[i]? = some m → es[i]? = some x → ∃ kc vc, IsVal k.agg kc m.key ∧ IsVal v.agg vc m.val ∧ Rep own w k x.1 p kc ∧ Rep own w v x.2 p vc
  | [], [], _ => ⟨rfl, fun i m x h _ => by simp at h⟩
  | m :: ms, x :: es, ⟨h0, h⟩ => by
    obtain ⟨h1, h2⟩ := MFit.get h
    refine ⟨by simp [h1], fun i m' x' h3 h4 => ?_⟩
    cases i with
    | zero => simp at h3 h4; subst h3 h4; exact h0
    | succ i => exact h2 i m' x' (by simpa using h3) (by simpa using h4)
  | [], _ :: _, h => h.elim
  | _ :: _, [], h => h.elim

theorem findAsking_some (hE : EnvOk E) {kT : Nat} {k v : Ty} {x : k.den} {cx : List Value} {p q : Pos} {vx : Value} (ht : eqT E 8 kT k = true) (hx : Rep own w k x p cx) (hvx : IsVal k.agg cx vx) :
    ∀ {ms : List MapEntry} {es : List (k.den × v.den)} (i : Nat), MFit own w k v q ms es → (Instr.findAsking kT vx ms i).run E.P w = .ok (mloc k es ms x i) w
  | [], [], i, _ => by simp [Instr.findAsking, mloc]
  | m :: ms, (a, b) :: es, i, ⟨⟨kc, vc, h1, h2, h3, h4⟩, h⟩ => by
    have he := eqIn_some hE 9992 ht hx h3 hvx h1
    have ih := findAsking_some hE ht hx hvx (i + 1) h
    unfold Instr.findAsking
    simp only [Sem.run_bind, Op.equal, Op.maxDepth]
    simp only [show (9992 + 8 : Nat) = 10000 from rfl] at he
    simp only [he, Result.andThen_ok, mloc]
    cases eqV k x a
    · simp only [Bool.false_eq_true, if_false, cond_false]; exact ih
    · simp
  | [], _ :: _, _, h => h.elim
  | _ :: _, [], _, h => h.elim

theorem findNow_some {d : TypeDesc} {k v : Ty} {x : k.den} {q : Pos} {vx : Value} (hs : ∀ (a : k.den) (kc : List Value) (u : Value), Rep own w k a q kc → IsVal k.agg kc u → Instr.sameNow d vx u = some (eqV k x a)) :
    ∀ {ms : List MapEntry} {es : List (k.den × v.den)} (i : Nat), MFit own w k v q ms es → Instr.findNow d vx ms i = some (mloc k es ms x i)
  | [], [], i, _ => rfl
  | m :: ms, (a, b) :: es, i, ⟨⟨kc, vc, h1, h2, h3, h4⟩, h⟩ => by
    have ih := findNow_some hs (i + 1) h
    simp only [Instr.findNow, hs a kc m.key h3 h1, mloc]
    cases eqV k x a
    · exact ih
    · rfl
  | [], _ :: _, _, h => h.elim
  | _ :: _, [], _, h => h.elim

theorem findKey_some (hE : EnvOk E) {kT : Nat} {k v : Ty} {x : k.den} {cx : List Value} {p q : Pos} {vx : Value} (hk : k.keyOk = true) (ht : eqT E 8 kT k = true) (hx : Rep own w k x p cx) (hvx : IsVal k.agg cx vx)
    {ms : List MapEntry} {es : List (k.den × v.den)} (h : MFit own w k v q ms es) : (Instr.findKey kT vx ms).run E.P w = .ok (mloc k es ms x 0) w := by
  obtain ⟨k', i, hk', hi, he, hz1, hz2, hm⟩ := eqT_ti ht
  obtain ⟨dd, hd, htd, _⟩ := (hE.ti kT i hi).und
  have ha := findAsking_some hE ht hx hvx 0 h
  unfold Instr.findKey
  simp only [Sem.run_bind, run_underlying hd, Result.andThen_ok]
  cases hf : Instr.findNow dd vx ms 0 with
  | none => exact ha
  | some r =>
    simp only [Sem.run_pure]
    cases k with
    | int kk =>
      have h2 := findNow_some (d := dd) (k := .int kk) (v := v) (x := x) (vx := vx) (fun a kc u h1 h2 => ?_) 0 h
      · rw [hf] at h2; cases h2; rfl
      · have hvx : cx = [vx] := hvx
        have h2 : kc = [u] := h2
        simp only [Rep] at hx h1
        rw [hx.1] at hvx
        rw [h1.1] at h2
        simp only [List.cons.injEq, and_true] at hvx h2
        subst hvx h2
        unfold eqM at hm
        split at hm
        · rename_i hd1 hk1
          rw [hd1] at htd
          simp only [TDok] at htd
          subst htd
          simp [Instr.sameNow, eqV]
        · rename_i e; cases e
        · rename_i e; cases e
        · rename_i e; cases e
        · cases hm
    | str =>
      have h2 := findNow_some (d := dd) (k := .str) (v := v) (x := x) (vx := vx) (fun a kc u h1 h2 => ?_) 0 h
      · rw [hf] at h2; cases h2; rfl
      · have hvx : cx = [vx] := hvx
        have h2 : kc = [u] := h2
        simp only [Rep] at hx h1
        rw [hx.1] at hvx
        rw [h1.1] at h2
        simp only [List.cons.injEq, and_true] at hvx h2
        subst hvx h2
        unfold eqM at hm
        split at hm
        · rename_i e; cases e
        · rename_i e; cases e
        · rename_i hd1 _
          rw [hd1] at htd
          simp only [TDok] at htd
          subst htd
          simp [Instr.sameNow, eqV]
        · rename_i e; cases e
        · cases hm
    | pair a b =>
      have hvx : vx = .agg cx.toArray := hvx
      subst hvx
      unfold eqM at hm
      split at hm
      · rename_i e; cases e
      · rename_i e; cases e
      · rename_i e; cases e
      · rename_i fs _ _ hd1 _
        rw [hd1] at htd
        obtain ⟨fields, rfl, hfs⟩ := htd
        cases ms with
        | nil =>
          cases es with
          | nil => simp only [Instr.findNow, Option.some.injEq] at hf; subst hf; rfl
          | cons _ _ => exact h.elim
        | cons m ms => simp [Instr.findNow, Instr.sameNow] at hf
      · cases hm
    | _ => cases hk

/-- What is found, and what a store makes of it. -/
theorem mloc_some {k v : Ty} {x : k.den} {z : v.den} {q : Pos} {vx vz : Value} {cx cz : List Value} (hx : Rep own w k x q cx) (hvx : IsVal k.agg cx vx) (hz : Rep own w v z q cz) (hvz : IsVal v.agg cz vz) :
    ∀ {ms : List MapEntry} {es : List (k.den × v.den)} (i : Nat), MFit own w k v q ms es →
      (∃ j y m a b vc, mloc k es ms x i = some (i + j, m.val) ∧ ms[j]? = some m ∧ es[j]? = some (a, b) ∧ eqV k x a = true ∧ mfind k es x = some b ∧ IsVal v.agg vc m.val ∧ Rep own w v b q vc ∧ y = b ∧
        MFit own w k v q (ms.modify j fun e => { e with key := vx, val := vz }) (mput k es x z)) ∨
      (mloc k es ms x i = none ∧ mfind k es x = none ∧ ∀ c, MFit own w k v q (ms ++ [{ key := vx, val := vz, born := c }]) (mput k es x z))
  | [], [], i, _ => .inr ⟨rfl, rfl, fun c => ⟨⟨cx, cz, hvx, hvz, hx, hz⟩, trivial⟩⟩
  | m :: ms, (a, b) :: es, i, ⟨⟨kc, vc, h1, h2, h3, h4⟩, h⟩ => by
    simp only [mloc, mfind, mput]
    cases he : eqV k x a
    · simp only [cond_false]
      rcases mloc_some hx hvx hz hvz (i + 1) h with ⟨j, y, m', a', b', vc', r1, r2, r3, r4, r5, r6, r7, r8, r9⟩ | ⟨r1, r2, r3⟩
      · left
        refine ⟨j + 1, y, m', a', b', vc', by rw [r1]; congr 2; omega, by simpa using r2, by simpa using r3, r4, r5, r6, r7, r8, ?_⟩
        rw [List.modify_succ_cons]
        exact ⟨⟨kc, vc, h1, h2, h3, h4⟩, r9⟩
      · exact .inr ⟨r1, r2, fun c => ⟨⟨kc, vc, h1, h2, h3, h4⟩, r3 c⟩⟩
    · left
      refine ⟨0, b, m, a, b, vc, rfl, rfl, rfl, he, rfl, h2, h4, rfl, ?_⟩
      simp only [cond_true, List.modify_zero_cons]
      exact ⟨⟨cx, cz, hvx, hvz, hx, hz⟩, h⟩
  | [], _ :: _, _, h => h.elim
  | _ :: _, [], _, h => h.elim

theorem run_zero {P : Program} {T : TypeId} {j : TI} (hj : TIok P j T) {t : Ty} {z : t.den} (ht : j.zero.t = t) (hz : z = cast (congrArg Ty.den ht) j.zero.x) (hsz : t.agg = j.agg) (w : World) :
    ∃ v cs, (zeroValue T).run P w = .ok v w ∧ litC t z = some cs ∧ IsVal t.agg cs v := by
  subst ht
  obtain ⟨inf, v, cs, h1, h2, h3, h4, h5, h6⟩ := hj.info
  refine ⟨v, cs, by simp [zeroValue, typeInfo, h1, h4], by rw [hz]; exact h5, by rw [hsz]; exact h6⟩

theorem getMap {P : Program} {w : World} {g : Nat} {en : Array MapEntry} {c : Nat} (h : w.heap[g]? = some (.map en c)) : (getObj g).run P w = .ok (.map en c) w := by simp [getObj, Sem.run, h]

theorem lookK_some (hE : EnvOk E) {T kT vT : Nat} (hT : E.P.underlying T = some (.map kT vT)) {O : Obs} {m x : AV} {vm vx : Value} {ok : Bool} {K : AV → Option ρ} {r : ρ} {P : Id → Prop} (hO : Objs own w G O) (hm : AVv own w G m vm) (hx : AVv own w G x vx)
    (h : lookK E O kT vT m x ok K = some r) : ∃ b v, K b = some r ∧ (Instr.lookup T vm vx ok).run E.P w = .ok v w ∧ AVv own w G b v ∧ b.men P := by
  unfold lookK at h
  split at h
  · rename_i o u y
    split at h
    · rename_i tid k v es hl
      obtain ⟨hk, h⟩ := nif_yes h
      obtain ⟨ht, h⟩ := nif_yes h
      obtain ⟨rfl, h⟩ := castD_some h
      unfold tiK at h
      split at h
      · rename_i j hj
        obtain ⟨hjt, h⟩ := castD_some h
        have h : ∃ b, (b = .tp (.v v ((mfind u es y).getD (cast (congrArg Ty.den hjt) j.zero.x))) (.tp (.v .bool (mfind u es y).isSome) .tn) ∧ ok = true ∨ b = .v v ((mfind u es y).getD (cast (congrArg Ty.den hjt) j.zero.x)) ∧ ok = false) ∧ K b = some r := by
          cases ok
          · exact ⟨_, .inr ⟨rfl, rfl⟩, h⟩
          · exact ⟨_, .inl ⟨rfl, rfl⟩, h⟩
        obtain ⟨b, hb, h⟩ := h
        obtain ⟨_, hr⟩ := hO o _ hl
        obtain ⟨he, _⟩ := hm.one rfl rfl
        simp only [List.cons.injEq, and_true] at he
        simp only [Rep, List.cons.injEq, and_true] at hr
        obtain ⟨hkf, hvf, g, en, clock, hv, ho, hg, hl2, hfit⟩ := hr
        rw [hv] at he
        subst he
        obtain ⟨cx, ⟨hpx, hrx⟩, hvx⟩ := hx.cells rfl
        have hF : MFit own w u v ⟨o, [], true⟩ en.toList es := .of (by simpa using hl2) (by simpa using hfit)
        have hfind := findKey_some hE hk ht hrx hvx hF
        have hchk := checkKey_some hE (en.isEmpty) 9992 ht hrx hvx
        have hTI := hE.ti vT j hj
        have hagg : v.agg = j.agg := by rw [← hjt]; exact hTI.za
        obtain ⟨zv, zc, hz1, hz2, hz3⟩ := run_zero hTI hjt rfl hagg w
        have hzr : Rep own w v (cast (congrArg Ty.den hjt) j.zero.x) ⟨o, [], true⟩ zc := litC_rep hz2
        have hS : ∃ u', ((mloc u es en.toList y 0 = none ∧ (mfind u es y).isSome = false ∧ u' = zv) ∨ (∃ n, mloc u es en.toList y 0 = some (n, u') ∧ (mfind u es y).isSome = true)) ∧ ∃ vc, IsVal v.agg vc u' ∧ Rep own w v ((mfind u es y).getD (cast (congrArg Ty.den hjt) j.zero.x)) ⟨o, [], true⟩ vc := by
          have hrx' : Rep own w u y ⟨o, [], true⟩ cx := Rep.plain (Sealed.refl _ _) _ hpx hrx
          rcases mloc_some hrx' hvx hzr hz3 0 hF with ⟨j', y', m', a', b', vc', r1, r2, r3, r4, r5, r6, r7, r8, r9⟩ | ⟨r1, r2, r3⟩
          · exact ⟨m'.val, .inr ⟨_, r1, by rw [r5]; rfl⟩, vc', r6, by rw [r5]; exact r7⟩
          · exact ⟨zv, .inl ⟨r1, by rw [r2]; rfl, rfl⟩, zc, hz3, by rw [r2]; exact hzr⟩
        obtain ⟨u', hu, vc, hvc, hrv⟩ := hS
        have hav : AVv own w G (.v v ((mfind u es y).getD (cast (congrArg Ty.den hjt) j.zero.x))) u' := ⟨vc, ⟨flat_plain hvf, Rep.plain (Sealed.refl _ _) _ (flat_plain hvf) hrv⟩, hvc⟩
        have hrun : (Instr.lookup T (.map (some g)) vx ok).run E.P w = .ok (if ok then .tuple #[u', .bool (mfind u es y).isSome] else u') w := by
          unfold Instr.lookup
          simp only [Sem.run_bind, run_underlying hT, Result.andThen_ok, getMap hg, Sem.run_pure, show (10000 : Nat) = 9992 + 8 from rfl, hchk, hfind]
          rcases hu with ⟨e1, e2, rfl⟩ | ⟨n, e1, e2⟩
          · rw [e1, e2]
            simp only [Sem.run_bind, hz1, Result.andThen_ok, Sem.run_pure]
          · rw [e1, e2]
            simp only [Sem.run_bind, Sem.run_pure, Result.andThen_ok]
        rcases hb with ⟨rfl, rfl⟩ | ⟨rfl, rfl⟩
        · exact ⟨_, _, h, hrun, ⟨u', [.bool _], rfl, hav, ⟨.bool _, [], rfl, .mkBool, rfl⟩⟩, trivial, trivial, trivial⟩
        · exact ⟨_, _, h, hrun, hav, trivial⟩
      · cases h
    · cases h
  · cases h

theorem isVal_det {g : Bool} {cs : List Value} {u v : Value} (h1 : IsVal g cs u) (h2 : IsVal g cs v) : u = v := by
  cases g
  · have h1 : cs = [u] := h1
    have h2 : cs = [v] := h2
    rw [h1] at h2
    simpa using h2
  · have h1 : u = _ := h1
    have h2 : v = _ := h2
    rw [h1, h2]

/-- What is stored is there. -/
theorem mapPutK_some (hE : EnvOk E) {T kT vT : Nat} (hT : E.P.underlying T = some (.map kT vT)) {O : Obs} {m x z : AV} {vm vx vz : Value} {K : Obs → Option ρ} {r : ρ} (hO : Objs own w G O)
    (hbd : ∀ g, w.heap.size ≤ g → own g = .out) (hm : AVv own w G m vm) (hx : AVv own w G x vx) (hz : AVv own w G z vz) (h : mapPutK E O kT m x z K = some r) :
    ∃ O' w', K O' = some r ∧ (Instr.mapUpdate T vm vx vz).run E.P w = .ok () w' ∧ Post own own w w' G G O O' false := by
  unfold mapPutK at h
  split at h
  · rename_i o u y t z
    split at h
    · rename_i tid k v es hl
      obtain ⟨hk, h⟩ := nif_yes h
      obtain ⟨ht, h⟩ := nif_yes h
      obtain ⟨rfl, h⟩ := castD_some h
      obtain ⟨rfl, h⟩ := castD_some h
      rw [putK_eq] at h
      obtain ⟨hn, hr⟩ := hO o _ hl
      have hr0 := hr
      obtain ⟨he, _⟩ := hm.one rfl rfl
      simp only [List.cons.injEq, and_true] at he
      simp only [Rep, List.cons.injEq, and_true] at hr
      obtain ⟨hkf, hvf, g, en, clock, hv, ho, hg, hl2, hfit⟩ := hr
      rw [hv] at he
      subst he
      obtain ⟨cx, ⟨hpx, hrx⟩, hvx⟩ := hx.cells rfl
      obtain ⟨cz, ⟨hpz, hrz⟩, hvz⟩ := hz.cells rfl
      have hF : MFit own w u t ⟨o, [], true⟩ en.toList es := .of (by simpa using hl2) (by simpa using hfit)
      have hfind := findKey_some hE hk ht hrx hvx hF
      have hchk := checkKey_some hE false 9992 ht hrx hvx
      have hrx' : Rep own w u y ⟨o, [], true⟩ cx := Rep.plain (Sealed.refl _ _) _ hpx hrx
      have hrz' : Rep own w t z ⟨o, [], true⟩ cz := Rep.plain (Sealed.refl _ _) _ hpz hrz
      have hset : ∀ (en' : Array MapEntry) (c : Nat), MFit own w u t ⟨o, [], true⟩ en'.toList (mput u es y z) →
          Post own own w { w with heap := w.heap.setIfInBounds g (.map en' c) } G G O (putA O o (.map tid u t (mput u es y z))) false := by
        intro en' c hF'
        have hw : ∀ k, k ≠ g → ({ w with heap := w.heap.setIfInBounds g (.map en' c) } : World).heap[k]? = w.heap[k]? := fun k hk => by
          simp [Array.getElem?_setIfInBounds_ne (Ne.symm hk)]
        refine Post.putW hO hbd hl ho hw (by simp) rfl rfl rfl hn (fun _ => ⟨hn, ?_⟩) (fun _ _ _ a e => by cases e)
        have hs : Sealed own w own { w with heap := w.heap.setIfInBounds g (.map en' c) } := fun k hk => ⟨hk, hw k fun e => by rw [e, ho] at hk; cases hk⟩
        have hlt : g < w.heap.size := (Array.getElem?_eq_some_iff.1 hg).1
        obtain ⟨h1, h2⟩ := hF'.get
        rw [hv]
        refine ⟨hkf, hvf, g, en', c, rfl, ho, by simp [hlt], by simpa using h1, fun i m x h3 h4 => ?_⟩
        obtain ⟨kc, vc, i1, i2, i3, i4⟩ := h2 i m x (by simpa using h3) h4
        exact ⟨kc, vc, i1, i2, Rep.plain hs _ (flat_plain hkf) i3, Rep.plain hs _ (flat_plain hvf) i4⟩
      rcases mloc_some hrx' hvx hrz' hvz 0 hF with ⟨j', y', m', a', b', vc', r1, r2, r3, r4, r5, r6, r7, r8, r9⟩ | ⟨r1, r2, r3⟩
      · refine ⟨_, _, h, ?_, hset (en.modify j' fun e => { e with key := vx, val := vz }) clock (by simpa using r9)⟩
        obtain ⟨kc, vc2, i1, i2, i3, i4⟩ := hfit j' m' (a', b') (by simpa using r2) r3
        have hkey : m'.key = vx := by
          have := keyV_eq hk r4
          subst this
          have hc := Rep.flat_det hkf hrx' i3
          subst hc
          exact isVal_det i1 hvx
        have hsame : Instr.sameBits 10000 vx vx = true := same_val hkf hrx' hvx 9999
        have hj : en[j']? = some m' := by simpa using r2
        unfold Instr.mapUpdate
        simp only [Sem.run_bind, run_underlying hT, Result.andThen_ok, getMap hg, show (10000 : Nat) = 9992 + 8 from rfl, hchk, hfind, r1, Nat.zero_add]
        simp only [hj, Option.map_some, Option.getD_some, hkey, Instr.keyThatStays, hsame, if_true, Sem.run_pure, Result.andThen_ok]
        simp [setObj, Sem.run, hg]
      · refine ⟨_, _, h, ?_, hset (en.push { key := vx, val := vz, born := clock }) (clock + 1) (by simpa using r3 clock)⟩
        unfold Instr.mapUpdate
        simp only [Sem.run_bind, run_underlying hT, Result.andThen_ok, getMap hg, show (10000 : Nat) = 9992 + 8 from rfl, hchk, hfind, r1]
        simp [setObj, Sem.run, hg]
    · cases h
  · cases h

end Go.Pv

/- Operations that leave the objects as they are: what they compute is what the reading says. No condition. -/
namespace Go.Pv
open Go
variable {own own' : Own} {w w' : World} {G G' : Gs} {ρ : Type} {E : Env}

/-- The operands of an operation, as slots and as values. -/
def EvR (own : Own) (w : World) (G : Gs) (P : Id → Prop) (o : Oper) (ev : Operand → AV) (V : Operand → Value) : Prop :=
  (∀ x ∈ o.op.operands.toList, AVv own w G (ev x) (V x) ∧ (ev x).men P) ∧ ∀ v, V (.const v) = v

theorem isNil_some {x : Operand} (h : isNil x = true) : x = .const (.slice none 0 0) := by
  unfold isNil at h
  split at h
  · rfl
  · cases h

theorem chainK_some {P : Id → Prop} : ∀ {l : List Operand} {ev : Operand → AV} {V : Operand → Value} {K : AV → Option ρ} {r : ρ}, (∀ x ∈ l, AVv own w G (ev x) (V x) ∧ (ev x).men P) → chainK (l.map ev) K = some r →
    ∃ a, K a = some r ∧ AVc own w G a (l.map V) ∧ a.men P
  | [], ev, V, K, r, hl, h => ⟨_, h, ⟨rfl, rfl⟩, trivial⟩
  | x :: l, ev, V, K, r, hl, h => by
    simp only [List.map_cons, chainK] at h
    obtain ⟨h1, h⟩ := nif_yes h
    obtain ⟨h2, h⟩ := nif_yes h
    obtain ⟨h3, h⟩ := nif_no h
    obtain ⟨a, h, ha, hm⟩ := chainK_some (fun y hy => hl y (List.mem_cons_of_mem _ hy)) h
    rw [mkPr_eq] at h
    have hx := hl x List.mem_cons_self
    exact ⟨_, h, .mk (hx.1.one (ok_cel h1) h3) ha, .mk hx.2 hm⟩

theorem tiK_some {T : Nat} {K : TI → Option ρ} {r : ρ} (h : tiK E T K = some r) : ∃ i, E.ti T = some i ∧ K i = some r := by
  unfold tiK at h
  split at h
  · exact ⟨_, by assumption, h⟩
  · cases h

theorem convQ_some (hE : EnvOk E) {S D : Nat} {x : AV} {vx : Value} {K : AV → Option ρ} {r : ρ} (hx : AVv own w G x vx) (h : convQ E S D x K = some r) :
    ∃ t z v, K (.v t z) = some r ∧ (convert S D vx).run E.P w = .ok v w ∧ AVv own w G (.v t z) v := by
  unfold convQ at h
  obtain ⟨i, hi, h1⟩ := tiK_some h
  clear h
  obtain ⟨j, hj, h⟩ := tiK_some h1
  clear h1
  obtain ⟨di, hdi, hki, _⟩ := (hE.ti S i hi).und
  obtain ⟨dj, hdj, hkj, _⟩ := (hE.ti D j hj).und
  split at h
  · rename_i k0 k' k n e1 e2
    obtain ⟨rfl, hwx⟩ := hx.int
    rw [e1] at hki
    rw [e2] at hkj
    simp only [TDok] at hki hkj
    subst hki hkj
    refine ⟨_, _, _, h, ?_, .mkInt (wf_wrap _ _)⟩
    simp [convert, run_underlying hdi, run_underlying hdj, Conv.intToInt]
  · rename_i s e1 e2
    obtain ⟨rfl, hwx⟩ := hx.str
    rw [e1] at hki
    rw [e2] at hkj
    simp only [TDok] at hki hkj
    subst hki hkj
    refine ⟨_, _, _, h, ?_, .mkStr hwx⟩
    simp [convert, run_underlying hdi, run_underlying hdj]
  · cases h

theorem wf_max {k : IntKind} {x y : Int} (hx : (Lit.int k x).wf = true) (hy : (Lit.int k y).wf = true) : (Lit.int k (max x y)).wf = true := by
  rcases Int.le_total x y with h | h
  · rw [Int.max_eq_right h]; exact hy
  · rw [Int.max_eq_left h]; exact hx
theorem wf_min {k : IntKind} {x y : Int} (hx : (Lit.int k x).wf = true) (hy : (Lit.int k y).wf = true) : (Lit.int k (min x y)).wf = true := by
  rcases Int.le_total x y with h | h
  · rw [Int.min_eq_left h]; exact hx
  · rw [Int.min_eq_right h]; exact hy

theorem mem_ops {x : Operand} {o : Oper} (h : x ∈ o.op.operands) : x ∈ o.op.operands.toList := Array.mem_toList_iff.2 h

theorem opQ_some (hE : EnvOk E) {o : Oper} {ev : Operand → AV} {V : Operand → Value} {O : Obs} {K : AV → Option ρ} {r : ρ} {P : Id → Prop} (hO : Objs own w G O) (hb : ∀ o c, look O o = some (.box c) → c.men P) (hev : EvR own w G P o ev V)
    (h : opQ E o ev O K = some r) : ∃ a v, K a = some r ∧ (execOp V o).run E.P w = .ok (.value v) w ∧ AVv own w G a v ∧ a.men P := by
  obtain ⟨hx, hc⟩ := hev
  unfold opQ at h
  unfold execOp
  split at h
  · -- move
    rename_i x e
    simp only [e, Op.operands] at hx ⊢
    have := hx x (by simp)
    exact ⟨_, _, h, rfl, this.1, this.2⟩
  · rename_i x e
    simp only [e, Op.operands] at hx ⊢
    have := hx x (by simp)
    exact ⟨_, _, h, rfl, this.1, this.2⟩
  · -- pick
    rename_i c a b e
    simp only [e, Op.operands] at hx ⊢
    have h1 := hx c (by simp)
    have h2 := hx a (by simp)
    have h3 := hx b (by simp)
    split at h
    · rename_i cb hcb
      rw [hcb] at h1
      have hvc := h1.1.bool
      simp only [hvc, asBool, Sem.run_bind, Sem.run_pure, Result.andThen_ok]
      cases cb
      · exact ⟨_, _, h, rfl, h3.1, h3.2⟩
      · exact ⟨_, _, h, rfl, h2.1, h2.2⟩
    · cases h
  · -- load
    rename_i T a e
    simp only [e, Op.operands] at hx ⊢
    have h1 := hx a (by simp)
    obtain ⟨i, hi, h⟩ := tiK_some h
    obtain ⟨b, v, h, hr, hv, hm⟩ := loadK_some hE hi hO hb h1.1 h1.2 h
    exact ⟨b, v, h, by simp only [Sem.run_bind, hr, Result.andThen_ok, Sem.run_pure], hv, hm⟩
  · -- nilCheck
    rename_i x e
    simp only [e, Op.operands] at hx ⊢
    have h1 := hx x (by simp)
    split at h
    · rename_i p1 p2 p3 he
      rw [he] at h1
      obtain ⟨g, hv, hq⟩ := h1.1.one rfl rfl
      simp only [List.cons.injEq, and_true] at hq
      refine ⟨_, V x, h, ?_, h1.1, h1.2⟩
      rw [hq]; simp
    · rename_i p1 p2 p3 p4 he
      rw [he] at h1
      obtain ⟨A, m, c, hv, hi, hq⟩ := h1.1.one rfl rfl
      simp only [List.cons.injEq, and_true] at hq
      refine ⟨_, V x, h, ?_, h1.1, h1.2⟩
      rw [hq]; simp
    · rename_i p1 p2 he
      rw [he] at h1
      obtain ⟨A, c, hv, hq⟩ := h1.1.one rfl rfl
      simp only [List.cons.injEq, and_true] at hq
      refine ⟨_, V x, h, ?_, h1.1, h1.2⟩
      rw [hq]; simp
    · rename_i t y he
      rw [he] at h1
      obtain ⟨hp, hr⟩ := h1.1.one rfl rfl
      simp only [Rep] at hr
      obtain ⟨_, A, ys, hq, _⟩ := hr
      simp only [List.cons.injEq, and_true] at hq
      refine ⟨_, V x, h, ?_, h1.1, h1.2⟩
      rw [hq]; simp
    · cases h
  · -- binOp
    rename_i op T x y yT e
    simp only [e, Op.operands] at hx ⊢
    have h1 := hx x (by simp)
    have h2 := hx y (by simp)
    obtain ⟨t, z, v, h, hr, hv⟩ := binK_some hE x y h1.1 h2.1 h
    exact ⟨_, v, h, by rw [Sem.run_bind, hr]; rfl, hv, trivial⟩
  · -- unOp
    rename_i op T x e
    simp only [e, Op.operands] at hx ⊢
    have h1 := hx x (by simp)
    obtain ⟨t, z, v, h, hr, hv⟩ := unK_some E.P h1.1 h
    exact ⟨_, v, h, by rw [Sem.run_bind, hr]; rfl, hv, trivial⟩
  · -- convert
    rename_i S D x e
    simp only [e, Op.operands] at hx ⊢
    have h1 := hx x (by simp)
    obtain ⟨t, z, v, h, hr, hv⟩ := convQ_some hE h1.1 h
    exact ⟨_, v, h, by rw [Sem.run_bind, hr]; rfl, hv, trivial⟩
  · -- slice
    rename_i T x lo hi e
    simp only [e, Op.operands] at hx ⊢
    have h1 := hx x (by simp)
    obtain ⟨b, v, h, hr, hv, hm⟩ := sliceK_some (vl := lo.map V) (vh := hi.map V) hE hO h1.1 h1.2 (fun a ha => by
      cases lo with
      | none => cases ha
      | some y =>
        simp only [Option.map_some, Option.some.injEq] at ha
        subst ha
        exact ⟨V y, rfl, (hx y (by simp)).1⟩) (fun e => by cases lo with | none => rfl | some y => cases e) (fun a ha => by
      cases hi with
      | none => cases ha
      | some y =>
        simp only [Option.map_some, Option.some.injEq] at ha
        subst ha
        exact ⟨V y, rfl, (hx y (by simp)).1⟩) (fun e => by cases hi with | none => rfl | some y => cases e) h
    exact ⟨b, v, h, by rw [Sem.run_bind, Option.map_none, hr]; rfl, hv, hm⟩
  · -- fieldAddr
    rename_i S x f e
    simp only [e, Op.operands] at hx ⊢
    have h1 := hx x (by simp)
    obtain ⟨b, v, h, hr, hv, hm⟩ := fldAddrK_some hE hO h1.1 h1.2 h
    exact ⟨b, v, h, by rw [Sem.run_bind, hr]; rfl, hv, hm⟩
  · -- field
    rename_i S x f e
    simp only [e, Op.operands] at hx ⊢
    have h1 := hx x (by simp)
    obtain ⟨b, v, h, hr, hv, hm⟩ := fldK_some hE h1.1 h1.2 h
    exact ⟨b, v, h, by rw [Sem.run_bind, hr]; rfl, hv, hm⟩
  · -- indexAddr
    rename_i T x i e
    simp only [e, Op.operands] at hx ⊢
    have h1 := hx x (by simp)
    have h2 := hx i (by simp)
    obtain ⟨t, ht, h⟩ := tiK_some h
    · split at h
      · obtain ⟨el, j, hT, hj, hJ, h⟩ := elemOf_some hE h
        obtain ⟨b, v, h, hr, hv, hm⟩ := idxAddrK_some hT hJ hO h1.1 h2.1 h1.2 h
        exact ⟨b, v, h, by rw [Sem.run_bind, hr]; rfl, hv, hm⟩
      · rename_i n el hd
        obtain ⟨d, hdd, hk, _⟩ := (hE.ti T t ht).und
        rw [hd] at hk
        simp only [TDok] at hk
        subst hk
        obtain ⟨j, hj, h⟩ := tiK_some h
        · obtain ⟨b, v, h, hr, hv, hm⟩ := idxArrK_some hdd (hE.ti el j hj) hO h1.1 h2.1 h1.2 h
          exact ⟨b, v, h, by rw [Sem.run_bind, hr]; rfl, hv, hm⟩
      · cases h
  · -- index
    rename_i T x i e
    simp only [e, Op.operands] at hx ⊢
    have h1 := hx x (by simp)
    have h2 := hx i (by simp)
    obtain ⟨t, ht, h⟩ := tiK_some h
    · split at h
      · rename_i hd
        obtain ⟨z, v, h, hr, hv⟩ := idxK_some hE (T := T) (by unfold isStr; rw [ht]; simp only [hd]) h1.1 h2.1 h
        exact ⟨_, v, h, by rw [Sem.run_bind, hr]; rfl, hv, trivial⟩
      · rename_i n el hd
        obtain ⟨d, hdd, hk, _⟩ := (hE.ti T t ht).und
        rw [hd] at hk
        simp only [TDok] at hk
        subst hk
        obtain ⟨j, hj, h⟩ := tiK_some h
        · obtain ⟨b, v, h, hr, hv, hm⟩ := idxArrV_some (P := P) hdd (hE.ti el j hj) h1.1 h2.1 h
          exact ⟨b, v, h, by rw [Sem.run_bind, hr]; rfl, hv, hm⟩
      · cases h
  · -- lookup
    rename_i T m x ok e
    simp only [e, Op.operands] at hx ⊢
    have h1 := hx m (by simp)
    have h2 := hx x (by simp)
    obtain ⟨kT, vT, hT, h⟩ := mapOf_some hE h
    obtain ⟨b, v, h, hr, hv, hm⟩ := lookK_some (P := P) hE hT hO h1.1 h2.1 h
    exact ⟨b, v, h, by rw [Sem.run_bind, hr]; rfl, hv, hm⟩
  · -- makeFunc
    rename_i f first caps e
    simp only [e, Op.operands] at hx ⊢
    split at h
    · rename_i hf
      have hf : first = #[] := by apply Array.ext'; simpa using hf
      subst hf
      obtain ⟨a, h, ha, hm⟩ := chainK_some (P := P) (V := V) (fun y hy => hx y (by simpa using hy)) h
      refine ⟨_, _, h, ?_, ⟨_, ⟨_, rfl, ha⟩, rfl⟩, hm⟩
      simp [Instr.makeFunc]
      rw [← Array.toList_map]
    · cases h
  · -- extract
    rename_i x i e
    simp only [e, Op.operands] at hx ⊢
    have h1 := hx x (by simp)
    obtain ⟨b, v, h, ⟨vs, hvs, hi⟩, hv, hm⟩ := tupAt_some h1.1 h1.2 h
    refine ⟨b, v, h, ?_, hv, hm⟩
    rw [hvs]
    simp [Instr.extract, hi]
  · -- len
    rename_i args at' e
    simp only [e, Op.operands, Call.operands] at hx ⊢
    split at h
    · rename_i x T l hargs hat
      have hargs : args = #[x] := by apply Array.ext'; simpa using hargs
      have hat0 : at'[0]? = some T := by
        have : at'.toList[0]? = some T := by rw [hat]; rfl
        simpa using this
      subst hargs
      obtain ⟨t, ht, h⟩ := tiK_some h
      · rcases nif_some h with ⟨hn, h⟩ | ⟨hn, h⟩
        · have := isNil_some hn
          subst this
          split at h
          · rename_i el hd
            obtain ⟨d, hdd, hk, _⟩ := (hE.ti T t ht).und
            rw [hd] at hk
            simp only [TDok] at hk
            have := run_len (P := E.P) hdd hat0 o.type (.slice none 0 0) w 0 (.inl ⟨el, none, 0, hk, rfl, by omega⟩)
            refine ⟨_, _, h, ?_, .mkInt (by decide), trivial⟩
            simp [resolve, invoke, builtin, hc, this]
          · cases h
        · have h1 := hx x (by simp)
          obtain ⟨n, h, hw, hr⟩ := lenK_some hE ht hO h1.1 h
          have := hr at' o.type hat0
          refine ⟨_, _, h, ?_, .mkInt hw, trivial⟩
          simp [resolve, invoke, builtin, this]
    · cases h
  · -- max
    rename_i args at' e
    simp only [e, Op.operands, Call.operands] at hx ⊢
    split at h
    · rename_i k x k' y hargs
      obtain ⟨a, b, rfl⟩ : ∃ a b, args = #[a, b] := by
        obtain ⟨l⟩ := args
        have hl : l.length = 2 := by simpa using congrArg List.length hargs
        match l, hl with
        | [a, b], _ => exact ⟨a, b, rfl⟩
      simp only [List.map_cons, List.map_nil, List.cons.injEq, and_true] at hargs
      obtain ⟨hk, h⟩ := nif_yes h
      have hk := ikN_inj hk
      subst hk
      have h1 := hx a (by simp)
      have h2 := hx b (by simp)
      rw [hargs.1] at h1
      rw [hargs.2] at h2
      obtain ⟨e1, w1⟩ := h1.1.int
      obtain ⟨e2, w2⟩ := h2.1.int
      refine ⟨_, _, h, ?_, .mkInt (wf_max w1 w2), trivial⟩
      simp only [resolve, invoke, builtin, List.map_toArray, List.map_cons, List.map_nil, e1, e2, Builtin.max_, List.foldlM_cons, List.foldlM_nil, Builtin.max2, Sem.run_bind, Sem.run_pure, Result.andThen_ok]
      congr 3
      rcases Int.lt_or_le x y with hlt | hle
      · rw [if_pos (by omega), Int.max_eq_right (by omega)]
      · rw [if_neg (by omega), Int.max_eq_left (by omega)]
    · cases h
  · -- min
    rename_i args at' e
    simp only [e, Op.operands, Call.operands] at hx ⊢
    split at h
    · rename_i k x k' y hargs
      obtain ⟨a, b, rfl⟩ : ∃ a b, args = #[a, b] := by
        obtain ⟨l⟩ := args
        have hl : l.length = 2 := by simpa using congrArg List.length hargs
        match l, hl with
        | [a, b], _ => exact ⟨a, b, rfl⟩
      simp only [List.map_cons, List.map_nil, List.cons.injEq, and_true] at hargs
      obtain ⟨hk, h⟩ := nif_yes h
      have hk := ikN_inj hk
      subst hk
      have h1 := hx a (by simp)
      have h2 := hx b (by simp)
      rw [hargs.1] at h1
      rw [hargs.2] at h2
      obtain ⟨e1, w1⟩ := h1.1.int
      obtain ⟨e2, w2⟩ := h2.1.int
      refine ⟨_, _, h, ?_, .mkInt (wf_min w1 w2), trivial⟩
      simp only [resolve, invoke, builtin, List.map_toArray, List.map_cons, List.map_nil, e1, e2, Builtin.min_, List.foldlM_cons, List.foldlM_nil, Builtin.min2, Sem.run_bind, Sem.run_pure, Result.andThen_ok]
      congr 3
      rcases Int.lt_or_le y x with hlt | hle
      · rw [if_pos (by omega), Int.min_eq_right (by omega)]
      · rw [if_neg (by omega), Int.min_eq_left (by omega)]
    · cases h
  · cases h

end Go.Pv

/- Objects that are used up, values that are made: no condition. -/
namespace Go.Pv
open Go
variable {own own' own1 own2 : Own} {w w' w1 w2 : World} {G G' G1 G2 : Gs} {ρ : Type} {E : Env}

/-- Objects in memory; what boxes mention is, or was, an object (P). -/
structure Mem (own : Own) (w : World) (G : Gs) (O : Obs) (P : Id → Prop) : Prop where
  objs : Objs own w G O
  box : ∀ o c, look O o = some (.box c) → c.men P
  live : ∀ o, has O o = true → P o
  bound : ∀ g, w.heap.size ≤ g → own g = .out

theorem Post.mem {O O' : Obs} {b : Bool} {P : Id → Prop} (h : Post own own' w w' G G' O O' b) (hM : Mem own w G O P) : Mem own' w' G' O' fun i => P i ∨ has O' i = true :=
  ⟨h.objs, h.box P hM.box, fun _ ho => .inr ho, h.bound⟩

/-- An object whose blocks are as they were. -/
theorem ObR.stay {P : Id → Prop} {o : Id} {b : Ob} (hs : Sealed own w own' w') (hk : ∀ g s, own g = .ob o s → own' g = .ob o s ∧ w'.heap[g]? = w.heap[g]?) (h : ObR own w G o b) (he : G' o = G o) (hm : ∀ a, b = .box a → a.men P)
    (hG : ∀ i, P i → G' i = G i) : ObR own' w' G' o b := by
  cases b with
  | box a =>
    obtain ⟨hn, g, cur, T, h1, h2, h3, h4⟩ := h
    have hgg := hk g [] h2
    exact ⟨⟨by rw [he]; exact hn.1, hn.2⟩, g, cur, T, by rw [he]; exact h1, hgg.1, hgg.2.trans h3, AVc.keepOk hs hG hn.2 (hm a rfl) h4⟩
  | list tid e xs =>
    obtain ⟨h1, h2, h3⟩ := h
    refine ⟨by rw [he]; exact h1, by rw [he]; exact h2, ?_⟩
    rw [he]
    exact Rep.move hs (Mv.ob fun k r hk' => ⟨by have := (hk k r hk').1; simpa using this, (hk k r hk').2⟩) h3
  | map tid k v es =>
    obtain ⟨h1, h2⟩ := h
    refine ⟨by rw [he]; exact h1, ?_⟩
    rw [he]
    exact Rep.move hs (Mv.obMap fun k r hk' => ⟨by have := (hk k r hk').1; simpa using this, (hk k r hk').2⟩) h2

/-- Some objects are used up; the rest stays. -/
theorem Post.rest {O O1 : Obs} {P : Id → Prop} (hM : Mem own w G O P) (hsub : ∀ o b, look O1 o = some b → look O o = some b) (hs : Sealed own w own1 w1) (hk : ∀ g o s, own g = .ob o s → has O1 o = true → own1 g = .ob o s ∧ w1.heap[g]? = w.heap[g]?)
    (houts : ∀ g, g < w.heap.size → own g = .out → own1 g = .out ∧ w1.heap[g]? = w.heap[g]?) (hbd : ∀ g, w1.heap.size ≤ g → own1 g = .out) (hsz : w.heap.size ≤ w1.heap.size) (hos : w1.os = w.os) (htp : w1.tape = w.tape) (hout : w1.output = w.output) :
    Post own own1 w w1 G G O O1 true where
  objs := fun o b hb => (hM.objs o b (hsub o b hb)).stay (P := fun _ => True) hs (fun g s hg => hk g o s hg (look_has hb)) rfl (fun a _ => vwK_some.AV.men.all a) (fun _ _ => rfl)
  stay := fun h => by cases h
  same := fun _ _ _ => rfl
  nest := fun h => by cases h
  box := fun P hb o c hc => (hb o c (hsub o _ hc)).mono fun i hi => .inl hi
  sealed := hs
  outs := houts
  bound := hbd
  size := hsz
  os := hos
  tape := htp
  output := hout

/-- One thing after the other: the second takes nothing away. -/
theorem Post.thenF {O O1 O2 : Obs} {b : Bool} (h1 : Post own own1 w w1 G G1 O O1 b) (h2 : Post own1 own2 w1 w2 G1 G2 O1 O2 false) (hre : ∀ o, has O o = true → has O2 o = true → has O1 o = true) : Post own own2 w w2 G G2 O O2 b where
  objs := h2.objs
  stay := fun hb o ho => h2.stay rfl o (h1.stay hb o ho)
  same := fun o ho ho2 => (h2.same o (hre o ho ho2) ho2).trans (h1.same o ho (hre o ho ho2))
  nest := fun hb o ho hn A m c hv => by
    have ho1 := h1.stay hb o ho
    have e := h1.same o ho ho1
    exact (h2.nest rfl o ho1 (by rw [e]; exact hn) A m c (by rw [e]; exact hv)).trans (h1.nest hb o ho hn A m c hv)
  box := fun P hb o c hc => (h2.box _ (h1.box P hb) o c hc).mono fun i hi => by
    rcases hi with (hi | hi) | hi
    · exact .inl hi
    · exact .inr (h2.stay rfl i hi)
    · exact .inr hi
  sealed := fun g hg => ⟨(h2.sealed g (h1.sealed g hg).1).1, (h2.sealed g (h1.sealed g hg).1).2.trans (h1.sealed g hg).2⟩
  outs := fun g hl hg => by
    have h3 := h1.outs g hl hg
    have h4 := h2.outs g (Nat.lt_of_lt_of_le hl h1.size) h3.1
    exact ⟨h4.1, h4.2.trans h3.2⟩
  bound := h2.bound
  size := Nat.le_trans h1.size h2.size
  os := h2.os.trans h1.os
  tape := h2.tape.trans h1.tape
  output := h2.output.trans h1.output

/-! ### A value at a root becomes slots and objects -/
/-- What is under a root is sealed. -/
def sealOwn (own : Own) (r : Id) : Own := fun g => match own g with
  | .ob j s => nif (pre r j) .sh (.ob j s)
  | l => l
theorem Sl.under {r : Id} : ∀ {t : Ty} {p : Pos}, pre r p.id = true → Sl own w (sealOwn own r) w t p
  | .int _, _, _ => trivial
  | .bool, _, _ => trivial
  | .str, _, _ => trivial
  | .unit, _, _ => trivial
  | .slc _, _, _ => trivial
  | .sptr _, _, _ => trivial
  | .hole _, _, _ => trivial
  | .arr _ _, _, _ => trivial
  | .nmap, _, _ => trivial
  | .hdr, _, _ => trivial
  | .clo _ _, _, _ => trivial
  | .mp _ _ _, _, _ => trivial
  | .pair a b, p, h => ⟨Sl.under (go h 0), Sl.under (go h 1)⟩
  | .own _ e, p, h => ⟨fun g hg => ⟨by simp only [sealOwn, hg, Pos.lb, h]; rfl, rfl⟩, fun i => Sl.under (p := p.el i) h⟩
  | .bx t, p, h => ⟨fun g hg => ⟨by simp only [sealOwn, hg, Pos.lb, h]; rfl, rfl⟩, Sl.under (go h 2)⟩
where
  go {r : Id} {p : Pos} (h : pre r p.id = true) (i : Nat) : pre r (p.go i).id = true := by
    obtain ⟨id, sub, top⟩ := p
    cases top
    · exact h
    · obtain ⟨c, hc⟩ := pre_iff.1 h
      have hc : id = r ++ c := hc
      exact pre_iff.2 ⟨c ++ [i], by subst hc; simp [Pos.go]⟩

theorem seal_post {O : Obs} {r : Id} {P : Id → Prop} (hM : Mem own w G O P) (hr : ∀ o, pre r o = true → ¬P o) : Post own (sealOwn own r) w w G G O O false where
  objs := fun o b hb => (hM.objs o b hb).stay (P := fun _ => True) (fun g hg => ⟨by simp only [sealOwn, hg], rfl⟩) (fun g s hg => ⟨by
      have : pre r o = false := by
        cases e : pre r o
        · rfl
        · exact (hr o e (hM.live o (look_has hb))).elim
      simp only [sealOwn, hg, this]; rfl, rfl⟩) rfl (fun a _ => vwK_some.AV.men.all a) (fun _ _ => rfl)
  stay := fun _ _ h => h
  same := fun _ _ _ => rfl
  nest := fun _ _ _ _ _ _ _ _ => rfl
  box := fun P hb o c hc => (hb o c hc).mono fun _ h => .inl h
  sealed := fun g hg => ⟨by simp only [sealOwn, hg], rfl⟩
  outs := fun g _ hg => ⟨by simp only [sealOwn, hg], rfl⟩
  bound := fun g hg => by simp only [sealOwn, hM.bound g hg]
  size := Nat.le_refl _
  os := rfl
  tape := rfl
  output := rfl

/-- A value that lies at a root. -/
theorem mkK_some {f d : Nat} {i : Id} {O : Obs} {t : Ty} {x : t.den} {cs : List Value} {K : AV → Obs → Option ρ} {r : ρ} {P : Id → Prop} (hM : Mem own w G O P) (hr : ∀ o, pre i o = true → ¬P o) (hc : Rep own w t x ⟨i, [], true⟩ cs) (h : mkK E f d i O t x K = some r) :
    ∃ a O' G' own', K a O' = some r ∧ AVc own' w G' a cs ∧ Post own own' w w G G' O O' false ∧ (a.men fun o => has O' o = true) ∧ (∀ o, has O' o = true → has O o = true ∨ pre i o = true) ∧ a.ok = true ∧ a.size = t.size ∧ (∀ o, has O o = true → look O' o = look O o) ∧ (∀ g o s, own g = .ob o s → pre i o = false → own' g = .ob o s) := by
  unfold mkK at h
  rcases nif_some h with ⟨_, h⟩ | ⟨_, h⟩
  · obtain ⟨hp, h⟩ := nif_yes h
    refine ⟨_, O, G, sealOwn own i, h, ⟨hp, ?_⟩, seal_post hM hr, trivial, fun o ho => .inl ho, rfl, sh_size t, fun _ _ => rfl, fun g o s hg hp => by simp only [sealOwn, hg, hp]; rfl⟩
    exact Rep.sealUp (seal_post hM hr).sealed _ hp (Sl.under (p := ⟨i, [], true⟩) (pre_self i)) hc
  · obtain ⟨a, O', G', hk, u⟩ := unpK_some (P := P) hc hM.objs hM.box hr h
    refine ⟨a, O', G', own, hk, u.rep, u.post hM.bound (fun o ho => Bool.eq_false_iff.2 fun e => hr o ho (hM.live o e)), u.men.mono fun _ h => h.1, fun o ho => ?_, u.ok, ?_, u.more.kept, fun _ _ _ hg _ => hg⟩
    · cases e : pre i o
      · left
        rw [← has_of_look (u.more.same o e).2]; exact ho
      · exact .inr rfl
    · exact u.rep.length.symm.trans hc.length

/-! ### Rows of cells and lists -/
def Elems (own : Own) (w : World) (e : Ty) (p : Nat → Pos) (xs : List e.den) (cells : List Value) : Prop := ∀ (i : Nat) (y : e.den), xs[i]? = some y → Rep own w e y (p i) ((cells.drop (i * e.size)).take e.size)

theorem own_of_row {tid : Nat} {e : Ty} {xs : List e.den} {p : Pos} {v : Value} {cells : List Value} {base : Nat} (h : w.ownsRow base tid e.size v xs.length cells) (hl : ∀ g, v.ownBlock = some g → own g = p.lb) (he : Elems own w e p.el xs cells) :
    Rep own w (.own tid e) xs p [v] := by
  obtain ⟨hlen, ⟨rfl, h0⟩ | ⟨g, cap, cur, rfl, _, hg, hc, hm, hsz, htake⟩⟩ := h
  · exact .inl ⟨rfl, h0⟩
  · refine .inr ⟨g, cap, cur, rfl, hl g rfl, hg, hc, hm, hsz, fun i y hy => ?_⟩
    have := he i y hy
    rw [← htake] at this
    have hi := (List.getElem?_eq_some_iff.1 hy).1
    have h1 : i * e.size + e.size ≤ xs.length * e.size := by
      have := Nat.mul_le_mul_right e.size (Nat.succ_le_of_lt hi)
      rw [Nat.succ_mul] at this; exact this
    rw [List.drop_take, List.take_take, Nat.min_eq_left (by omega)] at this
    exact this

theorem row_of_own {tid : Nat} {e : Ty} {xs : List e.den} {p : Pos} {v : Value} (h : Rep own w (.own tid e) xs p [v]) :
    ∃ cells, w.ownsRow 0 tid e.size v xs.length cells ∧ (∀ g, v.ownBlock = some g → own g = p.lb) ∧ Elems own w e p.el xs cells := by
  simp only [Rep, List.cons.injEq, and_true] at h
  rcases h with ⟨rfl, h0⟩ | ⟨g, cap, cur, rfl, ho, hg, hc, hm, hsz, he⟩
  · refine ⟨[], ⟨by rw [h0]; simp, .inl ⟨rfl, h0⟩⟩, fun g hg => (nomatch hg), fun i y hy => ?_⟩
    rw [List.getElem?_eq_none (by omega)] at hy
    cases hy
  · have hle : xs.length * e.size ≤ cur.size := by rw [hsz]; exact Nat.mul_le_mul_right _ hc
    refine ⟨cur.toList.take (xs.length * e.size), ⟨by rw [List.length_take, Array.length_toList]; exact Nat.min_eq_left hle, .inr ⟨g, cap, cur, rfl, Nat.zero_le _, hg, hc, hm, hsz, rfl⟩⟩, fun k hk => by cases hk; exact ho, fun i y hy => ?_⟩
    have hi := (List.getElem?_eq_some_iff.1 hy).1
    have h1 : i * e.size + e.size ≤ xs.length * e.size := by
      have := Nat.mul_le_mul_right e.size (Nat.succ_le_of_lt hi)
      rw [Nat.succ_mul] at this; exact this
    rw [List.drop_take, List.take_take, Nat.min_eq_left (by omega)]
    exact he i y hy

theorem Elems.app {e : Ty} {p q : Nat → Pos} {xs ys : List e.den} {c1 c2 : List Value} (h1 : Elems own w e p xs c1) (h2 : Elems own w e q ys c2) (hl : c1.length = xs.length * e.size) (hq : ∀ i, p (xs.length + i) = q i) : Elems own w e p (xs ++ ys) (c1 ++ c2) := by
  intro i y hy
  by_cases hi : i < xs.length
  · rw [List.getElem?_append_left hi] at hy
    have h3 : i * e.size + e.size ≤ c1.length := by
      have := Nat.mul_le_mul_right e.size (Nat.succ_le_of_lt hi)
      rw [Nat.succ_mul] at this; omega
    have := h1 i y hy
    rw [List.drop_append_of_le_length (by omega), List.take_append_of_le_length (by rw [List.length_drop]; omega)]
    exact this
  · rw [List.getElem?_append_right (by omega)] at hy
    have := h2 (i - xs.length) y hy
    rw [← hq] at this
    rw [show xs.length + (i - xs.length) = i by omega] at this
    have e1 : i * e.size = c1.length + (i - xs.length) * e.size := by
      rw [hl, ← Nat.add_mul]; congr 1; omega
    rw [e1, ← List.drop_drop, List.drop_left]
    exact this

theorem Elems.moveTo {e : Ty} {p q : Nat → Pos} {xs : List e.den} {cells : List Value} (hs : Sealed own w own' w') (hm : ∀ i, i < xs.length → Mv own w own' w' e (p i) (q i)) (h : Elems own w e p xs cells) : Elems own' w' e q xs cells :=
  fun i y hy => Rep.move hs (hm i (List.getElem?_eq_some_iff.1 hy).1) (h i y hy)
theorem Elems.plainTo {e : Ty} {p q : Nat → Pos} {xs : List e.den} {cells : List Value} (hs : Sealed own w own' w') (he : e.plain = true) (h : Elems own w e p xs cells) : Elems own' w' e q xs cells :=
  fun i y hy => Rep.plain hs _ he (h i y hy)

end Go.Pv

/- A list of lists: an element is put anew. No condition. -/
namespace Go.Pv
open Go
variable {own own' own1 own2 : Own} {w w' w1 w2 : World} {G G' G1 G2 : Gs} {ρ : Type} {E : Env}

theorem pkK_cel : ∀ {a : AV} {O : Obs} {K : (t : Ty) → t.den → Obs → Option ρ} {r : ρ}, pkK a O K = some r → a.cel = true
  | .v t x, _, _, _, _ => rfl
  | .hole n, _, _, _, _ => rfl
  | .pr a b, _, _, _, _ => rfl
  | .ref o, _, _, _, _ => rfl
  | .dead, _, _, _, h => by simp only [pkK] at h; cases h
  | .tn, _, _, _, h => by simp only [pkK] at h; cases h
  | .tp _ _, _, _, _, h => by simp only [pkK] at h; cases h
  | .hs _ _ _, _, _, _, h => by simp only [pkK] at h; cases h
  | .p _ _ _, _, _, _, h => by simp only [pkK] at h; cases h
  | .e _ _ _ _, _, _, _, h => by simp only [pkK] at h; cases h
  | .s _ _, _, _, _, h => by simp only [pkK] at h; cases h
  | .ap _ _, _, _, _, h => by simp only [pkK] at h; cases h
  | .cl _ _, _, _, _, h => by simp only [pkK] at h; cases h

/-- The blocks when x becomes element j of the list o: those of the old element are nobody's any more. -/
def nestOwn (own : Own) (x : AV) (o : Id) (j : Nat) : Own := fun g => match own g with
  | .ob q s => match x.rel ⟨o, [j], false⟩ q s with
    | some l => l
    | none => match s with
      | k :: _ => nif (idEq q o) (nif (Nat.beq k j) .sh (.ob q s)) (.ob q s)
      | [] => .ob q s
  | l => l

theorem store_nest {T : TypeId} {P : Program} {i : TI} (hi : TIok P i T) {O : Obs} {P0 : Id → Prop} (hM : Mem own w G O P0) {o : Id} {j tid : Nat} {e : Ty} {xs : List e.den} {y : e.den} {x : AV} {va vx : Value} {K : (t : Ty) → t.den → Obs → Option ρ} {r : ρ}
    (ha : AVv own w G (.e o j [] 0) va) (hx : AVv own w G x vx) (hs1 : x.size = i.size) (hs2 : x.agg = i.agg) (hl : look O o = some (.list tid e xs)) (hpl : e.plain = false) (hy : xs[j]? = some y) (h : pkK x O K = some r) :
    ∃ u z O1, K u z O1 = some r ∧ ∀ hue : u = e, has O1 o = true → ∃ own' w', (Instr.storeAt T va vx).run P w = .ok () w' ∧ Post own own' w w' G G O (putA O1 o (.list tid e (xs.set j (cast (congrArg Ty.den hue) z)))) true := by
  obtain ⟨hsz, hn, hr⟩ := hM.objs o _ hl
  obtain ⟨A, m, c, hv, hj, he⟩ := (ha.one rfl rfl)
  simp only [List.cons.injEq, and_true] at he
  subst he
  rw [hv] at hr
  simp only [Rep, List.cons.injEq, and_true, Value.slice.injEq, Option.some.injEq, reduceCtorEq, false_and, false_or] at hr
  obtain ⟨g, cap, cur, ⟨rfl, rfl, rfl⟩, ho, hg, hc1, hc2, hc3, hel⟩ := hr
  have ho : own g = .ob o [] := ho
  have hel : ∀ (i : Nat) (y : e.den), xs[i]? = some y → Rep own w e y ⟨o, [i], false⟩ ((cur.toList.drop (i * e.size)).take e.size) := hel
  obtain ⟨cs, hxc, hxv⟩ := hx.cells (pkK_cel h)
  obtain ⟨u, z, O1, hk, hless, hdis, hrep⟩ := pkK_some hxc hM.objs h
  refine ⟨u, z, O1, hk, fun hue ho1 => ?_⟩
  subst hue
  have hno : ¬x.rf o := fun hf => by
    obtain ⟨b, hb⟩ := has_look.1 ho1
    rw [hless.gone o hf] at hb; cases hb
  have hrel : ∀ s, x.rel ⟨o, [j], false⟩ o s = none := fun s => AV.rel_none hno
  have hmv : Mvs own w (nestOwn own x o j) w x ⟨o, [j], false⟩ := Mvs.of hdis fun g i s l hg hl => ⟨by simp only [nestOwn, hg, hl], rfl⟩
  have hs0 : Sealed own w (nestOwn own x o j) w := fun k hk => ⟨by simp only [nestOwn, hk], rfl⟩
  have hes : cs.length = u.size := by
    have := (hrep hs0 hmv).length
    exact this
  have hjs : j * u.size + u.size ≤ cur.size := by
    have := Nat.mul_le_mul_right u.size (show j + 1 ≤ c by omega)
    rw [Nat.succ_mul] at this
    omega
  rw [hs2] at hxv
  have hst := run_storeVar (P := P) (o := j * u.size + 0) hi hg hxv hxc.one (hxc.length.trans hs1) (by omega)
  have hw : ∀ k, k ≠ g → (w.setRow g (cur.toList.take (j * u.size + 0) ++ cs ++ cur.toList.drop (j * u.size + 0 + cs.length)).toArray).heap[k]? = w.heap[k]? := fun k hk => setRow_other w g k _ hk
  have hgo : nestOwn own x o j g = .ob o [] := by simp only [nestOwn, ho, hrel]
  refine ⟨nestOwn own x o j, _, by rw [hsz, add_row, add_row, Nat.zero_add]; exact hst, ?_⟩
  generalize hw' : w.setRow g (cur.toList.take (j * u.size + 0) ++ cs ++ cur.toList.drop (j * u.size + 0 + cs.length)).toArray = w' at hw
  have hsz' : w'.heap.size = w.heap.size := by rw [← hw', setRow_size]
  have hs : Sealed own w (nestOwn own x o j) w' := fun k hk => ⟨(hs0 k hk).1, hw k fun e => by rw [e, ho] at hk; cases hk⟩
  have hkeep : ∀ o', o' ≠ o → ¬x.rf o' → ∀ k s, own k = .ob o' s → nestOwn own x o j k = .ob o' s ∧ w'.heap[k]? = w.heap[k]? := fun o' hne hnf k s hk => by
    refine ⟨?_, hw k fun e => by rw [e, ho] at hk; cases hk; exact hne rfl⟩
    simp only [nestOwn, hk, AV.rel_none hnf, idEq_ne hne]
    cases s <;> rfl
  refine ⟨?_, fun h => (by cases h), fun _ _ _ => rfl, fun h => (by cases h), ?_, hs, ?_, ?_, by rw [hsz']; exact Nat.le_refl _, by rw [← hw']; rfl, by rw [← hw']; rfl, by rw [← hw']; rfl⟩
  · intro o' b hb
    rw [look_put _ _ _ _ ho1] at hb
    by_cases hoo : o' = o
    · subst hoo
      rw [if_pos rfl] at hb
      cases hb
      refine ⟨hsz, hn, ?_⟩
      rw [hv]
      refine .inr ⟨g, c, (cur.toList.take (j * u.size + 0) ++ cs ++ cur.toList.drop (j * u.size + 0 + cs.length)).toArray, by rw [List.length_set], hgo, ?_, by rw [List.length_set]; exact hc1, hc2, ?_, ?_⟩
      · rw [← hw']
        exact setRow_heap w g cur _ tid _ hg
      · simp only [List.size_toArray, List.length_append, List.length_take, List.length_drop, Array.length_toList]
        omega
      · intro q y' hq
        show Rep _ w' u y' ⟨o', [q], false⟩ _
        simp only [Nat.add_zero]
        rw [hes]
        by_cases hqj : q = j
        · subst hqj
          rw [seg_self _ _ _ _ hes (by rw [Array.length_toList]; exact hjs)]
          rw [List.getElem?_set_self (List.getElem?_eq_some_iff.1 hy).1] at hq
          cases hq
          refine hrep hs (Mvs.of hdis fun k i s l hk hl => ⟨by simp only [nestOwn, hk, hl], hw k fun e => ?_⟩)
          rw [e, ho] at hk
          cases hk
          rw [hrel] at hl; cases hl
        · rw [seg_other _ _ _ _ _ hes (by rw [Array.length_toList]; exact hjs) hqj]
          rw [List.getElem?_set_ne (Ne.symm hqj)] at hq
          refine Rep.move hs (Mv.sub fun k s hk => ⟨?_, hw k fun e => ?_⟩) (hel q y' hq)
          · have hb : Nat.beq q j = false := by
              cases e : Nat.beq q j
              · rfl
              · exact absurd (Nat.eq_of_beq_eq_true e) hqj
            simp only [nestOwn, hk, hrel, List.cons_append, List.nil_append, idEq_self, hb]
            rfl
          · rw [e, ho] at hk
            cases hk
    · rw [if_neg hoo] at hb
      by_cases hf : x.rf o'
      · rw [hless.gone o' hf] at hb; cases hb
      · rw [hless.kept o' hf] at hb
        exact (hM.objs o' b hb).stay (P := fun _ => True) hs (hkeep o' hoo hf) rfl (fun a _ => vwK_some.AV.men.all a) (fun _ _ => rfl)
  · intro P hb o' c' hc
    rw [look_put _ _ _ _ ho1] at hc
    split at hc
    · cases hc
    · by_cases hf : x.rf o'
      · rw [hless.gone o' hf] at hc; cases hc
      · rw [hless.kept o' hf] at hc
        exact (hb o' c' hc).mono fun i hi => .inl hi
  · intro k _ hk
    exact ⟨by simp only [nestOwn, hk], hw k fun e => by rw [e, ho] at hk; cases hk⟩
  · intro k hk
    rw [hsz'] at hk
    simp only [nestOwn, hM.bound k hk]

end Go.Pv

/- Operations that make objects: no condition. -/
namespace Go.Pv
open Go
variable {own own' own1 own2 : Own} {w w' w1 w2 : World} {G G' G1 G2 : Gs} {ρ : Type} {E : Env}

/-- What an operation comes to, in memory. -/
structure Made (own : Own) (w : World) (G : Gs) (O : Obs) (own' : Own) (w' : World) (G' : Gs) (O' : Obs) (b : Bool) (a : AV) (v : Value) : Prop where
  val : AVv own' w' G' a v
  men : a.men fun o => has O' o = true
  post : Post own own' w w' G G' O O' b

theorem zero_cells {P : Program} {T : TypeId} {j : TI} (hj : TIok P j T) : ∃ z cs, (∀ w, (zeroValue T).run P w = .ok z w) ∧ litC j.zero.t j.zero.x = some cs ∧ IsVal j.agg cs z := by
  obtain ⟨inf, z, cs, h1, h2, h3, h4, h5, h6⟩ := hj.info
  exact ⟨z, cs, fun w => by simp [zeroValue, typeInfo, h1, h4], h5, h6⟩

theorem AVc.toV {a : AV} {cs : List Value} {v : Value} {g : Bool} (h : AVc own w G a cs) (hg : a.agg = g) (hv : IsVal g cs v) : AVv own w G a v := .of h (by rw [hg]; exact hv)

/-- Kinds of parts agree. -/
theorem unp_agg : ∀ {t : Ty} {x : t.den} {r : Id} {O : Obs} {K : AV → Obs → Option ρ} {res : ρ}, unpK t x r O K = some res → ∃ a O', K a O' = some res ∧ a.agg = t.agg ∧ (∀ {ρ' : Type} (K' : AV → Obs → Option ρ'), unpK t x r O K' = K' a O')
  | .int k, x, r, O, K, res, h => ⟨_, _, h, rfl, fun _ => rfl⟩
  | .bool, x, r, O, K, res, h => ⟨_, _, h, rfl, fun _ => rfl⟩
  | .str, x, r, O, K, res, h => ⟨_, _, h, rfl, fun _ => rfl⟩
  | .unit, x, r, O, K, res, h => ⟨_, _, h, rfl, fun _ => rfl⟩
  | .hole n, x, r, O, K, res, h => ⟨_, _, h, rfl, fun _ => rfl⟩
  | .nmap, x, r, O, K, res, h => ⟨_, _, h, rfl, fun _ => rfl⟩
  | .hdr, x, r, O, K, res, h => ⟨_, _, h, rfl, fun _ => rfl⟩
  | .slc e, x, r, O, K, res, h => by
    simp only [unpK] at h ⊢
    obtain ⟨hp, h⟩ := nif_yes h
    rw [hp]
    exact ⟨_, _, h, rfl, fun _ => rfl⟩
  | .sptr e, x, r, O, K, res, h => by
    simp only [unpK] at h ⊢
    obtain ⟨hp, h⟩ := nif_yes h
    rw [hp]
    exact ⟨_, _, h, rfl, fun _ => rfl⟩
  | .arr n e, x, r, O, K, res, h => by
    simp only [unpK] at h ⊢
    obtain ⟨hp, h⟩ := nif_yes h
    rw [hp]
    exact ⟨_, _, h, rfl, fun _ => rfl⟩
  | .clo n e, x, r, O, K, res, h => by
    simp only [unpK] at h ⊢
    obtain ⟨hp, h⟩ := nif_yes h
    rw [hp]
    exact ⟨_, _, h, rfl, fun _ => rfl⟩
  | .own tid e, x, r, O, K, res, h => by
    simp only [unpK, newK] at h ⊢
    obtain ⟨hp, h⟩ := nif_no h
    rw [hp]
    exact ⟨_, _, h, rfl, fun _ => rfl⟩
  | .mp tid k v, x, r, O, K, res, h => by
    simp only [unpK, newK] at h ⊢
    obtain ⟨hp, h⟩ := nif_no h
    rw [hp]
    exact ⟨_, _, h, rfl, fun _ => rfl⟩
  | .bx t, x, r, O, K, res, h => by
    simp only [unpK, newK] at h ⊢
    obtain ⟨a, O1, h, ha, he⟩ := unp_agg h
    obtain ⟨hp, h⟩ := nif_no h
    refine ⟨_, _, h, rfl, fun K' => ?_⟩
    rw [he, hp]
    rfl
  | .pair t u, x, r, O, K, res, h => by
    simp only [unpK] at h ⊢
    obtain ⟨a, O1, h, ha, he⟩ := unp_agg h
    obtain ⟨b, O2, h, hb, he2⟩ := unp_agg h
    rw [mkPr_eq] at h
    refine ⟨_, _, h, mkA_agg _ _, fun K' => ?_⟩
    rw [he, he2, mkPr_eq]

theorem sh_agg : ∀ t : Ty, t.sh.agg = t.agg := by
  intro t
  cases t <;> rfl

theorem mk_agg {f d : Nat} {i : Id} {O : Obs} {t : Ty} {x : t.den} {K : AV → Obs → Option ρ} {r : ρ} (h : mkK E f d i O t x K = some r) :
    ∃ a O', K a O' = some r ∧ a.agg = t.agg ∧ ∀ {ρ' : Type} (K' : AV → Obs → Option ρ'), mkK E f d i O t x K' = K' a O' := by
  unfold mkK at h ⊢
  rcases nif_some h with ⟨h1, h⟩ | ⟨h1, h⟩
  · obtain ⟨h2, h⟩ := nif_yes h
    exact ⟨_, _, h, sh_agg t, fun K' => by rw [h1, h2]; rfl⟩
  · obtain ⟨a, O', h, ha, he⟩ := unp_agg h
    exact ⟨a, O', h, ha, fun K' => by rw [h1]; exact he K'⟩

/-- The value at a root, as one value. -/
theorem mkV_some {f d : Nat} {i : Id} {O : Obs} {t : Ty} {x : t.den} {cs : List Value} {v : Value} {K : AV → Obs → Option ρ} {r : ρ} {P : Id → Prop} (hM : Mem own w G O P) (hr : ∀ o, pre i o = true → ¬P o) (hc : Rep own w t x ⟨i, [], true⟩ cs) (hv : IsVal t.agg cs v) (h : mkK E f d i O t x K = some r) :
    ∃ a O' G' own', K a O' = some r ∧ Made own w G O own' w G' O' false a v ∧ AVc own' w G' a cs ∧ (∀ o, has O' o = true → has O o = true ∨ pre i o = true) ∧ a.ok = true ∧ a.size = t.size ∧ a.agg = t.agg ∧ (∀ o, has O o = true → look O' o = look O o) ∧ (∀ g o s, own g = .ob o s → pre i o = false → own' g = .ob o s) := by
  obtain ⟨a, O', h1, hg, he⟩ := mk_agg h
  obtain ⟨a', O'', G', own', h2, h3, h4, h5, h6, h7, h8, h9⟩ := mkK_some (E := E) (f := f) (d := d) (K := fun a1 O1 => nif true (some (a1, O1)) none) (r := (a, O')) hM hr hc (by rw [he]; rfl)
  cases h2
  exact ⟨a, O', G', own', h1, ⟨h3.toV hg hv, h5, h4⟩, h3, h6, h7, h8, hg, h9⟩

theorem mkLitV_some {f d : Nat} {i : Id} {O : Obs} {t : Ty} {x : t.den} {cs : List Value} {v : Value} {K : AV → Obs → Option ρ} {r : ρ} {P : Id → Prop} (hM : Mem own w G O P) (hr : ∀ o, pre i o = true → ¬P o) (hc : litC t x = some cs) (hv : IsVal t.agg cs v) (h : mkK E f d i O t x K = some r) :
    ∃ a O' G' own', K a O' = some r ∧ Made own w G O own' w G' O' false a v ∧ AVc own' w G' a cs ∧ (∀ o, has O' o = true → has O o = true ∨ pre i o = true) ∧ a.ok = true ∧ a.size = t.size ∧ a.agg = t.agg ∧ (∀ o, has O o = true → look O' o = look O o) ∧ (∀ g o s, own g = .ob o s → pre i o = false → own' g = .ob o s) :=
  mkV_some hM hr (litC_rep hc) hv h

/-- A new box for a value that is there. -/
theorem newBox_some {O : Obs} {r : Id} {a : AV} {cs : List Value} {T : TypeId} {K : Obs → Option ρ} {res : ρ} {P : Id → Prop} (hM : Mem own w G O P) (hr : ¬P r) (hc : AVc own w G a cs) (hok : a.ok = true) (hm : a.men fun o => has O o = true) (h : newK O r (.box a) K = some res) :
    ∃ own' G', K ((r, .box a) :: O) = some res ∧ Made own w G O own' (w.alloc (.cells cs.toArray T)) G' ((r, .box a) :: O) false (.p r [] 0) (.pointer (some ⟨w.heap.size, 0, none⟩)) := by
  obtain ⟨hn, h⟩ := newK_some h
  refine ⟨_, _, h, ⟨⟨_, ⟨w.heap.size, by rw [gput_self], rfl⟩, rfl⟩, ?_, Post.alloc (l := .ob r []) (x := ⟨.pointer (some ⟨w.heap.size, 0, none⟩), 0, false⟩) (Q := P) hM.objs hM.box hr hM.bound hn ?_ (fun a e => by cases e; exact hm)⟩⟩
  · exact (has_new _ _ _ _).2 (.inl rfl)
  · refine ⟨⟨by rw [gput_self], hok⟩, w.heap.size, cs.toArray, T, by rw [gput_self], if_pos rfl, by simp, ?_⟩
    refine AVc.keepOk (P := fun o => has O o = true) (grows_alloc hM.bound _ _).sealed (fun o ho => gput_ne _ _ ?_) hok hm hc
    rintro rfl; rw [hn] at ho; cases ho

theorem newVar_run (P : Program) (T : TypeId) (v : Value) (w : World) : (newVar T v).run P w = .ok ⟨w.heap.size, 0, none⟩ (w.alloc (.cells v.cells T)) := by
  simp [newVar, newRow, newObj, Sem.run]

theorem allocK_some (hE : EnvOk E) {f d : Nat} {O : Obs} {T : Nat} {K : AV → Obs → Option ρ} {r : ρ} {P : Id → Prop} (hM : Mem own w G O P) (hr : ∀ o, pre [d] o = true → ¬P o) (h : allocK E f d O T K = some r) :
    ∃ a O' own' w' G' v, K a O' = some r ∧ (Instr.alloc T true (.tuple #[])).run E.P w = .ok v w' ∧ Made own w G O own' w' G' O' false a v := by
  unfold allocK at h
  obtain ⟨j, hj, h⟩ := tiK_some h
  have hJ := hE.ti T j hj
  obtain ⟨z, cs, hz, hcs, hv⟩ := zero_cells hJ
  have hrun : (Instr.alloc T true (.tuple #[])).run E.P w = .ok (.pointer (some ⟨w.heap.size, 0, none⟩)) (w.alloc (.cells cs.toArray T)) := by
    have hc1 := hv.cells (litC_rep (own := own) (w := w) (p := ⟨[], [], true⟩) hcs).one
    unfold Instr.alloc
    simp only [Sem.run_bind, hz, Result.andThen_ok, newVar_run, hc1, Sem.run_pure]
  split at h
  · rename_i n e xs hq
    obtain ⟨hp, h⟩ := nif_yes h
    obtain ⟨hn', h⟩ := nif_yes h
    have hn' := Nat.le_of_ble_eq_true hn'
    obtain ⟨hn, h⟩ := newK_some h
    rw [hq] at hcs
    have hR := litC_rep (own := own) (w := w) (p := ⟨[], [], true⟩) hcs
    simp only [Rep] at hR
    obtain ⟨_, hl, hl2, h1, hel⟩ := hR
    refine ⟨_, _, oput own w.heap.size (.ob [d] []), _, gput G [d] ⟨.slice (some ⟨w.heap.size, 0, none⟩) n n, e.size, !e.plain⟩, _, h, hrun, ⟨⟨_, ⟨⟨w.heap.size, 0, none⟩, n, by rw [gput_self], rfl⟩, rfl⟩, (has_new _ _ _ _).2 (.inl rfl), ?_⟩⟩
    refine Post.alloc (Q := P) hM.objs hM.box (hr _ (pre_self _)) hM.bound hn ?_ (fun a e => by cases e)
    refine ⟨by rw [gput_self], by rw [gput_self], ?_⟩
    rw [gput_self]
    refine .inr ⟨w.heap.size, n, cs.toArray, by rw [hl], if_pos rfl, by simp, by omega, by simp only [maxLen]; omega, by simpa using hl2, fun i y hy => ?_⟩
    exact Rep.plain (grows_alloc hM.bound _ _).sealed _ hp (hel i y hy)
  · unfold zeroK at h
    obtain ⟨j', hj', h⟩ := tiK_some h
    rw [hj] at hj'
    cases hj'
    have hr1 : ∀ o, pre [d, 1] o = true → ¬P o := fun o ho => hr o (pre_app [d] [1] o ho)
    obtain ⟨a, O1, G1, own1, h, hmade, hac, hid, hok, hsz, hag, _⟩ := mkLitV_some hM hr1 hcs (v := z) (by rw [hJ.za]; exact hv) h
    have hno : ¬(P [d] ∨ has O1 [d] = true) := by
      rintro (h1 | h1)
      · exact hr _ (pre_self _) h1
      · rcases hid _ h1 with h2 | h2
        · exact hr _ (pre_self _) (hM.live _ h2)
        · have := pre_iff.1 h2
          obtain ⟨c, hc⟩ := this
          have := congrArg List.length hc
          simp at this
    obtain ⟨own2, G2, h, hm2⟩ := newBox_some (T := T) (hmade.post.mem hM) hno hac hok hmade.men h
    refine ⟨_, _, own2, _, G2, _, h, hrun, ⟨hm2.val, hm2.men, hmade.post.thenF hm2.post fun o ho _ => hmade.post.stay rfl o ho⟩⟩

theorem box_some {d T : Nat} {O : Obs} {a : AV} {va : Value} {K : Obs → Option ρ} {r : ρ} {P : Id → Prop} (hM : Mem own w G O P) (hr : ¬P [d]) (ha : AVv own w G a va) (hm : a.men fun o => has O o = true) (hok : a.ok = true)
    (h : newK O [d] (.box a) K = some r) :
    ∃ own' w' G' v, K (([d], .box a) :: O) = some r ∧ (Instr.box T va).run E.P w = .ok v w' ∧ Made own w G O own' w' G' (([d], .box a) :: O) false (.p [d] [] 0) v := by
  obtain ⟨cs, hc, hv⟩ := ha.cells (ok_cel hok)
  obtain ⟨own2, G2, h, hm2⟩ := newBox_some (T := T) hM hr hc hok hm h
  refine ⟨own2, _, G2, _, h, ?_, hm2⟩
  unfold Instr.box
  simp only [Sem.run_bind, newVar_run, Result.andThen_ok, hv.cells hc.one, Sem.run_pure]

/-- A new block for a list at a root. -/
theorem newRow_rep {tid : TypeId} {e : Ty} {xs : List e.den} {r : Id} {cells : List Value} {O : Obs} {own1 : Own} {P : Id → Prop} (hM : Mem own1 w G O P) (hl : cells.length = xs.length * e.size) (hm : xs.length ≤ maxLen)
    (he : Elems own1 w e (fun i => ⟨r, [i], false⟩) xs cells) :
    Rep (oput own1 w.heap.size (.ob r [])) (w.alloc (.cells cells.toArray tid)) (.own tid e) xs ⟨r, [], true⟩ [.slice (some ⟨w.heap.size, 0, none⟩) xs.length xs.length] ∧
      Post own1 (oput own1 w.heap.size (.ob r [])) w (w.alloc (.cells cells.toArray tid)) G G O O false := by
  have hg := grows_alloc hM.bound (.cells cells.toArray tid) (.ob r [])
  constructor
  · refine .inr ⟨w.heap.size, xs.length, cells.toArray, rfl, if_pos rfl, heap_alloc_new w _, Nat.le_refl _, hm, by simpa using hl, fun i y hy => ?_⟩
    refine Rep.move hg.sealed ?_ (he i y hy)
    refine Mv.sub fun g q hq => ?_
    have := hg g (by rw [hq]; intro e; cases e)
    exact ⟨this.1.trans hq, this.2⟩
  · refine ⟨?_, fun _ _ h => h, fun _ _ _ => rfl, fun _ o ho hn A m c hv => ?_, fun Q hb o c hc => (hb o c hc).mono fun _ h => .inl h, hg.sealed, fun g hlt ho => ⟨by rw [oput, if_neg (by omega)]; exact ho, heap_alloc_old w _ hlt⟩, fun g hge => ?_, by simp, rfl, rfl, rfl⟩
    · exact fun o b hb => (hM.objs o b hb).grow (P := fun _ => True) hg rfl (fun a _ => vwK_some.AV.men.all a) fun _ _ => rfl
    · have h1 := own_list hM.objs ho hn hv
      exact (hg _ (by rw [h1]; intro e; cases e)).2
    · simp at hge
      rw [oput, if_neg (by omega)]
      exact hM.bound g (by omega)

end Go.Pv

/- Literals of structs and of slices, make: no condition. -/
namespace Go.Pv
open Go Go.Great
variable {own own' own1 own2 : Own} {w w' w1 w2 : World} {G G' G1 G2 : Gs} {ρ : Type} {E : Env}

/-! ### Structs -/
theorem fill_splice {c1 c2 c3 ds : List Value} (hl : c2.length = ds.length) :
    ds.zipIdx.foldl (fun cs (x : Value × Nat) => cs.setIfInBounds (c1.length + x.2) x.1) (c1 ++ (c2 ++ c3)).toArray = (c1 ++ (ds ++ c3)).toArray := by
  obtain ⟨h1, h2⟩ := foldl_set c1.length ds 0 (c1 ++ (c2 ++ c3)).toArray
  apply Array.ext_getElem?
  intro k
  rw [h2 k]
  simp only [List.size_toArray, List.length_append, List.getElem?_toArray, Nat.add_zero]
  by_cases hk : k < c1.length
  · rw [if_neg (by omega), List.getElem?_append_left hk, List.getElem?_append_left hk]
  · rw [List.getElem?_append_right (by omega), List.getElem?_append_right (l₁ := c1) (l₂ := ds ++ c3) (by omega)]
    by_cases hk2 : k < c1.length + ds.length
    · rw [if_pos (by omega), List.getElem?_append_left (l₁ := ds) (by omega)]
    · rw [if_neg (by omega), List.getElem?_append_right (by omega), List.getElem?_append_right (l₁ := ds) (by omega), hl]

theorem places_some {P : Program} : ∀ {fs : List Field}, (∀ f ∈ fs, ∃ j, TIok P j f.type) → ∃ places, fs.mapM (fun f => (P.info? f.type).map fun i => (f.offset, i.size)) = some places ∧
    ∀ (k : Nat) (f : Field) (j : TI), fs[k]? = some f → TIok P j f.type → places[k]? = some (f.offset, j.size)
  | [], _ => ⟨[], rfl, fun k f j h _ => by simp at h⟩
  | f :: fs, h => by
    obtain ⟨places, h1, h2⟩ := places_some (fs := fs) fun g hg => h g (List.mem_cons_of_mem _ hg)
    obtain ⟨j, hj⟩ := h f List.mem_cons_self
    obtain ⟨inf, z, cs, i1, i2, i3, i4, i5, i6⟩ := hj.info
    refine ⟨(f.offset, inf.size) :: places, by simp [List.mapM_cons, i1, h1], fun k g j' hg hj' => ?_⟩
    cases k with
    | zero =>
      simp only [List.getElem?_cons_zero, Option.some.injEq] at hg
      subst hg
      obtain ⟨inf', z', cs', k1, k2, _⟩ := hj'.info
      rw [i1] at k1
      cases k1
      simp [k2]
    | succ k => exact h2 k g j' (by simpa using hg) hj'

theorem partsK_some (hE : EnvOk E) {T : Nat} {fields : Array Field} (hT : E.P.underlying T = some (.struct fields)) {place : Nat → Option (Nat × Nat)} (hp : ∀ (k : Nat) (f : Field) (j : TI), fields[k]? = some f → TIok E.P j f.type → place k = some (f.offset, j.size))
    {ev : Operand → AV} {V : Operand → Value} {P : Id → Prop} : ∀ {l : List (Nat × Operand)} {a : AV} {cs : List Value} {K : AV → Option ρ} {r : ρ}, (∀ x ∈ l.map (·.2), AVv own w G (ev x) (V x) ∧ (ev x).men P) → AVc own w G a cs → a.men P → a.agg = true → partsK E T ev a l K = some r →
      ∃ b ds, K b = some r ∧ Instr.fill place cs.toArray (l.map fun x => (x.1, V x.2)) = some ds.toArray ∧ AVc own w G b ds ∧ b.men P ∧ b.agg = true
  | [], a, cs, K, r, hx, ha, hm, hg, h => ⟨a, cs, h, rfl, ha, hm, hg⟩
  | (i, x) :: l, a, cs, K, r, hx, ha, hm, hg, h => by
    simp only [partsK] at h
    obtain ⟨fields', fd, j, hT', hfd, hj, hsz, hoff, h0, h⟩ := fitFld_some hE h
    rw [hT] at hT'
    cases hT'
    have hx1 := hx x (by simp)
    rw [hsz] at h
    obtain ⟨hxs, h⟩ := nif_yes h
    have hxs := beq_nat hxs
    obtain ⟨b0, h, hagg0, h'⟩ := setF_agg h
    obtain ⟨ds, hds⟩ : ∃ ds, (ev x).ok = true → AVc own w G (ev x) ds ∧ IsVal (ev x).agg ds (V x) := by
      cases hok : (ev x).ok
      · exact ⟨[], fun e => by cases e⟩
      · obtain ⟨cs, h1, h2⟩ := hx1.1.cells (ok_cel hok)
        exact ⟨cs, fun _ => ⟨h1, h2⟩⟩
    obtain ⟨b, c1, c2, c3, hbb, hok, rfl, hlen, hl2, hb, hbm, hbs, hoo⟩ := setF_some (P := P) ha hm (fun e => (hds e).1) hx1.2 h'
    cases hbb
    obtain ⟨hxc, hxv⟩ := hds hok
    have hagg : b0.agg = true := hagg0 (by cases i <;> simp [fld])
    obtain ⟨b', ds', h, hf, hb', hbm', hg'⟩ := partsK_some hE hT hp (fun y hy => hx y (List.mem_cons_of_mem _ hy)) hb hbm hagg h
    refine ⟨b', ds', h, ?_, hb', hbm', hg'⟩
    have hc := hxv.cells hxc.one
    simp only [List.map_cons, Instr.fill, hp i fd j hfd hj]
    have hdl : ds.length = j.size := hxc.length.trans hxs
    rw [hc]
    simp only [List.size_toArray, hdl, ne_eq, not_true_eq_false, Bool.or_eq_true, decide_eq_true_eq, false_or]
    rw [if_neg (by simp only [List.length_append]; omega)]
    rw [← hoff, ← hlen, Array.zipIdx_toArray]
    have := fill_splice (c1 := c1) (c2 := c2) (c3 := c3) (ds := ds) hl2
    simpa [this] using hf

/-- Operands stay what they are. -/
theorem AVv.post {O O' : Obs} {a : AV} {v : Value} (hp : Post own own' w w' G G' O O' false) (ha : AVv own w G a v) (hm : a.men fun o => has O o = true) : AVv own' w' G' a v ∧ a.men fun o => has O' o = true :=
  ⟨AVv.keep hp.sealed (P := fun o => has O o = true) (fun o ho => ⟨hp.same o ho (hp.stay rfl o ho), hp.nest rfl o ho⟩) hm ha, hm.mono fun o ho => hp.stay rfl o ho⟩

theorem allTi_some (hE : EnvOk E) : ∀ {fs : List (Nat × Nat)}, allTi E fs = true → ∀ q ∈ fs, ∃ j, TIok E.P j q.2
  | [], _, _, hq => by simp at hq
  | (o, T) :: fs, h, q, hq => by
    simp only [allTi] at h
    split at h
    · rename_i j hj
      rcases List.mem_cons.1 hq with rfl | hq
      · exact ⟨j, hE.ti T j hj⟩
      · exact allTi_some hE h q hq
    · cases h

theorem build_some (hE : EnvOk E) {d T : Nat} {i : TI} (hi : E.ti T = some i) {fs : List (Nat × Nat)} (hd : i.d = .struct fs) (hall : allTi E fs = true) {O : Obs} {P : Id → Prop} (hM : Mem own w G O P) (hr : ∀ o, pre [d] o = true → ¬P o) {ps : Array (Nat × Operand)} {ev : Operand → AV} {V : Operand → Value}
    (hx : ∀ x ∈ ps.toList.map (·.2), AVv own w G (ev x) (V x) ∧ (ev x).men fun o => has O o = true) {K : AV → Obs → Option ρ} {r : ρ} (h : unpK i.zero.t i.zero.x [d, 1] O (fun a O' => partsK E T ev a ps.toList fun b => K b O') = some r) :
    ∃ a O' G' v, K a O' = some r ∧ (Instr.build T (ps.map fun (i, x) => (i, V x))).run E.P w = .ok v w ∧ Made own w G O own w G' O' false a v := by
  have hI := hE.ti T i hi
  obtain ⟨dd, hdd, hk, hg⟩ := hI.und
  rw [hd] at hk
  obtain ⟨fields, rfl, hfs⟩ := hk
  have hg : i.agg = true := hg
  obtain ⟨inf, z, cs, h1, h2, h3, h4, h5, h6⟩ := hI.info
  rw [hg] at h6
  have h6 : z = .agg cs.toArray := h6
  subst h6
  have hr1 : ∀ o, pre [d, 1] o = true → ¬P o := fun o ho => hr o (pre_app [d] [1] o ho)
  obtain ⟨a, O1, h, hag, he⟩ := unp_agg h
  obtain ⟨a', O', G', hk, u⟩ := unpK_some (K := fun a1 O1 => some (a1, O1)) (res := (a, O1)) (P := P) (litC_rep (own := own) (w := w) (p := ⟨[d, 1], [], true⟩) h5) hM.objs hM.box hr1 (he _)
  cases hk
  have hp := u.post hM.bound (fun o ho => Bool.eq_false_iff.2 fun e => hr1 o ho (hM.live o e))
  obtain ⟨places, hpl, hpl2⟩ := places_some (P := E.P) (fs := fields.toList) fun f hf => by
    obtain ⟨j, hj⟩ := allTi_some hE hall (f.offset, f.type) (by rw [← hfs]; exact List.mem_map.2 ⟨f, hf, rfl⟩)
    exact ⟨j, hj⟩
  obtain ⟨b, ds, h, hf, hb, hbm, hbg⟩ := partsK_some hE hdd (place := fun k => places[k]?) (fun k f j hk hj => hpl2 k f j (by simpa using hk) hj) (P := fun o => has O1 o = true) (V := V)
    (fun x hx' => AVv.post hp (hx x hx').1 (hx x hx').2) u.rep (u.men.mono fun _ h => h.1) (by rw [hag, hI.za, hg]) h
  refine ⟨b, O1, G', .agg ds.toArray, h, run_build w T _ _ ?_, ⟨.of hb (by rw [hbg]; rfl), hbm, hp⟩⟩
  unfold Program.built
  simp only [h1, hdd, h4, hpl, Value.cells]
  simpa using hf

/-! ### Slices -/
theorem madeCells_seg {z : List Value} {s n i : Nat} (hz : z.length = s) (hi : i < n) : ((madeCells z.toArray (n * s)).toList.drop (i * s)).take s = z := by
  apply List.ext_getElem?
  intro k
  rw [List.getElem?_take]
  split
  · rename_i hk
    have h1 : i * s + s ≤ n * s := by
      have := Nat.mul_le_mul_right s (Nat.succ_le_of_lt hi)
      rw [Nat.succ_mul] at this; exact this
    rw [List.getElem?_drop]
    simp only [madeCells, Array.toList_map, Array.toList_range, List.getElem?_map]
    rw [List.getElem?_range (by omega)]
    have h2 : (i * s + k) % s = k := by rw [Nat.mul_comm, Nat.mul_add_mod, Nat.mod_eq_of_lt hk]
    simp only [Option.map_some, List.size_toArray, hz, h2]
    rw [List.getElem?_eq_getElem (by omega)]
    simp [hz, hk]
  · rename_i hk
    rw [List.getElem?_eq_none (by omega)]

theorem makeSlice_some {f d T e : Nat} {j : TI} (hT : E.P.underlying T = some (.slice e)) (hj : TIok E.P j e) {O : Obs} {P : Id → Prop} (hM : Mem own w G O P) (hr : ∀ o, pre [d] o = true → ¬P o) {n : Int} (h0 : 0 ≤ n) (hb : n * j.bytes ≤ 281474976710656) (hw : (Lit.int .i64 n).wf = true)
    {K : AV → Obs → Option ρ} {r : ρ} (h : mkK E f d [d] O (.own e j.zero.t) (List.replicate n.toNat j.zero.x) K = some r) :
    ∃ a O' own' w' G' v, K a O' = some r ∧ (Instr.makeSlice T (.int .i64 n) (.int .i64 n)).run E.P w = .ok v w' ∧ Made own w G O own' w' G' O' false a v := by
  obtain ⟨inf, z, cs, h1, h2, h3, h4, h5, h6⟩ := hj.info
  have hlit := litC_rep (own := own) (w := w) (p := ⟨[], [], true⟩) h5
  have hzl : cs.length = j.zero.t.size := hlit.length
  have hzc : z.cells = cs.toArray := h6.cells hlit.one
  have hmax : n ≤ 9223372036854775807 := by
    simp only [Lit.wf, Bool.and_eq_true, decide_eq_true_eq] at hw
    have : IntKind.i64.max = 9223372036854775807 := rfl
    omega
  have hrun := run_make (P := E.P) w T e inf z hT h1 h4 .i64 .i64 n n h0 (Int.le_refl _) (by rw [h3, Int.mul_comm]; exact hb) hmax
  rw [h2, ← hj.zt, hzc] at hrun
  obtain ⟨hrep, hpost⟩ := newRow_rep (tid := e) (e := j.zero.t) (xs := List.replicate n.toNat j.zero.x) (r := [d]) (cells := (madeCells cs.toArray (n.toNat * j.zero.t.size)).toList) hM (by rw [Array.length_toList, size_madeCells, List.length_replicate]) (by rw [List.length_replicate]; simp only [maxLen]; omega) (fun i y hy => by
    have hi : i < n.toNat := by have := (List.getElem?_eq_some_iff.1 hy).1; simpa using this
    rw [madeCells_seg hzl hi]
    have : y = j.zero.x := by
      rw [List.getElem?_replicate, if_pos hi] at hy
      exact (Option.some.inj hy).symm
    rw [this]
    exact litC_rep h5)
  rw [List.length_replicate, Array.toArray_toList] at hrep
  rw [Array.toArray_toList] at hrep hpost
  obtain ⟨a, O', G', own', h, hmade, _⟩ := mkV_some (P := P) ⟨hpost.objs, fun o c hc => hM.box o c hc, hM.live, hpost.bound⟩ hr hrep rfl h
  exact ⟨a, O', own', _, G', _, h, hrun, hmade.val, hmade.men, hpost.thenF hmade.post fun o ho _ => ho⟩

end Go.Pv
