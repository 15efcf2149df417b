/- Starts and what is left behind a run: both sides answer the same. Its condition: no list is longer than a law looks at. -/
import Derived.Test.YtafgkoelefpacaaPfA6
import Derived.Test.YtafgkoelefpacaaPfA8
set_option maxHeartbeats 2000000
set_option linter.all false
namespace Go.Proofs.Ytafgkoelefpacaa.Pf
open Go Go.Pv
def WAt (l : List Int) (ins : List Ip) (i : Nat) : Prop := ∀ (h : i < l.length) (h2 : i < ins.length), 0 ≤ l[i] ∧ l[i] ≤ ins[i].1
def WFrom (l : List Int) (ins : List Ip) (j : Nat) : Prop := ∀ i, j ≤ i → WAt l ins i
def Within (l : List Int) (ins : List Ip) : Prop := l.length = ins.length ∧ WFrom l ins 0
theorem w_end {l : List Int} {ins : List Ip} {j : Nat} (h : l.length ≤ j) : WFrom l ins j := fun i h1 h2 => by omega
theorem w_no {l : List Int} {ins : List Ip} {j : Nat} (h : ¬ WAt l ins j) : ¬ WFrom l ins j := fun e => h (e j (Nat.le_refl _))
theorem w_next {l : List Int} {ins : List Ip} {j : Nat} (h : WAt l ins j) : WFrom l ins j ↔ WFrom l ins (j + 1) := by
  constructor
  · exact fun e i hi => e i (by omega)
  · intro e i hi
    rcases Nat.lt_or_ge j i with h1 | h1
    · exact e i h1
    · obtain rfl : i = j := by omega
      exact h
theorem within_loop (l : List Int) (ins : List Ip) (hl : l.length = ins.length) (hs : l.length ≤ 1048576) : ∀ (d j : Nat), l.length - j = d → Tq (d + 1) (fun k q => impl_within.L0 (cl k) k l ins q (j : Int)) (· = ((bo (WFrom l ins j), ()), ())) := by
  intro d
  induction d with
  | zero =>
    intro j hd
    refine Tq.succ ?_
    show Tq _ (fun k q => impl_within.step0 (cl k) k ..) _
    unfold impl_within.step0
    repeat' ((first | refine .t ?_ | refine .u ?_ | refine .some lg0 ?_ | refine .some lg ?_ | refine .some lgI ?_ | (refine .bif (fun zz => ?_) (fun zz => ?_) <;> try simp (disch := omega) only [zs, w64, zt] at zz)) <;> try dsimp only)
    rw [bo_t (w_end (by omega))]
    exact Tq.ret rfl
  | succ d ih =>
    intro j hd
    have hj : j < l.length := by omega
    refine Tq.succ ?_
    show Tq _ (fun k q => impl_within.step0 (cl k) k ..) _
    unfold impl_within.step0
    repeat' ((first | refine .t ?_ | refine .u ?_ | refine .some lg0 ?_ | refine .some lg ?_ | refine .some lgI ?_ | (refine .bif (fun zz => ?_) (fun zz => ?_) <;> try simp (disch := omega) only [zs, w64, zt] at zz)) <;> try dsimp only)
    · rw [bo_f (w_no (fun e => by have := e hj (by omega); omega))]
      exact Tq.ret rfl
    · rw [bo_f (w_no (fun e => by have := e hj (by omega); omega))]
      exact Tq.ret rfl
    · rw [ws hj (by omega), bo_congr (w_next (fun _ _ => ⟨by omega, by omega⟩))]
      exact ih (j + 1) (by omega)
theorem within_ans (l : List Int) (ins : List Ip) (hs : l.length ≤ 1048576) (hi : ins.length ≤ 1048576) : Ans n_impl_within s_impl_within (l, ins, ()) ((bo (Within l ins), ()), ()) := by
  refine Gv.ans (Gv.of (fun k => impl_within.F_eq (cl k) k l ins) ?_)
  unfold impl_within.F impl_within.Fm
  by_cases h : l.length = ins.length
  · unfold Within
    rw [bo_congr (and_iff_right h)]
    refine Tq.bf (bne_eq_false_iff_eq.2 (by omega)) ?_
    exact Tq.diag (within_loop l ins h hs _ 0 rfl)
  · rw [bo_f (fun e => h e.1)]
    exact Tq.bt (bne_iff_ne.2 (by omega)) (Tq.ret rfl)
/-! ### Starts -/
def zer (n : Int) : List Int := List.replicate n.toNat 0
def startV (p : Pg) (l s : List Int) : ET := (l ++ s ++ zer p.2.2.2.1, p.2.2.2.2.1.map zer, ())
theorem bbt {a : Int} {n c : Nat} (h0 : 0 ≤ a) (h : n ≤ c) : (decide (0 ≤ a) && decide (n ≤ c)) = true := by
  rw [decide_eq_true h0, decide_eq_true h]; rfl
theorem by23 : ti23.bytes = 24 := rfl
theorem map_drop {a : List Int} {j : Nat} (hj : j < a.length) : (a.drop j).map zer = zer a[j] :: (a.drop (j + 1)).map zer := by
  rw [List.drop_eq_getElem_cons hj]; rfl
theorem startAt_ans {p : Pg} (hp : Hd p) {l s : List Int} (hl : l.length ≤ 1048576) (hs : s.length ≤ 1048576) : Ans n_impl_startAt s_impl_startAt (p, l, s, ()) ((startV p l s, ()), ()) := by
  have hb := hp.b
  have hr := hp.r.2
  refine Gv.ans (Gv.of (fun k => impl_startAt.F_eq (cl k) k p l s) ?_)
  unfold impl_startAt.F impl_startAt.Fm
  refine Tq.bt (apb (by rw [by2]; omega)) (Tq.bt (apb (by rw [by2, List.nil_append]; omega)) (Tq.bt (bbt (by omega) (by rw [by2, List.nil_append, List.length_append]; omega)) ?_))
  have key : ∀ (d j : Nat) (acc : List (List Int)), p.2.2.2.2.1.length - j = d → acc.length = j → Tq (d + 1) (fun k q => impl_startAt.L0 (cl k) k p l s q (j : Int) acc) (· = (((l ++ s ++ zer p.2.2.2.1, acc ++ (p.2.2.2.2.1.drop j).map zer, ()), ()), ())) := by
    intro d
    induction d with
    | zero =>
      intro j acc hd hj
      refine Tq.succ ?_
      show Tq _ (fun k q => impl_startAt.step0 (cl k) k ..) _
      unfold impl_startAt.step0
      repeat' ((first | refine .t ?_ | refine .u ?_ | refine .some lg0 ?_ | refine .some lg ?_ | refine .some lgI ?_ | (refine .bif (fun zz => ?_) (fun zz => ?_) <;> try simp (disch := omega) only [zs, w64, zt] at zz)) <;> try dsimp only)
      rw [List.drop_of_length_le (by omega), List.map_nil, List.append_nil]
      exact Tq.ret rfl
    | succ d ih =>
      intro j acc hd hj
      have hj2 : j < p.2.2.2.2.1.length := by omega
      have h6 := hr _ (List.getElem_mem hj2)
      refine Tq.succ ?_
      show Tq _ (fun k q => impl_startAt.step0 (cl k) k ..) _
      unfold impl_startAt.step0
      refine Tq.bt (dlt hj2) (Tq.bt (dle0 _) (Tq.some (lg hj2) (Tq.bt (mkI (by omega) (by show _ * 8 ≤ _; omega)) (Tq.bt (apb (by rw [by23]; simp only [List.length_cons, List.length_nil]; omega)) ?_))))
      rw [ws hj2 (by omega), map_drop hj2]
      have := ih (j + 1) (acc ++ [zer p.2.2.2.2.1[j]]) (by omega) (by simp [hj])
      rw [List.append_assoc acc, List.singleton_append] at this
      exact this
  have := key _ 0 [] rfl rfl
  rw [List.nil_append] at this
  exact Tq.diag this
def StOk2 (p : Pg) (l s : List Int) : Prop := IsOk p ∧ Within l p.2.1 ∧ Within s p.2.2.1
noncomputable def stA (p : Pg) (l s : List Int) : ET × (Bool × Unit) := bif bo (StOk2 p l s) then (startV p l s, true, ()) else (([], [], ()), false, ())
theorem iStart_ans {p : Pg} (hsm : Small p) {l s : List Int} (hl : l.length ≤ 1048576) (hs : s.length ≤ 1048576) : Ans n_impl_StartOf s_impl_StartOf (p, l, s, ()) ((stA p l s), ()) := by
  refine Gv.ans (Gv.of (fun k => impl_StartOf.F_eq (cl k) k p l s) ?_)
  unfold impl_StartOf.F impl_StartOf.Fm
  have h1 := iOk_ans p hsm
  have h2 := within_ans l p.2.1 hl hsm.1
  have h3 := within_ans s p.2.2.1 hs hsm.2.1
  unfold stA
  by_cases c1 : IsOk p
  · have c1' := c1
    obtain ⟨t, ht⟩ := c1'
    have h4 := startAt_ans ht.hd hl hs
    rw [bo_t c1] at h1
    by_cases c2 : Within l p.2.1
    · rw [bo_t c2] at h2
      by_cases c3 : Within s p.2.2.1
      · rw [bo_t c3] at h3
        rw [bo_t ⟨c1, c2, c3⟩]
        exact Tq.ba h1 (Tq.bf rfl (Tq.ba h2 (Tq.bf rfl (Tq.ba h3 (Tq.bf rfl (Tq.ba h4 (Tq.ret rfl)))))))
      · rw [bo_f c3] at h3
        rw [bo_f (fun e => c3 e.2.2)]
        exact Tq.ba h1 (Tq.bf rfl (Tq.ba h2 (Tq.bf rfl (Tq.ba h3 (Tq.bt rfl (Tq.ret rfl))))))
    · rw [bo_f c2] at h2
      rw [bo_f (fun e => c2 e.2.1)]
      exact Tq.ba h1 (Tq.bf rfl (Tq.ba h2 (Tq.bt rfl (Tq.ret rfl))))
  · rw [bo_f c1] at h1
    rw [bo_f (fun e => c1 e.1)]
    exact Tq.ba h1 (Tq.bt rfl (Tq.ret rfl))
theorem sStart_ans {p : Pg} (hsm : Small p) {l s : List Int} (hl : l.length ≤ 1048576) (hs : s.length ≤ 1048576) : Ans n_spec_StartOf s_spec_StartOf (p, l, s, ()) ((stA p l s), ()) := by
  refine Gv.ans (Gv.of (fun k => spec_StartOf.F_eq (cl k) k p l s) ?_)
  unfold spec_StartOf.F spec_StartOf.Fm
  have h1 := sOk_ans p hsm
  by_cases c1 : IsOk p
  case neg =>
    rw [bo_f c1] at h1
    unfold stA
    rw [bo_f (fun e => c1 e.1)]
    exact Tq.ba h1 (Tq.bt rfl (Tq.ret rfl))
  have c1' := c1
  obtain ⟨t, ht⟩ := c1'
  have hp := ht.hd
  have hb := hp.b
  have hr := hp.r.2
  rw [bo_t c1] at h1
  refine Tq.ba h1 (Tq.bf rfl ?_)
  by_cases cl1 : l.length = p.2.1.length
  case neg =>
    unfold stA
    rw [bo_f (fun e => cl1 e.2.1.1)]
    exact Tq.bt (bne_iff_ne.2 (by omega)) (Tq.ret rfl)
  refine Tq.bf (bne_eq_false_iff_eq.2 (by omega)) ?_
  by_cases cl2 : s.length = p.2.2.1.length
  case neg =>
    unfold stA
    rw [bo_f (fun e => cl2 e.2.2.1)]
    exact Tq.bt (bne_iff_ne.2 (by omega)) (Tq.ret rfl)
  refine Tq.bf (bne_eq_false_iff_eq.2 (by omega)) ?_
  have k2 : ∀ (V : List Int) (d j : Nat) (acc : List (List Int)), p.2.2.2.2.1.length - j = d → acc.length = j → Tq (d + 1) (fun k q => spec_StartOf.L2 (cl k) k p V q (j : Int) acc) (· = (((V ++ zer p.2.2.2.1, acc ++ (p.2.2.2.2.1.drop j).map zer, ()), true, ()), ())) := by
    intro V d
    induction d with
    | zero =>
      intro j acc hd hj
      refine Tq.succ ?_
      show Tq _ (fun k q => spec_StartOf.step2 (cl k) k ..) _
      unfold spec_StartOf.step2
      repeat' ((first | refine .t ?_ | refine .u ?_ | refine .some lg0 ?_ | refine .some lg ?_ | refine .some lgI ?_ | (refine .bif (fun zz => ?_) (fun zz => ?_) <;> try simp (disch := omega) only [zs, w64, zt] at zz)) <;> try dsimp only)
      rw [List.drop_of_length_le (by omega), List.map_nil, List.append_nil]
      exact Tq.ret rfl
    | succ d ih =>
      intro j acc hd hj
      have hj2 : j < p.2.2.2.2.1.length := by omega
      have h6 := hr _ (List.getElem_mem hj2)
      refine Tq.succ ?_
      show Tq _ (fun k q => spec_StartOf.step2 (cl k) k ..) _
      unfold spec_StartOf.step2
      refine Tq.bt (dlt hj2) (Tq.bt (dle0 _) (Tq.some (lg hj2) (Tq.bt (mkI (by omega) (by show _ * 8 ≤ _; omega)) (Tq.bt (apb (by rw [by23]; simp only [List.length_cons, List.length_nil]; omega)) ?_))))
      rw [ws hj2 (by omega), map_drop hj2]
      have := ih (j + 1) (acc ++ [zer p.2.2.2.2.1[j]]) (by omega) (by simp [hj])
      rw [List.append_assoc acc, List.singleton_append] at this
      exact this
  have k1 : ∀ (d j : Nat) (V : List Int), s.length - j = d → V.length ≤ 10 → V.length + d ≤ 10 → Tq (d + 1) (fun k q => spec_StartOf.L1 (cl k) k p s q (j : Int) V)
      (· = ((bif bo (WFrom s p.2.2.1 j) then ((V ++ s.drop j ++ zer p.2.2.2.1, p.2.2.2.2.1.map zer, ()), true, ()) else (([], [], ()), false, ())), ())) := by
    intro d
    induction d with
    | zero =>
      intro j V hd hV _
      refine Tq.succ ?_
      show Tq _ (fun k q => spec_StartOf.step1 (cl k) k ..) _
      unfold spec_StartOf.step1
      rw [bo_t (w_end (by omega)), List.drop_of_length_le (by omega), List.append_nil]
      refine Tq.bf (dnlt (by omega)) (Tq.bt (bbt (by omega) (by rw [by2]; omega)) ?_)
      have := k2 V _ 0 [] rfl rfl
      rw [List.nil_append] at this
      exact Tq.diag this
    | succ d ih =>
      intro j V hd hV hV2
      have hj : j < s.length := by omega
      refine Tq.succ ?_
      show Tq _ (fun k q => spec_StartOf.step1 (cl k) k ..) _
      unfold spec_StartOf.step1
      repeat' ((first | refine .ba (l1In_ans _ _ _) ?_ | (refine Tq.bt (apb (by rw [by2]; simp only [List.length_cons, List.length_nil]; omega)) ?_) | refine .t ?_ | refine .u ?_ | refine .some lg0 ?_ | refine .some lg ?_ | refine .some lgI ?_ | (refine .bif (fun zz => ?_) (fun zz => ?_) <;> try simp (disch := omega) only [zs, w64, zt] at zz)) <;> try dsimp only)
      · rw [bo_f (w_no (fun e => by have := e hj (by omega); omega))]
        exact Tq.ret rfl
      · rw [ws hj (by omega), bo_congr (w_next (fun _ _ => ⟨by omega, by omega⟩)), List.drop_eq_getElem_cons hj]
        have := ih (j + 1) (V ++ [s[j]]) (by omega) (by simp; omega) (by simp; omega)
        rw [List.append_assoc V, List.singleton_append] at this
        exact this
  have k0 : ∀ (d j : Nat) (V : List Int), l.length - j = d → V.length + d ≤ 3 → Tq (d + 1) (fun k q => spec_StartOf.L0 (cl k) k p l s q (j : Int) V)
      (· = ((bif bo (WFrom l p.2.1 j) then (bif bo (WFrom s p.2.2.1 0) then ((V ++ l.drop j ++ s ++ zer p.2.2.2.1, p.2.2.2.2.1.map zer, ()), true, ()) else (([], [], ()), false, ())) else (([], [], ()), false, ())), ())) := by
    intro d
    induction d with
    | zero =>
      intro j V hd hV
      refine Tq.succ ?_
      show Tq _ (fun k q => spec_StartOf.step0 (cl k) k ..) _
      unfold spec_StartOf.step0
      rw [bo_t (w_end (by omega)), List.drop_of_length_le (by omega), List.append_nil]
      refine Tq.bf (dnlt (by omega)) ?_
      exact Tq.diag (k1 _ 0 V rfl (by omega) (by omega))
    | succ d ih =>
      intro j V hd hV
      have hj : j < l.length := by omega
      refine Tq.succ ?_
      show Tq _ (fun k q => spec_StartOf.step0 (cl k) k ..) _
      unfold spec_StartOf.step0
      repeat' ((first | refine .ba (l1In_ans _ _ _) ?_ | (refine Tq.bt (apb (by rw [by2]; simp only [List.length_cons, List.length_nil]; omega)) ?_) | refine .t ?_ | refine .u ?_ | refine .some lg0 ?_ | refine .some lg ?_ | refine .some lgI ?_ | (refine .bif (fun zz => ?_) (fun zz => ?_) <;> try simp (disch := omega) only [zs, w64, zt] at zz)) <;> try dsimp only)
      · rw [bo_f (w_no (fun e => by have := e hj (by omega); omega))]
        exact Tq.ret rfl
      · rw [ws hj (by omega), bo_congr (w_next (fun _ _ => ⟨by omega, by omega⟩)), List.drop_eq_getElem_cons hj]
        have := ih (j + 1) (V ++ [l[j]]) (by omega) (by simp; omega)
        rw [List.append_assoc V, List.singleton_append] at this
        exact this
  have e : stA p l s = (bif bo (WFrom l p.2.1 0) then (bif bo (WFrom s p.2.2.1 0) then (([] ++ l.drop 0 ++ s ++ zer p.2.2.2.1, p.2.2.2.2.1.map zer, ()), true, ()) else (([], [], ()), false, ())) else (([], [], ()), false, ())) := by
    unfold stA
    by_cases d1 : WFrom l p.2.1 0
    · rw [bo_t d1]
      by_cases d2 : WFrom s p.2.2.1 0
      · rw [bo_t d2, bo_t ⟨c1, ⟨cl1, d1⟩, ⟨cl2, d2⟩⟩]; rfl
      · rw [bo_f d2, bo_f (fun e => d2 e.2.2.2)]; rfl
    · rw [bo_f d1, bo_f (fun e => d1 e.2.1.2)]; rfl
  rw [e]
  exact Tq.diag (k0 _ 0 [] rfl (by simp; omega))
theorem start_env {p : Pg} (hp : Hd p) {l s : List Int} (h1 : Within l p.2.1) (h2 : Within s p.2.2.1) : EnvR p (startV p l s) := by
  have hb := hp.b
  have hr := hp.r.2
  have hi := hp.i
  refine ⟨?_, by show (p.2.2.2.2.1.map zer).length = _; rw [List.length_map], ?_, ?_⟩
  · show (((l ++ s ++ zer p.2.2.2.1).length : Nat) : Int) = _
    rw [List.length_append, List.length_append, h1.1, h2.1]
    unfold zer Vrs
    rw [List.length_replicate]
    omega
  · intro x hx
    rcases List.mem_append.1 hx with hx | hx
    · rcases List.mem_append.1 hx with hx | hx
      · obtain ⟨i, h, rfl⟩ := List.getElem_of_mem hx
        have a := h1.2 i (Nat.zero_le _) h (by have := h1.1; omega)
        have b := hi.2.1 _ (List.getElem_mem (show i < p.2.1.length by have := h1.1; omega))
        exact ⟨a.1, by have := b.2.1; omega⟩
      · obtain ⟨i, h, rfl⟩ := List.getElem_of_mem hx
        have a := h2.2 i (Nat.zero_le _) h (by have := h2.1; omega)
        have b := hi.2.2.1 _ (List.getElem_mem (show i < p.2.2.1.length by have := h2.1; omega))
        exact ⟨a.1, by have := b.2.1; omega⟩
    · rw [List.eq_of_mem_replicate hx]
      exact ⟨Int.le_refl _, by omega⟩
  · intro i h h'
    have e : (startV p l s).2.1[i] = zer p.2.2.2.2.1[i] := List.getElem_map _
    rw [e]
    have := hr _ (List.getElem_mem h')
    refine ⟨by unfold zer; rw [List.length_replicate]; omega, fun x hx => ?_⟩
    rw [List.eq_of_mem_replicate hx]
    exact ⟨Int.le_refl _, by omega⟩
/-- Both sides agree on what is left behind, which is small. -/
theorem after_agree {p : Pg} (hsm : Small p) {l s : List Int} (hl : l.length ≤ 1048576) (hs : s.length ≤ 1048576) :
    ∃ (v : ET) (b : Bool), (v.1.length ≤ 12 ∧ v.2.1.length ≤ 2 ∧ ∀ x ∈ v.2.1, x.length ≤ 6) ∧ Ans n_spec_AfterOf s_spec_AfterOf (p, l, s, ()) ((v, b, ()), ()) ∧ Ans n_impl_AfterOf s_impl_AfterOf (p, l, s, ()) ((v, b, ()), ()) := by
  have a1 := iStart_ans hsm hl hs
  have a2 := sStart_ans hsm hl hs
  by_cases c : StOk2 p l s
  · unfold stA at a1 a2
    rw [bo_t c] at a1 a2
    have c' := c
    obtain ⟨⟨t, ht⟩, w1, w2⟩ := c'
    have hp := ht.hd
    have hb := hp.b
    have hv := start_env hp w1 w2
    have hvr : Vrs p = (p.2.1.length : Int) + (p.2.2.1.length : Int) + p.2.2.2.1 := rfl
    have few := ht.few
    have F := run_fine hp ht.st ht.seg (startV p l s, []) hv
    refine ⟨(runF p t (startV p l s, [])).1.1, true, ⟨by have := F.env.lv; omega, by have := F.env.lc; omega, fun x hx => ?_⟩, Gv.ans (Gv.of (fun k => spec_AfterOf.F_eq (cl k) k p l s) ?_), Gv.ans (Gv.of (fun k => impl_AfterOf.F_eq (cl k) k p l s) ?_)⟩
    · obtain ⟨i, hi, rfl⟩ := List.getElem_of_mem hx
      have h3 := (F.env.cs i hi (by have := F.env.lc; omega)).1
      have h4 := hp.r.2 _ (List.getElem_mem (show i < p.2.2.2.2.1.length by have := F.env.lc; omega))
      omega
    · unfold spec_AfterOf.F spec_AfterOf.Fm
      have hA : Ans n_spec_l6All s_spec_l6All (p, l, s, ()) ((ms p (runF p t (startV p l s, [])), true, ()), ()) := by
        refine Gv.ans (Gv.of (fun k => spec_l6All.F_eq (cl k) k p l s) ?_)
        unfold spec_l6All.F spec_l6All.Fm
        have hx : Ans n_spec_l6Run s_spec_l6Run ((p, startV p l s, ([], 0, 0, ()), false, ()), 0, (p.2.2.2.2.2.1.length : Int), ()) ((), ms p (runF p t (startV p l s, [])), ()) := (run_seg hp ht.st ht.seg).a (s := (startV p l s, [])) hv (by show ((0 : Nat) : Int) + _ ≤ _; omega)
        exact Tq.ba a2 (Tq.bf rfl (Tq.ba hx (Tq.ret rfl)))
      exact Tq.ba hA (Tq.ret rfl)
    · unfold impl_AfterOf.F impl_AfterOf.Fm
      have hA : Ans n_impl_ran s_impl_ran (p, l, s, ()) ((((runF p t (startV p l s, [])).1.2, (runF p t (startV p l s, [])).2.1, (runF p t (startV p l s, [])).2.2, ()), (runF p t (startV p l s, [])).1.1, ()), ()) := by
        refine Gv.ans (Gv.of (fun k => impl_ran.F_eq (cl k) k p l s) ?_)
        unfold impl_ran.F impl_ran.Fm
        have hx : Ans n_impl_machine_do s_impl_machine_do ((p, startV p l s, [], ()), t.trs, ()) (mr p (runF p t (startV p l s, []))) := (do_seg hp ht.st ht.seg).a (s := (startV p l s, [])) hv (by show ((0 : Nat) : Int) + _ ≤ _; omega)
        exact Tq.ba (nodes_ok (by omega) ht.seg) (Tq.ba (startAt_ans hp hl hs) (Tq.ba hx (Tq.ret rfl)))
      exact Tq.ba a1 (Tq.bf rfl (Tq.ba hA (Tq.ret rfl)))
  · unfold stA at a1 a2
    rw [bo_f c] at a1 a2
    refine ⟨([], [], ()), false, ⟨by decide, by decide, fun x hx => by cases hx⟩, Gv.ans (Gv.of (fun k => spec_AfterOf.F_eq (cl k) k p l s) ?_), Gv.ans (Gv.of (fun k => impl_AfterOf.F_eq (cl k) k p l s) ?_)⟩
    · unfold spec_AfterOf.F spec_AfterOf.Fm
      have hA : Ans n_spec_l6All s_spec_l6All (p, l, s, ()) (((p, ([], [], ()), ([], 0, 0, ()), false, ()), false, ()), ()) := by
        refine Gv.ans (Gv.of (fun k => spec_l6All.F_eq (cl k) k p l s) ?_)
        unfold spec_l6All.F spec_l6All.Fm
        exact Tq.ba a2 (Tq.bt rfl (Tq.ret rfl))
      exact Tq.ba hA (Tq.ret rfl)
    · unfold impl_AfterOf.F impl_AfterOf.Fm
      exact Tq.ba a1 (Tq.bt rfl (Tq.ret rfl))
end Go.Proofs.Ytafgkoelefpacaa.Pf
