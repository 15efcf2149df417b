/- Clauses: all models, as both find them. No condition. -/
import Derived.Test.YtcmgjdmhemfecaaPfNb
import Derived.Test.YtcmgjdmhemfecaaPfTq
import Derived.Test.YtcmgjdmhemfecaaPfE
import Derived.Test.YtcmgjdmhemfecaaPfT6
namespace Go.Proofs.Ytcmgjdmhemfecaa.Pf
open Go Go.Pv

/-! ### Places in a list -/
def pos : List Int → Int → Nat
  | [], _ => 0
  | a :: l, x => if a = x then 0 else pos l x + 1
theorem pos_lt {x : Int} : ∀ {l : List Int}, x ∈ l → pos l x < l.length
  | a :: l, h => by
    unfold pos
    by_cases e : a = x
    · rw [if_pos e]; exact Nat.succ_pos _
    · rw [if_neg e]
      have := pos_lt (l := l) ((List.mem_cons.1 h).resolve_left fun h => e h.symm)
      rw [List.length_cons]; omega
theorem pos_at {x : Int} : ∀ {l : List Int}, x ∈ l → l[pos l x]? = some x
  | a :: l, h => by
    unfold pos
    by_cases e : a = x
    · rw [if_pos e, e]; rfl
    · rw [if_neg e, List.getElem?_cons_succ]
      exact pos_at ((List.mem_cons.1 h).resolve_left fun h => e h.symm)
theorem Rise.lt {l : List Int} (h : Rise l) {i j : Nat} (hi : i < l.length) (hj : j < l.length) (hij : i < j) : l[i] < l[j] := List.pairwise_iff_getElem.1 h i j hi hj hij
theorem Rise.inj {l : List Int} (h : Rise l) {i j : Nat} (hi : i < l.length) (hj : j < l.length) (e : l[i] = l[j]) : i = j := by
  rcases Nat.lt_trichotomy i j with h1 | h1 | h1
  · have := h.lt hi hj h1; omega
  · exact h1
  · have := h.lt hj hi h1; omega
theorem pos_get {l : List Int} (h : Rise l) {i : Nat} (hi : i < l.length) : pos l l[i] = i := by
  have hm := List.getElem_mem hi
  have h1 := pos_at hm
  have h2 := pos_lt hm
  rw [List.getElem?_eq_getElem h2] at h1
  exact h.inj h2 hi (Option.some.inj h1)
theorem mem_take {l : List Int} (h : Rise l) {x : Int} {j : Nat} : x ∈ l.take j ↔ x ∈ l ∧ pos l x < j := by
  constructor
  · intro hx
    obtain ⟨i, hi, e⟩ := List.getElem_of_mem hx
    rw [List.getElem_take] at e
    rw [List.length_take] at hi
    have hi' : i < l.length := by omega
    refine ⟨List.mem_of_mem_take hx, ?_⟩
    rw [← e, pos_get h hi']; omega
  · rintro ⟨hx, hp⟩
    have h1 := pos_at hx
    have h2 := pos_lt hx
    rw [List.getElem?_eq_getElem h2] at h1
    have e : (l.take j)[pos l x]? = some x := by rw [List.getElem?_take, if_pos hp, List.getElem?_eq_getElem h2, h1]
    exact List.mem_of_getElem? e

/-! ### Models -/
/-- What a model says of a variable. -/
def valU (u : List Int) (n : Nat) (x : Int) : Bool := if x ∈ u then bitN u.length n (pos u x) else false
def modelL (u : List Int) (V n : Nat) : List Bool := (List.range V).map fun (v : Nat) => valU u n ((v : Int) + 1)
def litU (u : List Int) (n : Nat) (x : Int) : Bool := valU u n (x.natAbs : Int) == decide (x > 0)
def hold (u : List Int) (c : List (List Int)) (n : Nat) : Bool := c.all fun y => y.any (litU u n)
def models (u : List Int) (c : List (List Int)) : List Nat := (List.range (2 ^ u.length)).filter (hold u c)
theorem modelL_len (u : List Int) (V n : Nat) : (modelL u V n).length = V := by simp [modelL]
theorem modelL_get {u : List Int} {V n m : Nat} (h1 : 1 ≤ m) (h2 : m ≤ V) : ((modelL u V n)[m - 1]?).getD false = valU u n (m : Int) := by
  have : m - 1 < V := by omega
  simp only [modelL, List.getElem?_map, List.getElem?_range this, Option.map_some, Option.getD_some]
  rw [show ((m - 1 : Nat) : Int) + 1 = (m : Int) by omega]
theorem hold_eq {u : List Int} {V n : Nat} {c : List (List Int)} (hb : ∀ y ∈ c, ∀ x ∈ y, 1 ≤ x.natAbs ∧ x.natAbs ≤ V) : holdsB (modelL u V n) c = hold u c n := by
  unfold holdsB hold
  refine all_congr' fun y hy => any_congr' fun x hx => ?_
  have := hb y hy x hx
  unfold litB litU
  rw [modelL_get this.1 this.2]
where
  any_congr' {α : Type} {f g : α → Bool} : ∀ {l : List α}, (∀ x ∈ l, f x = g x) → l.any f = l.any g
    | [], _ => rfl
    | a :: l, h => by rw [List.any_cons, List.any_cons, h a List.mem_cons_self, any_congr' fun x hx => h x (List.mem_cons_of_mem _ hx)]
  all_congr' {α : Type} {f g : α → Bool} : ∀ {l : List α}, (∀ x ∈ l, f x = g x) → l.all f = l.all g
    | [], _ => rfl
    | a :: l, h => by rw [List.all_cons, List.all_cons, h a List.mem_cons_self, all_congr' fun x hx => h x (List.mem_cons_of_mem _ hx)]

theorem bitsI_and1 (x : Nat) (hx : x ≤ 4096) : bitsI .and .i64 (x : Int) 1 = ((x % 2 : Nat) : Int) := by
  unfold bitsI
  have h2 : (BitVec.ofInt IntKind.i64.bits (x : Int) &&& BitVec.ofInt IntKind.i64.bits (1 : Int)).toNat = x % 2 := by
    rw [show (1 : Int) = ((1 : Nat) : Int) from rfl, BitVec.toNat_and, BitVec.ofInt_natCast, BitVec.ofInt_natCast, BitVec.toNat_ofNat, BitVec.toNat_ofNat]
    rw [show IntKind.i64.bits = 64 from rfl, Nat.mod_eq_of_lt (show x < 2 ^ 64 by omega), Nat.mod_eq_of_lt (show 1 < 2 ^ 64 by omega), Nat.and_one_is_mod]
  simp only [h2]
  exact w64n (by omega)
theorem shrI_nat (x s : Nat) (hs : s ≤ 64) : shrI .i64 (x : Int) (s : Int) = ((x / 2 ^ s : Nat) : Int) := by
  unfold shrI
  rw [Int.toNat_natCast, show min s IntKind.i64.bits = s from Nat.min_eq_left hs]
  have h2 : ((2 : Int) ^ s) = ((2 ^ s : Nat) : Int) := by simp
  rw [h2]; exact (Int.ofNat_fdiv x (2 ^ s)).symm
def BitOfK (k : Nat) : Prop := ∀ (u ms : List Int) (n i : Nat), u.length ≤ 12 → n ≤ 4096 → i < u.length → cl k 128 s_impl_search_bitOf ((u, ms, ()), (n : Int), (i : Int), ()) = some ((bitN u.length n i, ()), ())
theorem bitOf_ev : Ev BitOfK := Ev.succ fun k u ms n i hu hn hi => by
  rw [cl_succ, impl_search_bitOf.F_eq (cl k) k (u, ms, ()) (n : Int) (i : Int)]
  have e : IntKind.i64.wrap (IntKind.i64.wrap ((u.length : Int) - 1) - (i : Int)) = ((u.length - 1 - i : Nat) : Int) := by
    rw [w64 (x := (u.length : Int) - 1) (by omega) (by omega), w64 (by omega) (by omega)]; omega
  simp only [impl_search_bitOf.F, impl_search_bitOf.Fm, e]
  rw [decide_eq_false (by omega), cond_false, shrI_nat _ _ (by omega), bitsI_and1 _ (Nat.le_trans (Nat.div_le_self _ _) hn)]
  unfold bitN
  rw [Nat.testBit_eq_decide_div_mod_eq]
  by_cases h : n / 2 ^ (u.length - 1 - i) % 2 = 1
  · rw [h]; rfl
  · rw [decide_eq_false h, beq_false_of_ne (by omega)]
theorem shl12 {m : Nat} (h : m ≤ 12) : shlI .i64 1 (m : Int) = ((2 ^ m : Nat) : Int) := by
  unfold shlI
  rw [Int.toNat_natCast, show min m IntKind.i64.bits = m from Nat.min_eq_left (Nat.le_trans h (by decide))]
  have h1 := pow12 h
  have h2 : ((2 : Int) ^ m) = ((2 ^ m : Nat) : Int) := by simp
  rw [h2, Int.one_mul, w64n (Nat.le_trans h1 (by decide))]

/-- Where the used variables stand. -/
def placesL (u : List Int) (j : Nat) : List Int := (List.range 301).map fun (v : Nat) => if (v : Int) ∈ u.take j then (pos u (v : Int) : Int) else 0
theorem placesL_len (u : List Int) (j : Nat) : (placesL u j).length = 301 := by simp [placesL]
theorem placesL_get {u : List Int} {j v : Nat} (h : v < 301) : (placesL u j)[v]? = some (if (v : Int) ∈ u.take j then (pos u (v : Int) : Int) else 0) := by simp [placesL, h]
theorem placesL_set {u : List Int} (hr : Rise u) {j v : Nat} (hj : j < u.length) (hv : u[j] = (v : Int)) (hv2 : v < 301) : (placesL u j).set v (j : Int) = placesL u (j + 1) := by
  apply List.ext_getElem?
  intro i
  rw [List.getElem?_set]
  have hp : pos u (v : Int) = j := by rw [← hv, pos_get hr hj]
  by_cases e : v = i
  · subst e
    rw [if_pos rfl, if_pos (by rw [placesL_len]; exact hv2), placesL_get hv2, if_pos ((mem_take hr).2 ⟨by rw [← hv]; exact List.getElem_mem hj, by omega⟩), hp]
  · rw [if_neg e]
    by_cases hi : i < 301
    · rw [placesL_get hi, placesL_get hi]
      have : ((i : Int) ∈ u.take j) ↔ ((i : Int) ∈ u.take (j + 1)) := by
        rw [mem_take hr, mem_take hr]
        constructor
        · rintro ⟨h1, h2⟩; exact ⟨h1, by omega⟩
        · rintro ⟨h1, h2⟩
          refine ⟨h1, ?_⟩
          have h3 := pos_at h1
          by_cases h4 : pos u (i : Int) = j
          · rw [h4, List.getElem?_eq_getElem hj] at h3
            have := Option.some.inj h3
            omega
          · omega
      simp only [this]
    · rw [List.getElem?_eq_none (by rw [placesL_len]; omega), List.getElem?_eq_none (by rw [placesL_len]; omega)]

theorem bitAt_ev (u ms : List Int) (hu : u.length ≤ 12) : Ev fun k => ∀ n x : Nat, n ≤ 4096 → (x : Int) ∈ u → x < 301 → cl k 155 s_impl_searchOf_1 ((x : Int), (u, ms, ()), (n : Int), placesL u u.length, ()) = some ((valU u n (x : Int), ()), ()) := Ev.step bitOf_ev fun k hk n x hn hx hlt => by
  rw [cl_succ, impl_searchOf_1.F_eq (cl k) k (x : Int) (u, ms, ()) (n : Int) (placesL u u.length)]
  have hg : lget (placesL u u.length) (x : Int).toNat = some ((pos u (x : Int) : Int)) := by
    rw [Int.toNat_natCast]
    refine (placesL_get hlt).trans ?_
    rw [if_pos (by rw [List.take_length]; exact hx)]
  unfold impl_searchOf_1.F impl_searchOf_1.Fm
  refine bif_t (dle0 x) (bind_k hg (bind_k (hk u ms n _ hu hn (pos_lt hx)) ?_))
  show some ((bitN u.length n (pos u (x : Int)), ()), ()) = _
  unfold valU
  rw [if_pos hx]

theorem holdsS_ev (v0 : Int) (c : List (List Int)) (u ms : List Int) (hc : c.length ≤ 1048576) (hr : Range c) (hu : u.length ≤ 12) (hin : ∀ y ∈ c, ∀ x ∈ y, (x.natAbs : Int) ∈ u) :
    Ev fun k => ∀ n : Nat, n ≤ 4096 → cl k 15600113 s_impl_holds__impl_searchOf_1 ((v0, c, ()), ((u, ms, ()), (n : Int), placesL u u.length, ()), ()) = some ((hold u c n, ()), ()) := by
  refine Ev.step (variableOf_ev.and ((bitAt_ev u ms hu).and (Ev.ge (c.length + 13)))) fun k ⟨hk, hk3, hge⟩ n hn => ?_
  rw [cl_succ, impl_holds__impl_searchOf_1.F_eq (cl k) k (v0, c, ()) ((u, ms, ()), (n : Int), placesL u u.length, ())]
  have key1 : ∀ (j : Nat) (hj : j < c.length) (r0 : Int → Option impl_holds__impl_searchOf_1.R) (d q i : Nat) (is : Bool), c[j].length - i = d → d < q →
      impl_holds__impl_searchOf_1.L1 (cl k) k ((u, ms, ()), (n : Int), placesL u u.length, ()) (j : Int) c[j] r0 q is (i : Int) = bif is || (c[j].drop i).any (litU u n) then r0 ((j + 1 : Nat) : Int) else some ((false, ()), ()) := by
    intro j hj r0 d
    have hrj := hr c[j] (List.getElem_mem hj)
    have hbj := hin c[j] (List.getElem_mem hj)
    induction d with
    | zero =>
      intro q i is hd hq
      obtain ⟨q, rfl⟩ : ∃ m, q = m + 1 := ⟨q - 1, by omega⟩
      simp only [impl_holds__impl_searchOf_1.L1, impl_holds__impl_searchOf_1.step1, dnlt (show c[j].length ≤ i by omega), cond_false, ws hj (show c.length ≤ 9223372036854775807 by omega)]
      rw [List.drop_of_length_le (by omega)]
      cases is <;> rfl
    | succ d ih =>
      intro q i is hd hq
      obtain ⟨q, rfl⟩ : ∃ m, q = m + 1 := ⟨q - 1, by omega⟩
      have hi : i < c[j].length := by omega
      have hx := hrj.2 c[j][i] (List.getElem_mem hi)
      have hv : absV c[j][i] = (c[j][i].natAbs : Int) := absV_eq (by omega) (by omega)
      have hb1 := hbj c[j][i] (List.getElem_mem hi)
      simp only [impl_holds__impl_searchOf_1.L1, impl_holds__impl_searchOf_1.step1, dle0, cond_true, Option.bind_some, dlt hi, lg hi, hk c[j][i], hv, hk3 n _ hn hb1 (by omega), ws hi (show c[j].length ≤ 9223372036854775807 by omega)]
      rw [any_drop _ _ _ hi]
      cases is with
      | true =>
        rw [cond_true, ih q (i + 1) true (by omega) (by omega)]
        simp
      | false =>
        rw [cond_false, ih q (i + 1) _ (by omega) (by omega)]
        simp [litU]
  have key0 : ∀ (d q j : Nat), c.length - j = d → d < q → impl_holds__impl_searchOf_1.L0 (cl k) k (v0, c, ()) ((u, ms, ()), (n : Int), placesL u u.length, ()) q (j : Int) = some ((hold u (c.drop j) n, ()), ()) := by
    intro d
    induction d with
    | zero =>
      intro q j hd hq
      obtain ⟨q, rfl⟩ : ∃ m, q = m + 1 := ⟨q - 1, by omega⟩
      simp only [impl_holds__impl_searchOf_1.L0, impl_holds__impl_searchOf_1.step0, dnlt (show c.length ≤ j by omega), cond_false]
      rw [List.drop_of_length_le (by omega)]; rfl
    | succ d ih =>
      intro q j hd hq
      obtain ⟨q, rfl⟩ : ∃ m, q = m + 1 := ⟨q - 1, by omega⟩
      have hj : j < c.length := by omega
      have hrj := hr c[j] (List.getElem_mem hj)
      simp only [impl_holds__impl_searchOf_1.L0, impl_holds__impl_searchOf_1.step0, dlt hj, cond_true, dle0, lg hj, Option.bind_some]
      have h1 := key1 j hj (impl_holds__impl_searchOf_1.L0 (cl k) k (v0, c, ()) ((u, ms, ()), (n : Int), placesL u u.length, ()) q) c[j].length k 0 false rfl (by omega)
      refine h1.trans ?_
      rw [ih q (j + 1) (by omega) (by omega)]
      unfold hold
      rw [all_drop _ _ _ hj, List.drop_zero, Bool.false_or]
      cases c[j].any (litU u n) <;> rfl
  have := key0 c.length k 0 rfl (by omega)
  rw [List.drop_zero] at this
  exact this

theorem filter_succ (p : Nat → Bool) (j : Nat) : (List.range (j + 1)).filter p = (List.range j).filter p ++ (if p j then [j] else []) := by
  rw [List.range_succ, List.filter_append]
  congr 1
  cases h : p j <;> simp [h]
theorem ap3 {n : Nat} (h : n ≤ 1000000) : decide ((n + 1) * ti3.bytes ≤ (140737488355328 : Nat)) = true := decide_eq_true (by show (n + 1) * 8 ≤ _; omega)
theorem ap53 {n : Nat} (h : n ≤ 1000000) : decide ((n + 1) * ti53.bytes ≤ (140737488355328 : Nat)) = true := decide_eq_true (by show (n + 1) * 24 ≤ _; omega)

theorem CnfRight.inU {c : Cnf} (h : CnfRight c) : ∀ y ∈ c.2.1, ∀ x ∈ y, (x.natAbs : Int) ∈ usedL c.2.1 := fun y hy x hx => (usedL_mem h.range').2 ⟨y, hy, x, hx, rfl⟩
theorem CnfRight.uV {c : Cnf} (h : CnfRight c) {x : Int} (hx : x ∈ usedL c.2.1) : 1 ≤ x ∧ x ≤ c.1 := by
  obtain ⟨y, hy, n, hn, rfl⟩ := (usedL_mem h.range').1 hx
  have := (h.2.2.1 y hy).range n hn
  omega
theorem CnfRight.lits {c : Cnf} (h : CnfRight c) : ∀ y ∈ c.2.1, ∀ x ∈ y, 1 ≤ x.natAbs ∧ x.natAbs ≤ c.1.toNat := fun y hy x hx => by
  have := (h.2.2.1 y hy).range x hx
  omega

theorem searchOf_ans (c : Cnf) (hs : Small c) (h : CnfRight c) : Ans 127 s_impl_searchOf (c, ()) (((usedL c.2.1, (models (usedL c.2.1) c.2.1).map fun (n : Nat) => (n : Int), ()), ()), ()) := by
  have hin := h.inU
  have hrr := h.range'
  have hrise := usedL_rise c.2.1
  have hr0 : ∀ x ∈ usedL c.2.1, 1 ≤ x ∧ x ≤ 300 := fun x hx => usedL_range hrr hx
  have hu : (usedL c.2.1).length ≤ 12 := h.2.2.2
  have hub := usedBy_ans c.1 c.2.1 hs.1 hrr
  generalize usedL c.2.1 = u at *
  have hp := pow12 hu
  refine (Gv.of (fun k => impl_searchOf.F_eq (cl k) k c) (.bind hub.tq fun x hx => ?_)).ans
  subst hx
  have hh := fun ms => holdsS_ev c.1 c.2.1 u ms hs.1 hrr hu hin
  have key1 : ∀ (d j : Nat), 2 ^ u.length - j = d → j ≤ 2 ^ u.length → Tq (d + 1) (fun k q => impl_searchOf.L1 (cl k) k c ((u, ()), ()) (placesL u u.length) q (j : Int) (((List.range j).filter (hold u c.2.1)).map fun (n : Nat) => (n : Int))) (· = (((u, (models u c.2.1).map fun (n : Nat) => (n : Int), ()), ()), ())) := by
    intro d
    induction d with
    | zero =>
      intro j hd hj
      obtain rfl : j = 2 ^ u.length := by omega
      refine .succ (.bf ?_ (.ret rfl))
      show decide (_ < shlI .i64 1 (u.length : Int)) = false
      rw [shl12 hu]; exact dnlt (Nat.le_refl _)
    | succ d ih =>
      intro j hd hj
      have hj : j < 2 ^ u.length := by omega
      have hlen : ((List.range j).filter (hold u c.2.1)).length ≤ j := Nat.le_trans (List.length_filter_le _ _) (by rw [List.length_range]; exact Nat.le_refl _)
      have hw : IntKind.i64.wrap ((j : Int) + 1) = ((j + 1 : Nat) : Int) := ws hj (by omega)
      have hcall : Ans 15600113 s_impl_holds__impl_searchOf_1 (c, ((u, ((List.range j).filter (hold u c.2.1)).map fun (n : Nat) => (n : Int), ()), (j : Int), placesL u u.length, ()), ()) ((hold u c.2.1 j, ()), ()) := (hh _).mono fun k hk => hk j (by omega)
      refine .succ (.bt ?_ (.bind hcall.tq fun x hx => ?_))
      · show decide (_ < shlI .i64 1 (u.length : Int)) = true
        rw [shl12 hu]; exact dlt hj
      · subst hx
        have ih := ih (j + 1) (by omega) (by omega)
        rw [filter_succ] at ih
        refine .bif (fun e => .bt (ap3 (by rw [List.length_map]; omega)) ?_) fun e => ?_
        · have e : hold u c.2.1 j = true := e
          rw [if_pos e, List.map_append] at ih
          simp only [hw]
          exact ih
        · have e : hold u c.2.1 j = false := e
          rw [if_neg (by rw [e]; simp), List.append_nil] at ih
          simp only [hw]
          exact ih
  have key0 : ∀ (d j : Nat), u.length - j = d → j ≤ u.length → Tq (d + 1) (fun k q => impl_searchOf.L0 (cl k) k ((u, ()), ()) c q (j : Int) (placesL u j)) (· = (((u, (models u c.2.1).map fun (n : Nat) => (n : Int), ()), ()), ())) := by
    intro d
    induction d with
    | zero =>
      intro j hd hj
      obtain rfl : j = u.length := by omega
      exact .succ (.bf (dnlt (Nat.le_refl _)) (key1 _ 0 rfl (Nat.zero_le _)).diag)
    | succ d ih =>
      intro j hd hj
      have hj : j < u.length := by omega
      have h1 := hr0 _ (List.getElem_mem hj)
      obtain ⟨v, hv⟩ := Int.eq_ofNat_of_zero_le (show 0 ≤ u[j] by omega)
      have hv2 : v < 301 := by omega
      have hpl : v < (placesL u j).length := by rw [placesL_len]; exact hv2
      have hg : lget (placesL u j) u[j].toNat = some (placesL u j)[v] := by rw [hv, Int.toNat_natCast]; exact lgn hpl
      refine .succ (.bt (dlt hj) (.bt (by rw [dle0, Int.toNat_natCast, decide_eq_true hj]; rfl) (.some (lg hj) (.bt (by rw [hv, dle0, Int.toNat_natCast, decide_eq_true hpl]; rfl) (.some hg ?_)))))
      have ih := ih (j + 1) (by omega) (by omega)
      rw [← placesL_set hrise hj hv hv2] at ih
      have e : u[j].toNat = v := by rw [hv, Int.toNat_natCast]
      simp only [ws hj (show u.length ≤ 9223372036854775807 by omega), e]
      exact ih
  have := key0 u.length 0 rfl (Nat.zero_le _)
  have e0 : placesL u 0 = List.replicate 301 0 := by
    unfold placesL
    rw [List.take_zero]
    simp only [List.not_mem_nil, if_false, List.map_const', List.length_range]
  rw [e0] at this
  exact this.diag

/-! ### The reference's models -/
def partL (u : List Int) (V n j : Nat) : List Bool := (List.range V).map fun (v : Nat) => if ((v : Int) + 1) ∈ u.take j then bitN u.length n (pos u ((v : Int) + 1)) else false
theorem partL_len (u : List Int) (V n j : Nat) : (partL u V n j).length = V := by simp [partL]
theorem partL_get {u : List Int} {V n j v : Nat} (h : v < V) : (partL u V n j)[v]? = some (if ((v : Int) + 1) ∈ u.take j then bitN u.length n (pos u ((v : Int) + 1)) else false) := by simp [partL, h]
theorem partL_set {u : List Int} (hr : Rise u) {V n j v : Nat} (hj : j < u.length) (hv : u[j] = (v : Int) + 1) (hv2 : v < V) : (partL u V n j).set v (bitN u.length n j) = partL u V n (j + 1) := by
  apply List.ext_getElem?
  intro i
  rw [List.getElem?_set]
  have hp : pos u ((v : Int) + 1) = j := by rw [← hv, pos_get hr hj]
  by_cases e : v = i
  · subst e
    rw [if_pos rfl, if_pos (by rw [partL_len]; exact hv2), partL_get hv2, if_pos ((mem_take hr).2 ⟨by rw [← hv]; exact List.getElem_mem hj, by omega⟩), hp]
  · rw [if_neg e]
    by_cases hi : i < V
    · rw [partL_get hi, partL_get hi]
      have : (((i : Int) + 1) ∈ u.take j) ↔ (((i : Int) + 1) ∈ u.take (j + 1)) := by
        rw [mem_take hr, mem_take hr]
        constructor
        · rintro ⟨h1, h2⟩; exact ⟨h1, by omega⟩
        · rintro ⟨h1, h2⟩
          refine ⟨h1, ?_⟩
          have h3 := pos_at h1
          by_cases h4 : pos u ((i : Int) + 1) = j
          · rw [h4, List.getElem?_eq_getElem hj] at h3
            have := Option.some.inj h3
            omega
          · omega
      simp only [this]
    · rw [List.getElem?_eq_none (by rw [partL_len]; omega), List.getElem?_eq_none (by rw [partL_len]; omega)]
theorem partL_all (u : List Int) (V n : Nat) : partL u V n u.length = modelL u V n := by
  unfold partL modelL valU
  rw [List.take_length]

theorem l14Models_ans (c : Cnf) (hs : Small c) (h : CnfRight c) : Ans 126 s_spec_l14Models (c, ()) (((models (usedL c.2.1) c.2.1).map (modelL (usedL c.2.1) c.1.toNat), ()), ()) := by
  have hrr := h.range'
  have hrise := usedL_rise c.2.1
  have hr0 : ∀ x ∈ usedL c.2.1, 1 ≤ x ∧ x ≤ c.1 := fun x hx => h.uV hx
  have hu : (usedL c.2.1).length ≤ 12 := h.2.2.2
  have hub := l14Used_ans c.1 c.2.1 (by have := h.2.1; omega) hrr
  generalize usedL c.2.1 = u at *
  have hp := pow12 hu
  have hV := h.1
  obtain ⟨V, hVe⟩ := Int.eq_ofNat_of_zero_le hV.1
  have hVn : c.1.toNat = V := by rw [hVe, Int.toNat_natCast]
  have hV3 : V ≤ 300 := by have := hV.2; rw [hVe] at this; omega
  rw [hVn]
  refine (Gv.of (fun k => spec_l14Models.F_eq (cl k) k c) (.bind hub.tq fun x hx => ?_)).ans
  subst hx
  have key1 : ∀ (n : Nat), n ≤ 4096 → ∀ (acc : List (List Bool)), acc.length ≤ 4096 → ∀ (d j : Nat), u.length - j = d → j ≤ u.length → Ev fun k => ∀ (r0 : Int → List (List Bool) → Option spec_l14Models.R) q, d < q →
      spec_l14Models.L1 (cl k) k c ((u, ()), ()) (n : Int) acc ((bitsN u.length n, ()), ()) r0 q (j : Int) (partL u V n j) = r0 ((n + 1 : Nat) : Int) (acc ++ if hold u c.2.1 n then [modelL u V n] else []) := by
    intro n hn acc hacc d
    induction d with
    | zero =>
      intro j hd hj
      obtain rfl : j = u.length := by omega
      have hh := l14Holds_ans c.1 c.2.1 (modelL u V n) hs.1 hrr (fun y hy x hx => by rw [modelL_len, ← hVn]; exact h.lits y hy x hx)
      rw [hold_eq (V := V) (n := n) (u := u) (c := c.2.1) fun y hy x hx => by rw [← hVn]; exact h.lits y hy x hx] at hh
      refine hh.mono fun k hk r0 q hq => ?_
      obtain ⟨q, rfl⟩ : ∃ p, q = p + 1 := ⟨q - 1, by omega⟩
      unfold spec_l14Models.L1 spec_l14Models.step1
      rw [partL_all]
      refine bif_f (dnlt (Nat.le_refl _)) (bind_k hk ?_)
      have hw : IntKind.i64.wrap ((n : Int) + 1) = ((n + 1 : Nat) : Int) := ws (n := 5000) (by omega) (by omega)
      rw [hw]
      cases e : hold u c.2.1 n with
      | true => exact bif_t rfl (bif_t (ap53 (by omega)) (by rw [if_pos rfl]))
      | false => exact bif_f rfl (by rw [if_neg (by simp), List.append_nil])
    | succ d ih =>
      intro j hd hj
      have hj : j < u.length := by omega
      refine (ih (j + 1) (by omega) (by omega)).mono fun k ih r0 q hq => ?_
      obtain ⟨q, rfl⟩ : ∃ p, q = p + 1 := ⟨q - 1, by omega⟩
      have h1 := hr0 _ (List.getElem_mem hj)
      rw [hVe] at h1
      obtain ⟨v, hv⟩ := Int.eq_ofNat_of_zero_le (show 0 ≤ u[j] - 1 by omega)
      have hv' : u[j] = (v : Int) + 1 := by omega
      have hv2 : v < V := by omega
      have hw : IntKind.i64.wrap (u[j] - 1) = (v : Int) := by rw [w64 (by omega) (by omega)]; exact hv
      have hb : j < (bitsN u.length n).length := by simp [bitsN]; exact hj
      have hbg : (bitsN u.length n)[j] = bitN u.length n j := by simp [bitsN]
      have ih := ih r0 q (by omega)
      rw [← partL_set hrise hj hv' hv2] at ih
      have hpl : v < (partL u V n j).length := by rw [partL_len]; exact hv2
      unfold spec_l14Models.L1 spec_l14Models.step1
      refine bif_t (dlt hj) (bif_t (by rw [dle0, Int.toNat_natCast, decide_eq_true hj]; rfl) (bind_k (lg hj) (bif_t (by rw [dle0, Int.toNat_natCast]; show (true && decide (j < (bitsN u.length n).length)) = true; rw [decide_eq_true hb]; rfl) (bind_k (lg hb) ?_))))
      rw [hw]
      refine bif_t (by rw [dle0, Int.toNat_natCast, decide_eq_true hpl]; rfl) (bind_k (lg hpl) ?_)
      rw [ws hj (show u.length ≤ 9223372036854775807 by omega), hbg, Int.toNat_natCast]
      exact ih
  have key0 : ∀ (d j : Nat), 2 ^ u.length - j = d → j ≤ 2 ^ u.length → Tq (d + 1) (fun k q => spec_l14Models.L0 (cl k) k c ((u, ()), ()) q (j : Int) (((List.range j).filter (hold u c.2.1)).map (modelL u V))) (· = (((models u c.2.1).map (modelL u V), ()), ())) := by
    intro d
    induction d with
    | zero =>
      intro j hd hj
      obtain rfl : j = 2 ^ u.length := by omega
      refine .succ (.bind (l13Size12_ans u.length hu).tq fun x hx => ?_)
      subst hx
      exact .bf (dnlt (Nat.le_refl _)) (.ret rfl)
    | succ d ih =>
      intro j hd hj
      have hj : j < 2 ^ u.length := by omega
      have hlen : ((List.range j).filter (hold u c.2.1)).length ≤ j := Nat.le_trans (List.length_filter_le _ _) (by rw [List.length_range]; exact Nat.le_refl _)
      refine .succ (.bind (l13Size12_ans u.length hu).tq fun x hx => ?_)
      subst hx
      refine .bt (dlt hj) (.bind (l13Bits12_ans u.length j hu (by omega)).tq fun x hx => ?_)
      subst hx
      refine .bt (by rw [hVe]; exact mk_ok (n := V) (b := ti4.bytes) (by show V * 1 ≤ _; omega)) ?_
      have e0 : partL u V j 0 = List.replicate c.1.toNat false := by
        unfold partL
        rw [List.take_zero, hVn]
        simp only [List.not_mem_nil, if_false, List.map_const', List.length_range]
      have hk := key1 j (by omega) (((List.range j).filter (hold u c.2.1)).map (modelL u V)) (by rw [List.length_map]; omega) u.length 0 rfl (Nat.zero_le _)
      have ih := ih (j + 1) (by omega) (by omega)
      rw [filter_succ, List.map_append] at ih
      refine .evEq ((hk.and (Ev.ge (u.length + 1))).mono fun k ⟨hk, hge⟩ q hq => ?_) ih
      have := hk (spec_l14Models.L0 (cl k) k c ((u, ()), ()) q) k (by omega)
      rw [e0] at this
      refine this.trans ?_
      cases hold u c.2.1 j <;> rfl
  exact (key0 _ 0 rfl (Nat.zero_le _)).diag

end Go.Proofs.Ytcmgjdmhemfecaa.Pf
