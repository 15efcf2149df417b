/- Functions of the library, told by the shelf's contracts. No condition. -/
import Derived.Lib.ItoaLen
import Derived.Test.YtbalepejjjmioaaDoorPvD
import Derived.Test.YtbalepejjjmioaaDoorPfB
import Derived.Test.YtbalepejjjmioaaDoorPfShelf
namespace Go.Proofs.YtbalepejjjmioaaDoor.Pf
open Go Go.Pv Go.Proofs Go.Sort Go.RowKit

/-- The table of powers lies in a shared block. -/
@[reducible] def tabBase : Base where
  B own w := Lib.TabIs Tryd.prog w "internal/strconv.uint64pow10" .u64 Lib.pow10Tab ∧ ∀ g, Tryd.prog.globalNamed "internal/strconv.uint64pow10" = some g → own g = .sh
  keep := fun {own own' w w'} ⟨h1, h2⟩ hs => by
    refine ⟨?_, fun g hg => (hs g (h2 g hg)).1⟩
    unfold Lib.TabIs World.var? at h1 ⊢
    cases hg : Tryd.prog.globalNamed "internal/strconv.uint64pow10" with
    | none => rw [hg] at h1; cases h1
    | some g =>
      rw [hg, Option.bind_some] at h1
      rw [Option.bind_some, (hs g (h2 g hg)).2]
      exact h1

noncomputable def fmtF (l : s_strconv_FormatInt.A.den) : Option s_strconv_FormatInt.R.den := if l.2.1 = (10 : Int) then some ((ba (Lib.itoa l.1), ()), ()) else none
theorem fmt_ok : @CallOk tabBase Tryd.prog 31 s_strconv_FormatInt fmtF := by
  letI := tabBase
  intro l r h own w vs hA hbd hB
  unfold fmtF at h
  split at h
  case isFalse => cases h
  rename_i h10
  cases h
  obtain ⟨v1, vs1, rfl, ⟨_, c1, hv1, hr1⟩, v2, vs2, rfl, ⟨_, c2, hv2, hr2⟩, rfl⟩ := hA
  obtain ⟨rfl, hw1⟩ := hr1
  obtain ⟨rfl, hw2⟩ := hr2
  have hv1 : [Value.int .i64 l.1] = [v1] := hv1
  have hv2 : [Value.int .i64 l.2.1] = [v2] := hv2
  cases hv1
  cases hv2
  rw [h10]
  have hb : -9223372036854775808 ≤ l.1 ∧ l.1 ≤ 9223372036854775807 := by
    have hw := hw1
    simp only [Lit.wf, Bool.and_eq_true, decide_eq_true_eq, show IntKind.i64.min = -9223372036854775808 from rfl, show IntKind.i64.max = 9223372036854775807 from rfl] at hw
    exact hw
  refine (Tryd.strconv_FormatInt_10 l.1 hb.1 hb.2 w hB.1).mono ?_
  rintro e w' ⟨rfl, k, os, rfl⟩
  have hheap : ∀ g, g < w.heap.size → (grow (w.drewN k) os).heap[g]? = w.heap[g]? := fun g hg => by
    show (w.heap ++ os)[g]? = _
    exact Array.getElem?_append_left hg
  have hsz : w.heap.size ≤ (grow (w.drewN k) os).heap.size := by
    show w.heap.size ≤ (w.heap ++ os).size
    rw [Array.size_append]; omega
  refine ⟨[.string (ba (Lib.itoa l.1))], own, rfl, rfl, ⟨_, _, rfl, ⟨_, rfl, rfl, ?_⟩, rfl⟩, trivial, ⟨fun g hg => ⟨hg, hheap g ?_⟩, fun g hg ho => ⟨ho, hheap g hg⟩, hsz, rfl, rfl, rfl⟩, fun g hg => hbd g (by omega)⟩
  · rw [ba_size]
    have := Lib.itoa_length_le l.1 hb.1 hb.2
    simp only [maxLen]; omega
  · refine Nat.lt_of_not_le fun hle => ?_
    rw [hbd g hle] at hg; cases hg

def joined (l : s_strings_Join.A.den) : List UInt8 := Lib.join (List.map (fun s : ByteArray => s.data.toList) l.1) (ByteArray.data l.2.1).toList
noncomputable def joinF (l : s_strings_Join.A.den) : Option s_strings_Join.R.den := if List.length l.1 ≤ 140737488355328 ∧ (joined l).length ≤ 140737488355328 then some ((ba (joined l), ()), ()) else none
theorem join_ok : @CallOk tabBase Tryd.prog 30 s_strings_Join joinF := by
  letI := tabBase
  intro l r h own w vs hA hbd hB
  unfold joinF at h
  split at h
  case isFalse => cases h
  rename_i hlen
  cases h
  obtain ⟨xs, sep, ⟨⟩⟩ := l
  have hlen : xs.length ≤ 140737488355328 ∧ (Lib.join (List.map (fun s : ByteArray => s.data.toList) xs) (ByteArray.data sep).toList).length ≤ 140737488355328 := hlen
  obtain ⟨v1, vs1, rfl, ⟨c1, hv1, hr1⟩, v2, vs2, rfl, ⟨_, c2, hv2, hr2⟩, rfl⟩ := hA
  obtain ⟨rfl, hs2⟩ := hr2
  have hv2 : [Value.string sep] = [v2] := hv2
  cases hv2
  have hv1 : c1 = [v1] := hv1
  subst hv1
  have fin : ∀ (e : Ending) (w' : World), e = .returned (.string (ba (joined (xs, sep, ())))) → Below w.heap.size w w' →
      ∃ us own', e = .returned (retV us) ∧ us.length = s_strings_Join.rs.length ∧ ResR own' w' s_strings_Join.rs ((ba (joined (xs, sep, ())), ()), ()).1 s_strings_Join.ps.length us ∧
        LendsR own' w' s_strings_Join.ps ((ba (joined (xs, sep, ())), ()), ()).2 0 [v1, .string sep] ∧ Keeps own own' w w' ∧ ∀ g, w'.heap.size ≤ g → own' g = .out := by
    rintro e w' rfl hb
    refine ⟨[.string (ba (joined (xs, sep, ())))], own, rfl, rfl, ⟨_, _, rfl, ⟨_, rfl, rfl, ?_⟩, rfl⟩, trivial, ⟨fun g hg => ⟨hg, hb.block g ?_⟩, fun g hg ho => ⟨ho, hb.block g hg⟩, hb.size, hb.os, hb.tape, hb.output⟩, fun g hg => hbd g (by have := hb.size; omega)⟩
    · rw [ba_size]
      exact Nat.le_trans hlen.2 (by decide)
    · refine Nat.lt_of_not_le fun hle => ?_
      rw [hbd g hle] at hg; cases hg
  rcases hr1 with ⟨h1, h2⟩ | ⟨g, cap, cur, h1, ho, hg, hc1, hc2, hc3, hel⟩
  · have h2 : xs.length = 0 := h2
    obtain rfl : xs = [] := List.length_eq_zero_iff.1 h2
    cases h1
    refine (Tryd.strings_Join_none none 0 sep w).mono ?_
    rintro e w' ⟨rfl, rfl⟩
    exact fin _ _ rfl (.refl _ _)
  · cases h1
    have hgs : g < w.heap.size := (Array.getElem?_eq_some_iff.1 hg).1
    refine (Tryd.strings_Join g 0 cap xs sep w (fun j x hj => ?_) hgs hlen.1 hc1 hlen.2).mono ?_
    · have h4 := (hel j x hj).1
      have h7 := cell_row (o := 0) hg j
      rw [show (⟨g, 0, none⟩ : Addr).add j = ⟨g, 0 + j, none⟩ by unfold Addr.add; split <;> simp_all] at h7
      rw [h7]
      have h5 := congrArg (fun l => l[0]?) h4
      simp only [List.getElem?_take, List.getElem?_drop] at h5
      rw [if_pos (by decide)] at h5
      have e6 : j * Ty.str.size + 0 = 0 + j := by show j * 1 + 0 = 0 + j; omega
      rw [e6] at h5
      simpa using h5
    · rintro e w' ⟨rfl, hb⟩
      exact fin _ _ rfl hb

/-- The two, by their numbers. -/
noncomputable def ext (g : Nat) (s : Sg) : Option (s.A.den → Option s.R.den) := by
  classical exact if h : s = s_strconv_FormatInt ∧ g = 31 then some (h.1 ▸ fmtF) else if h : s = s_strings_Join ∧ g = 30 then some (h.1 ▸ joinF) else none
theorem ext_ok : @ExtOk tabBase E ext := by
  intro key s F h _
  unfold ext at h
  split at h
  · rename_i e
    obtain ⟨rfl, rfl⟩ := e
    cases h
    exact fmt_ok
  · split at h
    · rename_i e
      obtain ⟨rfl, rfl⟩ := e
      cases h
      exact join_ok
    · cases h
end Go.Proofs.YtbalepejjjmioaaDoor.Pf
