/- How many values there are at a place of an expression; items of lists. No condition. -/
import Derived.Test.YtjgfofcgmcnblaaGreatPfL
set_option linter.all false
namespace Go.Proofs.YtjgfofcgmcnblaaGreat.Pf
open Go Go.Pv
/-! ### How many values are there at a place-/
def tk(e:List Tm)(i:Nat):Int:=if h:i<e.length then takes e[i].1 else 0
theorem tk_lt {e:List Tm}{i:Nat}(h:i<e.length):tk e i=takes e[i].1:=dif_pos h
def dep(e:List Tm):Nat→Int
  |0=>0
  |i+1=>dep e i+(1-tk e i)
theorem dep_succ {e:List Tm}{i:Nat}(h:i<e.length):dep e (i+1)=dep e i+(1-takes e[i].1):=by rw[dep,tk_lt h]
theorem okGo_dep {e:List Tm}:∀(d j:Nat),e.length-j=d→j≤e.length→okGo (dep e j) (e.drop j)→(∀(i:Nat)(h:i<e.length),j≤i→TmOk (dep e i) e[i])∧dep e e.length=1:=by
  intro d
  induction d with
  | zero=>
    intro j hd hj h;obtain rfl:j=e.length:=by omega
    rw[okGo_end (Nat.le_refl _)]at h;exact⟨fun i hi hji=>by omega,h⟩
  | succ d ih=>
    intro j hd hj h;have hj:j<e.length:=by omega
    rw[okGo_drop hj]at h;obtain⟨h1,h2⟩:=ih (j+1) (by omega) (by omega) (by unfold dep;rw[tk_lt hj];exact h.2);refine⟨fun i hi hji=>?_,h2⟩;rcases Nat.lt_or_ge j i with h3|h3
    . exact h1 i hi h3
    . obtain rfl:i=j:=by omega
      exact h.1
theorem ExpOk.at {e:List Tm}(h:ExpOk e){i:Nat}(hi:i<e.length):TmOk (dep e i) e[i]:=(okGo_dep e.length 0 rfl (Nat.zero_le _) h.2).1 i hi (Nat.zero_le _)
theorem ExpOk.last {e:List Tm}(h:ExpOk e):dep e e.length=1:=(okGo_dep e.length 0 rfl (Nat.zero_le _) h.2).2
theorem ExpOk.pos {e:List Tm}(h:ExpOk e):0<e.length:=by
  have:=h.last;rcases Nat.eq_zero_or_pos e.length with h1|h1
  . rw[h1]at this;exact absurd (show(0:Int)=1 from this) (by omega)
  . exact h1
theorem dep_le {e:List Tm}(he:ExpOk e):∀y,y≤e.length→0≤dep e y∧dep e y≤y:=by
  intro y
  induction y with
  |zero=>intro _;exact⟨Int.le_refl _,Int.le_refl _⟩
  | succ y ih=>
    intro h;have h1:=ih (by omega);have h2:=he.at (i:=y) (by omega);unfold TmOk at h2;rw[dep_succ (by omega)];omega
def geti(l:List Int)(n:Int):Int:=if h:n.toNat<l.length then l[n.toNat]else 0
theorem geti_lt {l:List Int}{n:Int}(h:n.toNat<l.length):geti l n=l[n.toNat]:=dif_pos h
end Go.Proofs.YtjgfofcgmcnblaaGreat.Pf
