/- Part of the proof of nodL_holds: what the row needs of AdvM. Conditions: as each theorem states. -/
import Derived.Test.YtbnalhmcbolngaaSnAdvF
import Derived.Test.YtbnalhmcbolngaaSnGJ
import Derived.Test.YtbnalhmcbolngaaSnGC
import Derived.Test.YtbnalhmcbolngaaSnGF
import Derived.Test.YtbnalhmcbolngaaSnGK
import Derived.Test.YtbnalhmcbolngaaSnBoolS
namespace Go.Proofs.Ytbnalhmcbolngaa
set_option linter.unusedSimpArgs false
set_option linter.unusedVariables false
open Go.RowKit
def mskF (l : List (List Bool)) : Nat → Nat → Bool := fun j i => (l.getD j []).getD i false
def pickL (l : List (List Bool)) (n : Nat) : List Nat := pick (mskF l) l.length n
theorem rdMs_one {w : World} {aa : Option Addr} {ca : Nat} {all : List Bool} {b : Nat} (h : Rd w (.slice aa all.length ca) (all.map Value.bool)) (hb : Blk w b #[.slice aa all.length ca] 74) {N : Nat} (hN : N ≤ all.length) : RdMs w.heap.size w (some ⟨b, 0, none⟩) 1 N (mskF [all]) := by
  intro j hj
  obtain rfl : j = 0 := by omega
  obtain ⟨a, cap, hv, hc, hm, hr⟩ := rdB_get h
  injection hv with e1 _ e3
  subst e1; subst e3
  refine ⟨b, 0, aa, all.length, ca, rfl, hb.lt, by have := hb.cell 0; simpa using this, hN, by omega, fun i hi => ?_⟩
  obtain ⟨b2, o2, e1, e2, e3⟩ := hr i (by omega)
  exact ⟨b2, o2, e1, e2, e3⟩
end Go.Proofs.Ytbnalhmcbolngaa
