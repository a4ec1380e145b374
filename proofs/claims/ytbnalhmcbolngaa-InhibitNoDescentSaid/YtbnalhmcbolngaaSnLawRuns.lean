/- Part of the proof of nodL_holds: what the row needs of LawRuns. Conditions: as each theorem states. -/
import Derived.Test.YtbnalhmcbolngaaSnAdvM
import Derived.Test.YtbnalhmcbolngaaSnAdvN
import Derived.Test.YtbnalhmcbolngaaSnEq
import Derived.Test.YtbnalhmcbolngaaSnRunP
import Derived.Test.YtbnalhmcbolngaaSnRatLs
namespace Go.Proofs.Ytbnalhmcbolngaa
set_option linter.unusedSimpArgs false
set_option linter.unusedVariables false
open Go.RowKit
theorem idx_at {t n k m : Nat} (ht : t ≤ 60) (hn : n ≤ 20) (hk : k < n) : (wrap64 (wrap64 ((t : Int) * n) + k)).tmod (m : Int) = (((t * n + k) % m : Nat) : Int) := by
  have h : t * n ≤ 60 * 20 := Nat.mul_le_mul ht hn
  rw [← Int.natCast_mul]
  generalize t * n = q at h ⊢
  have e : wrap64 (q : Int) = q := by unfold wrap64; omega
  have e2 : wrap64 ((q : Int) + k) = ((q + k : Nat) : Int) := by unfold wrap64; omega
  rw [e, e2]
  rfl
def prices (cs : List Int) (n t : Nat) : List RR := (List.range n).map fun b => rep ((cs.getD ((t * n + b) % cs.length) 0 : Int) : Rat)
theorem prices_len (cs : List Int) (n t : Nat) : (prices cs n t).length = n := by unfold prices; simp
theorem prices_get {cs : List Int} {n t k : Nat} (h : k < n) : (prices cs n t).getD k zR = rep ((cs.getD ((t * n + k) % cs.length) 0 : Int) : Rat) := by
  unfold prices
  rw [List.getD_eq_getElem?_getD, List.getElem?_map, List.getElem?_range h]
  rfl
end Go.Proofs.Ytbnalhmcbolngaa
