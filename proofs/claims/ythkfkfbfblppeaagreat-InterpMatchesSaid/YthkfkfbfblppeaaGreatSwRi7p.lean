/- Part of the proof of imatL_holds: what the row needs of Ri7p. Conditions: as each theorem states. -/
import Derived.Test.YthkfkfbfblppeaaGreatSwGM
import Derived.Test.YthkfkfbfblppeaaGreatSwInU
import Derived.Test.YthkfkfbfblppeaaGreatSwRatSc
namespace Go.Proofs.YthkfkfbfblppeaaGreat
set_option linter.unusedSimpArgs false
set_option linter.unusedVariables false
open Go.RowKit
theorem bd_zero0 : bd 0 1 := ⟨by decide, by decide⟩
theorem wt_bd {c : List Int} (hb : SmallC c) (hasc : Asc c) {X : Int} (h0 : -1073741824 ≤ X) (h1 : X ≤ 1073741824) {i : Nat} (hi : i < c.length) : bd (wt c X i) 1 := by
  have b0 := hb i hi
  unfold wt
  split
  · exact bd_one
  · split
    · rename_i h2 h3
      have b1 := hb (i + 1) h3.1
      exact bd_ratio (by omega) (by omega) (by omega) (by omega)
    · split
      · rename_i h2 h3 h4
        have b1 := hb (i - 1) (by omega)
        exact bd_ratio (by omega) (by omega) (by omega) (by omega)
      · exact bd_zero0
def wK (g : List (List Int)) (x : List Int) (v k : Nat) : RR := rep (wpr g (xsOf g x) (plc g v) k)
def wtK (g : List (List Int)) (x : List Int) (v k : Nat) : RR := rep (wt (g.getD k []) (xsOf g x k) (plc g v k))
theorem xs_bd {g : List (List Int)} (ok : GridOk g) (x : List Int) {k : Nat} (hk : k < g.length) : -1073741824 ≤ xsOf g x k ∧ xsOf g x k ≤ 1073741824 := by
  obtain ⟨a1, _, a3, a4⟩ := ok.ax k hk
  obtain ⟨h1, h2⟩ := clamp_in a3 a1 (x.getD k 0)
  have b0 := a4 0 a1
  have b1 := a4 ((g.getD k []).length - 1) (by omega)
  unfold xsOf
  omega
theorem wpr_bd {g : List (List Int)} (ok : GridOk g) (x : List Int) (v : Nat) : ∀ k, k ≤ g.length → bd (wpr g (xsOf g x) (plc g v) k) (k + 1)
  | 0, _ => bd_one
  | k + 1, hk => by
    obtain ⟨a1, _, a3, a4⟩ := ok.ax k hk
    have h := xs_bd ok x (k := k) hk
    have := bd_mul (wpr_bd ok x v k (by omega)) (wt_bd a4 a3 h.1 h.2 (plc_lt (pos_of ok) hk v))
    rwa [Nat.add_assoc] at this
theorem lenR_bd {q : Rat} {k : Nat} (h : bd q k) (hk : k ≤ 128) : lenR (rep q) 2000 := by
  obtain ⟨h1, h2⟩ := small_of_bd h hk
  exact ⟨Nat.le_trans h1 (by decide), Nat.le_trans h2 (by decide)⟩
def vtsL (g : List (List Int)) (x : List Int) (k : Nat) : List (Nat × RR) := (((List.range k).filter fun v => wpr g (xsOf g x) (plc g v) g.length != 0).map fun v => (v, wK g x v g.length))
theorem vtsL_succ (g : List (List Int)) (x : List Int) (k : Nat) : vtsL g x (k + 1) = if wpr g (xsOf g x) (plc g k) g.length = 0 then vtsL g x k else vtsL g x k ++ [(k, wK g x k g.length)] := by
  unfold vtsL
  rw [List.range_succ, List.filter_append, List.map_append]
  by_cases h : wpr g (xsOf g x) (plc g k) g.length = 0
  · rw [if_pos h]; simp [h]
  · rw [if_neg h]; simp [h]
theorem vtsL_all (g : List (List Int)) (x : List Int) : vtsL g x (gsize g) = repL (wtsL g (xsOf g x) g.length) := by
  rw [wtsL_all g.length (Nat.le_refl _), List.take_length]
  unfold vtsL repL wK
  rw [List.map_map]
  rfl
theorem vtsL_len (g : List (List Int)) (x : List Int) (k : Nat) : (vtsL g x k).length ≤ k := by
  unfold vtsL
  rw [List.length_map]
  exact Nat.le_trans (List.length_filter_le _ _) (by simp)
end Go.Proofs.YthkfkfbfblppeaaGreat
