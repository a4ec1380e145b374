/- Part of the proof of imatL_holds: what the row needs of AdvO. Conditions: as each theorem states. -/
import Derived.Test.YthkfkfbfblppeaaGreatSwAdvF
import Derived.Test.YthkfkfbfblppeaaGreatSwRatSa
import Derived.Test.YthkfkfbfblppeaaGreatSwBoolS
import Derived.Test.YthkfkfbfblppeaaGreatSwGI
import Derived.Test.YthkfkfbfblppeaaGreatSwGB
namespace Go.Proofs.YthkfkfbfblppeaaGreat
set_option linter.unusedSimpArgs false
set_option linter.unusedVariables false
open Go.RowKit
theorem rdN_blk {w : World} {b : Nat} {c : Array Value} {t : TypeId} (h : Blk w b c t) (m n : Nat) (l : List (List Value)) (hl : l.length = n) (hm : ∀ x ∈ l, x.length = m) (hc : c.toList = l.flatten) (hn : c.size = n * m) (hs : n ≤ 1000000) : RdN m w (.slice (some ⟨b, 0, none⟩) n n) l := by
  subst hl
  refine own_rdN (B := 0) (e := t) ⟨by rw [← hc, ← hn, Array.length_toList], .inr ⟨b, l.length, c, rfl, by omega, h, Nat.le_refl _, by unfold maxLen; omega, hn, ?_⟩⟩ hm
  rw [← hn, ← Array.length_toList, List.take_length, hc]
theorem rdRs_blk {w : World} {b : Nat} {c : Array Value} {t : TypeId} (h : Blk w b c t) (rs : List RR) (hs : List (List Value)) (hl : hs.length = rs.length) (hc : c.toList = hs.flatten) (hm : ∀ x ∈ hs, x.length = 3) (hk : rs.length ≤ 1000000)
    (he : ∀ (i : Nat) x, rs[i]? = some x → ∃ a1 c1 a2 c2, hs[i]? = some [.bool x.neg, .slice a1 x.num.length c1, .slice a2 x.den.length c2] ∧ RdI .u32 w (.slice a1 x.num.length c1) x.num ∧ RdI .u32 w (.slice a2 x.den.length c2) x.den) : RdRs w (.slice (some ⟨b, 0, none⟩) rs.length rs.length) rs := by
  have hn : c.size = rs.length * 3 := by rw [← Array.length_toList, hc, flatten_len hs hm, hl]
  obtain ⟨a, cap, hv, h1, h2, h3⟩ := rdN_blk h 3 rs.length hs hl hm hc hn hk
  rw [hl] at hv
  injection hv with e1 _ e3
  subst e1; subst e3
  refine ⟨_, _, rfl, Nat.le_refl _, by omega, fun i hi => ?_⟩
  have hx : rs[i]? = some (rs.getD i zR) := by rw [List.getD_eq_getElem?_getD, List.getElem?_eq_getElem hi]; rfl
  obtain ⟨a1, c1, a2, c2, e4, r1, r2⟩ := he i _ hx
  obtain ⟨b', off, e5, e6, e7⟩ := h3 i (by omega)
  have e8 : hs.getD i [] = [.bool (rs.getD i zR).neg, .slice a1 (rs.getD i zR).num.length c1, .slice a2 (rs.getD i zR).den.length c2] := by rw [List.getD_eq_getElem?_getD, e4]; rfl
  rw [e8] at e7
  exact ⟨b', off, a1, c1, a2, c2, e5, e6, e7 0 (by omega), e7 1 (by omega), e7 2 (by omega), r1, r2⟩
end Go.Proofs.YthkfkfbfblppeaaGreat
