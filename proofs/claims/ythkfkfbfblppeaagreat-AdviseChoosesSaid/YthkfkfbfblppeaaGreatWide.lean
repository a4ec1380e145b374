/- Walk of Wide of layer 28's laws. Conditions: the list reads as a slice. -/
import Derived.Test.YthkfkfbfblppeaaGreatRatLs
namespace Go.Proofs.YthkfkfbfblppeaaGreat
set_option linter.unusedSimpArgs false
set_option linter.unusedVariables false
open Go.RowKit

/-- What Wide returns. -/
def wideB (l : List RR) : Bool := l.any (fun r => decide (20 < r.num.length) || decide (20 < r.den.length)) || decide (20 < l.length)
theorem wideB_hit {l : List RR} {k : Nat} (hk : k < l.length) (h : 20 < (l.getD k zR).num.length ∨ 20 < (l.getD k zR).den.length) : wideB l = true := by
  unfold wideB
  have hm : l.getD k zR ∈ l := by rw [List.getD_eq_getElem?_getD, List.getElem?_eq_getElem hk]; exact List.getElem_mem hk
  have : (l.any fun r => decide (20 < r.num.length) || decide (20 < r.den.length)) = true := List.any_eq_true.2 ⟨_, hm, by rw [Bool.or_eq_true]; exact h.imp (fun h => decide_eq_true h) (fun h => decide_eq_true h)⟩
  rw [this]; rfl
theorem wideB_not {l : List RR} (h : ∀ j, j < l.length → ¬ 20 < (l.getD j zR).num.length ∧ ¬ 20 < (l.getD j zR).den.length) : wideB l = decide (20 < l.length) := by
  unfold wideB
  have : (l.any fun r => decide (20 < r.num.length) || decide (20 < r.den.length)) = false := by
    rw [List.any_eq_false]
    intro x hx
    obtain ⟨j, hj, rfl⟩ := List.mem_iff_getElem.1 hx
    have := h j hj
    rw [List.getD_eq_getElem?_getD, List.getElem?_eq_getElem hj] at this
    simpa using this
  rw [this]; rfl
theorem wideB_0 {l : List RR} (h : wideB l = false) : l.length ≤ 20 ∧ ∀ j, j < l.length → (l.getD j zR).num.length ≤ 20 ∧ (l.getD j zR).den.length ≤ 20 := by
  unfold wideB at h
  rw [Bool.or_eq_false_iff] at h
  refine ⟨by simpa using h.2, fun j hj => ?_⟩
  have := List.any_eq_false.1 h.1 (l.getD j zR) (by rw [List.getD_eq_getElem?_getD, List.getElem?_eq_getElem hj]; exact List.getElem_mem hj)
  simpa using this

set_option maxHeartbeats 1000000 in
theorem wide_any (v : Value) (l : List RR) (w : World) (h : RdRs w v l) :
    Calls Tryz.prog 77 #[v] w fun e w' => e = .returned (.bool (wideB l)) ∧ w' = w := by
  obtain ⟨a, cap, rfl, hc, hm, f, hr⟩ := h.get
  have HR := Lib.hid hr
  clear h hr
  go_enter Tryz.func77, Tryz.ntmps77
  go_wp2_with fail
  go_loopw [3] (fun i wr => ∃ k : Nat, k ≤ l.length ∧ i = .int .i64 k ∧ (∀ j, j < k → ¬ 20 < (l.getD j zR).num.length ∧ ¬ 20 < (l.getD j zR).den.length) ∧ wr = w) (fun i _ => l.length - (intOf i).toNat)
  case atStart => exact ⟨0, Nat.zero_le _, rfl, (fun j hj => by omega), rfl⟩
  case round =>
    obtain ⟨k, hk, rfl, hok, rfl⟩ := hrel
    have HK := Lib.hid hok; clear hok
    by_cases hlt : k < l.length
    · obtain ⟨b, off, rfl, hb, x0, x1, x2, -⟩ := HR.out k hlt
      have hw1 := fun h => wideB_hit (l := l) hlt h
      have hsu : ¬ 20 < (l.getD k zR).num.length → ¬ 20 < (l.getD k zR).den.length → Hid (∀ j, j < k + 1 → ¬ 20 < (l.getD j zR).num.length ∧ ¬ 20 < (l.getD j zR).den.length) := fun h1 h2 => Lib.hid (fun j hj => by
        by_cases e : j = k
        · subst e; exact ⟨h1, h2⟩
        · exact HK.out j (by omega))
      obtain ⟨r, hrr⟩ : ∃ r, r = l.getD k zR := ⟨_, rfl⟩
      rw [← hrr] at x0 x1 x2 hw1 hsu
      have HW := Lib.hid hw1; have HS := Lib.hid hsu
      have q1 : (0 : Int) ≤ (k : Int) := by omega
      have q2 : (k : Int) < (l.length : Int) := by omega
      clear hrr hw1 hsu
      by_cases h1 : 20 < r.num.length
      · have t1 : (20 : Int) < (r.num.length : Int) := by omega
        have E := Lib.hid (HW.out (.inl h1))
        clear h1
        go_wp2_with fail
        go_ret
        exact ⟨ret_bool E.out.symm, rfl⟩
      · have t1 : ¬ (20 : Int) < (r.num.length : Int) := by omega
        by_cases h2 : 20 < r.den.length
        · have t2 : (20 : Int) < (r.den.length : Int) := by omega
          have E := Lib.hid (HW.out (.inr h2))
          clear h1 h2
          go_wp2_with fail
          go_ret
          exact ⟨ret_bool E.out.symm, rfl⟩
        · have t2 : ¬ (20 : Int) < (r.den.length : Int) := by omega
          have E := HS.out h1 h2
          clear h1 h2
          go_wp2_with fail
          go_roundw
          case rel => exact ⟨k + 1, by omega, by go_num, E.out, by first | rfl | trivial⟩
          case measure => simp [intOf]; omega
    · have hkl : k = l.length := by omega
      have E := Lib.hid (wideB_not (l := l) (by rw [← hkl]; exact HK.out))
      have t1 : decide ((20 : Int) < (l.length : Int)) = decide (20 < l.length) := decide_eq_decide.2 (by omega)
      have T := Lib.hid t1
      clear hkl t1
      go_wp2_with fail
      go_ret
      exact ⟨ret_bool (by rw [E.out]; first | exact T.out | rfl | simp), rfl⟩

end Go.Proofs.YthkfkfbfblppeaaGreat
