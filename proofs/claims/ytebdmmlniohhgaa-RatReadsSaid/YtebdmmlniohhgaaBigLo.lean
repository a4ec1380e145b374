/- Walk of Long of layer 5's law package. Conditions: the slices lie in one block. -/
import Derived.Test.YtebdmmlniohhgaaGF
namespace Go.Proofs.Ytebdmmlniohhgaa
set_option linter.unusedSimpArgs false
set_option linter.unusedVariables false
open Go.RowKit

/-- What Long returns: if it is false, no number is of a length that the laws leave out. -/
def LongB (vs : List (Option Addr × Nat × Nat)) (e : Ending) : Prop := ∃ r, e = .returned (.bool r) ∧ (r = false → ∀ (i : Nat) (hi : i < vs.length), (vs[i]).2.1 ≤ 20 ∨ 512 < (vs[i]).2.1)

set_option maxHeartbeats 1000000 in
theorem long_any (b : Nat) (vs : List (Option Addr × Nat × Nat)) (w : World) (hs : vs.length ≤ 10)
    (h : ∀ (i : Nat) (hi : i < vs.length), w.cell? ⟨b, i, none⟩ = some (.slice (vs[i]).1 (vs[i]).2.1 (vs[i]).2.2)) :
    Calls Try.prog 40 #[.slice (some ⟨b, 0, none⟩) vs.length vs.length] w fun e w' => LongB vs e ∧ Ext w w' := by
  have H := Lib.hid h; clear h
  go_enter Try.func40, Try.ntmps40
  go_wp2_with fail
  go_loopw [3] (fun i wr => ∃ k : Nat, k ≤ vs.length ∧ i = .int .i64 k ∧ wr = w ∧ Hid (∀ (i : Nat) (hi : i < vs.length), i < k → (vs[i]).2.1 ≤ 20 ∨ 512 < (vs[i]).2.1)) (fun i _ => vs.length - (intOf i).toNat)
  case atStart => exact ⟨0, Nat.zero_le _, rfl, rfl, Lib.hid (fun i _ h => by omega)⟩
  case round =>
    obtain ⟨k, hk, rfl, rfl, HK⟩ := hrel
    by_cases hlt : k < vs.length
    · have hc := H.out k hlt
      have hstep : (vs[k]).2.1 ≤ 20 ∨ 512 < (vs[k]).2.1 → Hid (∀ (i : Nat) (hi : i < vs.length), i < k + 1 → (vs[i]).2.1 ≤ 20 ∨ 512 < (vs[i]).2.1) := fun h => Lib.hid (fun i hi h1 => by
        by_cases e : i = k
        · subst e; exact h
        · exact HK.out i hi (by omega))
      obtain ⟨x, hx⟩ : ∃ x, x = vs[k] := ⟨_, rfl⟩
      rw [← hx] at hc hstep
      obtain ⟨a, n, c⟩ := x
      clear hx
      dsimp only at hc hstep
      have q0 : (k : Int) < (vs.length : Int) := by omega
      by_cases h1 : (20 : Int) < (n : Int)
      · by_cases h2 : (n : Int) ≤ 512
        · clear hstep
          go_wp2
          go_ret
          exact ⟨⟨_, rfl, fun h => by cases h⟩, Ext.refl _⟩
        · by_cases h3 : (600 : Int) < (n : Int)
          · clear hstep
            go_wp2
            go_ret
            exact ⟨⟨_, rfl, fun h => by cases h⟩, Ext.refl _⟩
          · have HS := hstep (.inr (by omega))
            clear hstep
            go_wp2
            go_roundw
            case rel => exact ⟨k + 1, by omega, by go_num, trivial, HS⟩
            case measure => simp [intOf]; omega
      · have h3 : ¬ (600 : Int) < (n : Int) := by omega
        have HS := hstep (.inl (by omega))
        clear hstep
        go_wp2
        go_roundw
        case rel => exact ⟨k + 1, by omega, by go_num, trivial, HS⟩
        case measure => simp [intOf]; omega
    · have q0 : ¬ (k : Int) < (vs.length : Int) := by omega
      go_wp2
      go_ret
      exact ⟨⟨_, rfl, fun _ i hi => HK.out i hi (by omega)⟩, Ext.refl _⟩

/-- Two arguments. -/
theorem long2_any (a1 a2 : Option Addr) (n1 n2 c1 c2 : Nat) (w : World) :
    Calls Try.prog 40 #[.slice (some ⟨w.heap.size, 0, none⟩) 2 2] (w.alloc (.cells #[.slice a1 n1 c1, .slice a2 n2 c2] 24)) fun e w' => (∃ r, e = .returned (.bool r) ∧ (r = false → (n1 ≤ 20 ∨ 512 < n1) ∧ (n2 ≤ 20 ∨ 512 < n2))) ∧ Ext w w' := by
  have hb := Blk.new w #[.slice a1 n1 c1, .slice a2 n2 c2] 24
  refine (long_any w.heap.size [(a1, n1, c1), (a2, n2, c2)] _ (by simp) (fun i hi => ?_)).mono ?_
  · have := hb.cell i
    rw [this]
    match i, hi with
    | 0, _ => rfl
    | 1, _ => rfl
  · rintro e w' ⟨⟨r, h, hr⟩, hx⟩
    exact ⟨⟨r, h, fun e => ⟨hr e 0 (by simp), hr e 1 (by simp)⟩⟩, ((Ext.refl w).alloc _).trans hx⟩
/-- Three arguments. -/
theorem long3_any (a1 a2 a3 : Option Addr) (n1 n2 n3 c1 c2 c3 : Nat) (w : World) :
    Calls Try.prog 40 #[.slice (some ⟨w.heap.size, 0, none⟩) 3 3] (w.alloc (.cells #[.slice a1 n1 c1, .slice a2 n2 c2, .slice a3 n3 c3] 24)) fun e w' => (∃ r, e = .returned (.bool r) ∧ (r = false → (n1 ≤ 20 ∨ 512 < n1) ∧ (n2 ≤ 20 ∨ 512 < n2) ∧ (n3 ≤ 20 ∨ 512 < n3))) ∧ Ext w w' := by
  have hb := Blk.new w #[.slice a1 n1 c1, .slice a2 n2 c2, .slice a3 n3 c3] 24
  refine (long_any w.heap.size [(a1, n1, c1), (a2, n2, c2), (a3, n3, c3)] _ (by simp) (fun i hi => ?_)).mono ?_
  · have := hb.cell i
    rw [this]
    match i, hi with
    | 0, _ => rfl
    | 1, _ => rfl
    | 2, _ => rfl
  · rintro e w' ⟨⟨r, h, hr⟩, hx⟩
    exact ⟨⟨r, h, fun e => ⟨hr e 0 (by simp), hr e 1 (by simp), hr e 2 (by simp)⟩⟩, ((Ext.refl w).alloc _).trans hx⟩

/-- One argument. -/
theorem long1_any (a1 : Option Addr) (n1 c1 : Nat) (w : World) :
    Calls Try.prog 40 #[.slice (some ⟨w.heap.size, 0, none⟩) 1 1] (w.alloc (.cells #[.slice a1 n1 c1] 24)) fun e w' => (∃ r, e = .returned (.bool r) ∧ (r = false → (n1 ≤ 20 ∨ 512 < n1))) ∧ Ext w w' := by
  have hb := Blk.new w #[.slice a1 n1 c1] 24
  refine (long_any w.heap.size [(a1, n1, c1)] _ (by simp) (fun i hi => ?_)).mono ?_
  · have := hb.cell i
    rw [this]
    match i, hi with
    | 0, _ => rfl
  · rintro e w' ⟨⟨r, h, hr⟩, hx⟩
    exact ⟨⟨r, h, fun e => hr e 0 (by simp)⟩, ((Ext.refl w).alloc _).trans hx⟩

end Go.Proofs.Ytebdmmlniohhgaa
