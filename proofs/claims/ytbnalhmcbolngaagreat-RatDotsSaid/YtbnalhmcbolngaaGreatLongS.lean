/- Walk of Long of layer 6's laws at a slice of numbers (its text is that of long6_any at another address). Conditions: the numbers read as a slice. -/
import Derived.Test.YtbnalhmcbolngaaGreatGK
import Derived.Test.YtbnalhmcbolngaaGreatRatLs
namespace Go.Proofs.YtbnalhmcbolngaaGreat
set_option linter.unusedSimpArgs false
set_option linter.unusedVariables false
open Go.RowKit

set_option maxHeartbeats 4000000 in
theorem long6o_any (a0 : Option Addr) (cap : Nat) (vs : List (Hd × Hd)) (w : World) (hs : vs.length ≤ 100)
    (h : ∀ (i : Nat) (hi : i < vs.length), ∃ b off, a0 = some ⟨b, off, none⟩ ∧ w.cell? ⟨b, off + i * 3 + 1, none⟩ = some (.slice (vs[i]).1.1 (vs[i]).1.2.1 (vs[i]).1.2.2) ∧ w.cell? ⟨b, off + i * 3 + 2, none⟩ = some (.slice (vs[i]).2.1 (vs[i]).2.2.1 (vs[i]).2.2.2)) :
    Calls Tryz.prog 9 #[.slice a0 vs.length cap] w fun e w' => LongR vs e ∧ Ext w w' := by
  have H := Lib.hid h; clear h
  go_enter Tryz.func9, Tryz.ntmps9
  go_wp2_with fail
  go_loopw [3, 4, 5] (fun i _ _ wr => ∃ k : Nat, k ≤ vs.length ∧ i = .int .i64 k ∧ Ext w wr ∧ (∃ n, wr = w.drewN n) ∧ Hid (∀ (i : Nat) (hi : i < vs.length), i < k → okLen (vs[i]).1.2.1 ∧ okLen (vs[i]).2.2.1)) (fun i _ _ _ => vs.length - (intOf i).toNat)
  case atStart => exact ⟨0, Nat.zero_le _, rfl, Ext.refl _, ⟨0, rfl⟩, Lib.hid (fun i _ h => by omega)⟩
  case round =>
    obtain ⟨k, hk, rfl, hx, ⟨nd, rfl⟩, HK⟩ := hrel
    by_cases hlt : k < vs.length
    · obtain ⟨bq, oq, rfl, hc1, hc2⟩ := H.out k hlt
      have q9 : (0 : Int) ≤ (k : Int) := by omega
      have hstep : okLen (vs[k]).1.2.1 → okLen (vs[k]).2.2.1 → Hid (∀ (i : Nat) (hi : i < vs.length), i < k + 1 → okLen (vs[i]).1.2.1 ∧ okLen (vs[i]).2.2.1) := fun h1 h2 => Lib.hid (fun i hi hik => by
        by_cases e : i = k
        · subst e; exact ⟨h1, h2⟩
        · exact HK.out i hi (by omega))
      obtain ⟨x, hxx⟩ : ∃ x, x = vs[k] := ⟨_, rfl⟩
      rw [← hxx] at hc1 hc2 hstep
      obtain ⟨⟨a, n, c⟩, a2, m, c2⟩ := x
      clear hxx
      dsimp only at hc1 hc2 hstep
      have HS := Lib.hid hstep
      have X := Lib.hid hx
      clear hstep hx
      have q0 : (k : Int) < (vs.length : Int) := by omega
      have hmx : Tryz.prog.follows .mixedOrders = true := by kernel_rfl
      go_wp2_with fail
      go_quiet (fail)
      have hn4 : n ≤ 6 ∨ (6 < n ∧ n ≤ 128) ∨ (128 < n ∧ n ≤ 200) ∨ 200 < n := by omega
      have hm4 : m ≤ 6 ∨ (6 < m ∧ m ≤ 128) ∨ (128 < m ∧ m ≤ 200) ∨ 200 < m := by omega
      have okA : ∀ x : Nat, x ≤ 6 → okLen x := fun x h => ⟨.inl h, by omega⟩
      have okC : ∀ x : Nat, 128 < x ∧ x ≤ 200 → okLen x := fun x h => ⟨.inr h.1, h.2⟩
      have OA := Lib.hid okA; have OC := Lib.hid okC; have X0 := Ext.refl w
      clear okA okC
      clear hc1 hc2
      rcases hn4 with hn | hn | hn | hn
      · rcases hm4 with hm | hm | hm | hm
        · have q1 : ¬ (6 : Int) < (n : Int) := by omega
          have q2 : ¬ (200 : Int) < (n : Int) := by omega
          have r1 : ¬ (6 : Int) < (m : Int) := by omega
          have r2 : ¬ (200 : Int) < (m : Int) := by omega
          have S := HS.out (OA.out _ hn) (OA.out _ hm)
          clear hn hm
          go_wp2
          go_roundw
          case rel => exact ⟨k + 1, by omega, by go_num, X0.drewN _, ⟨_, rfl⟩, S⟩
          case measure => simp [intOf]; omega
        · have q1 : ¬ (6 : Int) < (n : Int) := by omega
          have q2 : ¬ (200 : Int) < (n : Int) := by omega
          have r1 : (6 : Int) < (m : Int) := by omega
          have r2 : (m : Int) ≤ 128 := by omega
          clear hn hm
          go_wp2
          go_ret
          exact ⟨⟨_, rfl, fun h => by cases h⟩, X0.drewN _⟩
        · have q1 : ¬ (6 : Int) < (n : Int) := by omega
          have q2 : ¬ (200 : Int) < (n : Int) := by omega
          have r1 : (6 : Int) < (m : Int) := by omega
          have r2 : ¬ (m : Int) ≤ 128 := by omega
          have r3 : ¬ (200 : Int) < (m : Int) := by omega
          have S := HS.out (OA.out _ hn) (OC.out _ hm)
          clear hn hm
          go_wp2
          go_roundw
          case rel => exact ⟨k + 1, by omega, by go_num, X0.drewN _, ⟨_, rfl⟩, S⟩
          case measure => simp [intOf]; omega
        · have q1 : ¬ (6 : Int) < (n : Int) := by omega
          have q2 : ¬ (200 : Int) < (n : Int) := by omega
          have r1 : (6 : Int) < (m : Int) := by omega
          have r2 : ¬ (m : Int) ≤ 128 := by omega
          have r3 : (200 : Int) < (m : Int) := by omega
          clear hn hm
          go_wp2
          go_ret
          exact ⟨⟨_, rfl, fun h => by cases h⟩, X0.drewN _⟩
      · rcases hm4 with hm | hm | hm | hm
        · have q1 : (6 : Int) < (n : Int) := by omega
          have q2 : (n : Int) ≤ 128 := by omega
          have r1 : ¬ (6 : Int) < (m : Int) := by omega
          have r2 : ¬ (200 : Int) < (m : Int) := by omega
          clear hn hm
          go_wp2
          go_ret
          exact ⟨⟨_, rfl, fun h => by cases h⟩, X0.drewN _⟩
        · have q1 : (6 : Int) < (n : Int) := by omega
          have q2 : (n : Int) ≤ 128 := by omega
          have r1 : (6 : Int) < (m : Int) := by omega
          have r2 : (m : Int) ≤ 128 := by omega
          clear hn hm
          go_wp2
          go_ret
          exact ⟨⟨_, rfl, fun h => by cases h⟩, X0.drewN _⟩
        · have q1 : (6 : Int) < (n : Int) := by omega
          have q2 : (n : Int) ≤ 128 := by omega
          have r1 : (6 : Int) < (m : Int) := by omega
          have r2 : ¬ (m : Int) ≤ 128 := by omega
          have r3 : ¬ (200 : Int) < (m : Int) := by omega
          clear hn hm
          go_wp2
          go_ret
          exact ⟨⟨_, rfl, fun h => by cases h⟩, X0.drewN _⟩
        · have q1 : (6 : Int) < (n : Int) := by omega
          have q2 : (n : Int) ≤ 128 := by omega
          have r1 : (6 : Int) < (m : Int) := by omega
          have r2 : ¬ (m : Int) ≤ 128 := by omega
          have r3 : (200 : Int) < (m : Int) := by omega
          clear hn hm
          go_wp2
          go_ret
          exact ⟨⟨_, rfl, fun h => by cases h⟩, X0.drewN _⟩
      · rcases hm4 with hm | hm | hm | hm
        · have q1 : (6 : Int) < (n : Int) := by omega
          have q2 : ¬ (n : Int) ≤ 128 := by omega
          have q3 : ¬ (200 : Int) < (n : Int) := by omega
          have r1 : ¬ (6 : Int) < (m : Int) := by omega
          have r2 : ¬ (200 : Int) < (m : Int) := by omega
          have S := HS.out (OC.out _ hn) (OA.out _ hm)
          clear hn hm
          go_wp2
          go_roundw
          case rel => exact ⟨k + 1, by omega, by go_num, X0.drewN _, ⟨_, rfl⟩, S⟩
          case measure => simp [intOf]; omega
        · have q1 : (6 : Int) < (n : Int) := by omega
          have q2 : ¬ (n : Int) ≤ 128 := by omega
          have q3 : ¬ (200 : Int) < (n : Int) := by omega
          have r1 : (6 : Int) < (m : Int) := by omega
          have r2 : (m : Int) ≤ 128 := by omega
          clear hn hm
          go_wp2
          go_ret
          exact ⟨⟨_, rfl, fun h => by cases h⟩, X0.drewN _⟩
        · have q1 : (6 : Int) < (n : Int) := by omega
          have q2 : ¬ (n : Int) ≤ 128 := by omega
          have q3 : ¬ (200 : Int) < (n : Int) := by omega
          have r1 : (6 : Int) < (m : Int) := by omega
          have r2 : ¬ (m : Int) ≤ 128 := by omega
          have r3 : ¬ (200 : Int) < (m : Int) := by omega
          have S := HS.out (OC.out _ hn) (OC.out _ hm)
          clear hn hm
          go_wp2
          go_roundw
          case rel => exact ⟨k + 1, by omega, by go_num, X0.drewN _, ⟨_, rfl⟩, S⟩
          case measure => simp [intOf]; omega
        · have q1 : (6 : Int) < (n : Int) := by omega
          have q2 : ¬ (n : Int) ≤ 128 := by omega
          have q3 : ¬ (200 : Int) < (n : Int) := by omega
          have r1 : (6 : Int) < (m : Int) := by omega
          have r2 : ¬ (m : Int) ≤ 128 := by omega
          have r3 : (200 : Int) < (m : Int) := by omega
          clear hn hm
          go_wp2
          go_ret
          exact ⟨⟨_, rfl, fun h => by cases h⟩, X0.drewN _⟩
      · rcases hm4 with hm | hm | hm | hm
        · have q1 : (6 : Int) < (n : Int) := by omega
          have q2 : ¬ (n : Int) ≤ 128 := by omega
          have q3 : (200 : Int) < (n : Int) := by omega
          have r1 : ¬ (6 : Int) < (m : Int) := by omega
          have r2 : ¬ (200 : Int) < (m : Int) := by omega
          clear hn hm
          go_wp2
          go_ret
          exact ⟨⟨_, rfl, fun h => by cases h⟩, X0.drewN _⟩
        · have q1 : (6 : Int) < (n : Int) := by omega
          have q2 : ¬ (n : Int) ≤ 128 := by omega
          have q3 : (200 : Int) < (n : Int) := by omega
          have r1 : (6 : Int) < (m : Int) := by omega
          have r2 : (m : Int) ≤ 128 := by omega
          clear hn hm
          go_wp2
          go_ret
          exact ⟨⟨_, rfl, fun h => by cases h⟩, X0.drewN _⟩
        · have q1 : (6 : Int) < (n : Int) := by omega
          have q2 : ¬ (n : Int) ≤ 128 := by omega
          have q3 : (200 : Int) < (n : Int) := by omega
          have r1 : (6 : Int) < (m : Int) := by omega
          have r2 : ¬ (m : Int) ≤ 128 := by omega
          have r3 : ¬ (200 : Int) < (m : Int) := by omega
          clear hn hm
          go_wp2
          go_ret
          exact ⟨⟨_, rfl, fun h => by cases h⟩, X0.drewN _⟩
        · have q1 : (6 : Int) < (n : Int) := by omega
          have q2 : ¬ (n : Int) ≤ 128 := by omega
          have q3 : (200 : Int) < (n : Int) := by omega
          have r1 : (6 : Int) < (m : Int) := by omega
          have r2 : ¬ (m : Int) ≤ 128 := by omega
          have r3 : (200 : Int) < (m : Int) := by omega
          clear hn hm
          go_wp2
          go_ret
          exact ⟨⟨_, rfl, fun h => by cases h⟩, X0.drewN _⟩
    · have q0 : ¬ (k : Int) < (vs.length : Int) := by omega
      go_wp2
      go_ret
      exact ⟨⟨_, rfl, fun _ i hi => HK.out i hi (by omega)⟩, hx⟩

/-- The headers of a list of numbers. -/
def hdsOf (f : Nat → (Option Addr × Nat) × (Option Addr × Nat)) (l : List RR) : List (Hd × Hd) := (List.range l.length).map fun i => (((f i).1.1, (l.getD i zR).num.length, (f i).1.2), ((f i).2.1, (l.getD i zR).den.length, (f i).2.2))
theorem hdsOf_len (f : Nat → (Option Addr × Nat) × (Option Addr × Nat)) (l : List RR) : (hdsOf f l).length = l.length := by simp [hdsOf]
theorem hdsOf_at (f : Nat → (Option Addr × Nat) × (Option Addr × Nat)) (l : List RR) (i : Nat) (hi : i < (hdsOf f l).length) : (hdsOf f l)[i] = (((f i).1.1, (l.getD i zR).num.length, (f i).1.2), ((f i).2.1, (l.getD i zR).den.length, (f i).2.2)) := by
  simp only [hdsOf, List.getElem_map, List.getElem_range]
/-- Long at a slice of numbers. -/
theorem long6s_any (v : Value) (l : List RR) (w : World) (h : RdRs w v l) (hs : l.length ≤ 100) :
    Calls Tryz.prog 9 #[v] w fun e w' => (∃ r, e = .returned (.bool r) ∧ (r = false → ∀ i, i < l.length → okLen (l.getD i zR).num.length ∧ okLen (l.getD i zR).den.length)) ∧ Ext w w' := by
  obtain ⟨a, cap, rfl, hc, hm, f, hr⟩ := h.get
  have hl := hdsOf_len f l
  have := long6o_any a cap (hdsOf f l) w (by rw [hl]; exact hs) (fun i hi => by
    obtain ⟨b, off, e, _, _, x1, x2, _⟩ := hr i (by rw [← hl]; exact hi)
    rw [hdsOf_at]
    exact ⟨b, off, e, x1, x2⟩)
  rw [hl] at this
  refine this.mono ?_
  rintro e w' ⟨⟨r, rfl, h2⟩, hx⟩
  refine ⟨⟨r, rfl, fun e i hi => ?_⟩, hx⟩
  have := h2 e i (by rw [hl]; exact hi)
  rw [hdsOf_at] at this
  exact this

end Go.Proofs.YtbnalhmcbolngaaGreat
