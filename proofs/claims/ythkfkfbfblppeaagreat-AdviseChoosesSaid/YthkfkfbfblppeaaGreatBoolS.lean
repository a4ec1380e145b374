/- Slices of booleans: reading, comparing, copying. Conditions: the arguments read as slices. -/
import Derived.Test.YthkfkfbfblppeaaGreatGA
namespace Go.Proofs.YthkfkfbfblppeaaGreat
set_option linter.unusedSimpArgs false
set_option linter.unusedVariables false
open Go.RowKit

theorem rdB_get {w : World} {v : Value} {l : List Bool} (h : Rd w v (l.map Value.bool)) : ∃ a cap, v = .slice a l.length cap ∧ l.length ≤ cap ∧ cap ≤ 9223372036854775807 ∧
    ∀ i, i < l.length → ∃ b off, a = some ⟨b, off, none⟩ ∧ b < w.heap.size ∧ w.cell? ⟨b, off + i, none⟩ = some (.bool (l.getD i false)) := by
  obtain ⟨a, cap, hv, hc, hm, hr⟩ := h
  simp only [List.length_map] at hv hc hr
  refine ⟨a, cap, hv, hc, hm, fun i hi => ?_⟩
  obtain ⟨b, off, ha, hb, hx⟩ := hr i hi
  exact ⟨b, off, ha, hb, by rw [hx]; simp [hi]⟩

set_option maxHeartbeats 400000 in
theorem equalBools_any (v1 v2 : Value) (l1 l2 : List Bool) (w : World) (h1 : Rd w v1 (l1.map Value.bool)) (h2 : Rd w v2 (l2.map Value.bool)) :
    Calls Tryz.prog 38 #[v1, v2] w fun e w' => e = .returned (.bool (decide (l1 = l2))) ∧ Ext w w' := by
  obtain ⟨a1, c1, rfl, hc1, hm1, hr1⟩ := (rdB_get h1)
  obtain ⟨a2, c2, rfl, hc2, hm2, hr2⟩ := (rdB_get h2)
  clear h1 h2
  by_cases hlen : l1.length = l2.length
  · have H1 := Lib.hid hr1; clear hr1
    have H2 := Lib.hid hr2; clear hr2
    rw [← hlen]
    rw [← hlen] at H2 hc2
    have HL := Lib.hid hlen; clear hlen
    go_enter Tryz.func38, Tryz.ntmps38
    go_wp2
    go_loopw [5] (fun i wr => ∃ k : Nat, k ≤ l1.length ∧ i = .int .i64 k ∧ l1.take k = l2.take k ∧ ∃ n, wr = w.drewN n)
      (fun i _ => l1.length - (intOf i).toNat)
    case atStart => exact ⟨0, Nat.zero_le _, rfl, rfl, 0, rfl⟩
    case round =>
      obtain ⟨k, hk, rfl, htake, n, rfl⟩ := hrel
      have HT := Lib.hid htake; clear htake
      by_cases hlt : k < l1.length
      · obtain ⟨b1, o1, rfl, hb1, hx1⟩ := H1.out k hlt
        obtain ⟨b2, o2, rfl, hb2, hx2⟩ := H2.out k hlt
        go_wp2_with fail
        go_quiet (fail)
        go_wp2
        · have hne : (l1[k] != l2[k]?.getD false) = true := by assumption
          go_ret
          refine ⟨ret_bool ?_, ((Ext.refl w).drewN _).drewN _⟩
          rw [eq_comm, decide_eq_false_iff_not]
          rintro rfl
          simp [hlt] at hne
        · have he : (l1[k] != l2[k]?.getD false) = false := by assumption
          have hlt2 : k < l2.length := HL.out ▸ hlt
          go_roundw
          case rel => exact ⟨k + 1, by omega, by go_num, take_succ_eq HT.out hlt hlt2 (by simpa [hlt2] using he), _, rfl⟩
          case measure => simp [intOf]; omega
      · go_wp2
        go_ret
        refine ⟨ret_bool ?_, (Ext.refl w).drewN _⟩
        have := HT.out
        rw [List.take_of_length_le (by omega), List.take_of_length_le (by have := HL.out; omega)] at this
        simp [this]
  · have hb : (l1.length != l2.length) = true := by simpa using hlen
    go_enter Tryz.func38, Tryz.ntmps38
    go_wp2
    go_ret
    refine ⟨ret_bool ?_, Ext.refl w⟩
    rw [eq_comm, decide_eq_false_iff_not]
    rintro rfl
    exact hlen rfl

theorem Tryz.infoBo : (Tryz.prog.info? 4).map (fun i => (i.zero, i.size, i.bytes)) = some (some (.bool false), 1, 1) := by kernel_rfl
/-- A row of booleans of the call's own. -/
abbrev OwBo (w : World) (B : Nat) (v : Value) (l : List Bool) : Prop := w.ownsRow B 4 1 v l.length (l.map Value.bool)
theorem OwBo.rd {w : World} {B : Nat} {v : Value} {l : List Bool} (h : OwBo w B v l) : Rd w v (l.map Value.bool) := own_rd (B := B) (e := 4) (by rw [List.length_map]; exact h)
theorem map_take_succB {α β : Type} (f : α → β) (l : List α) (k : Nat) (h : k < l.length) : (l.take (k + 1)).map f = (l.take k).map f ++ [f l[k]] := by
  rw [List.take_succ_eq_append_getElem h, List.map_append]; rfl

set_option maxHeartbeats 1000000 in
theorem copyBools_any (v : Value) (l : List Bool) (w : World) (h : Rd w v (l.map Value.bool)) (hs : l.length ≤ 1000000000) :
    Calls Tryz.prog 32 #[v] w fun e w' => (∃ v', e = .returned v' ∧ OwBo w' w.heap.size v' l) ∧ Ext w w' := by
  obtain ⟨a1, c1, rfl, hc1, hm1, hr1⟩ := rdB_get h
  clear h
  have H1 := Lib.hid hr1; clear hr1
  go_enter Tryz.func32, Tryz.ntmps32
  go_wp2
  go_loopw [3, 4] (fun v i wr => ∃ k : Nat, k ≤ l.length ∧ i = .int .i64 k ∧ OwBo wr w.heap.size v (l.take k) ∧ Ext w wr) (fun _ i _ => l.length - (intOf i).toNat)
  case atStart => exact ⟨0, Nat.zero_le _, rfl, World.ownsRow_nil _ _ _ _, Ext.refl w⟩
  case round =>
    obtain ⟨k, hk, rfl, hown, hext⟩ := hrel
    by_cases hlt : k < l.length
    · obtain ⟨b1, o1, rfl, hb1, hx1⟩ := H1.out k hlt
      have hx2 := (hext.cell (p := ⟨b1, o1 + k, none⟩) hb1).trans hx1
      clear hx1
      have hz := hext.size
      have hlk := List.length_take_of_le (Nat.le_of_lt hlt)
      rw [OwBo, hlk] at hown
      have HO := Lib.hid hown; clear hown
      have HE := Lib.hid hext; clear hext
      have HL := Lib.hid hlk; clear hlk
      go_wp2_with (at_builtin; (refine wpList_append_new wr rfl _ _ 49 rfl w.heap.size 4 (.bool false) 1 1 Tryz.underlying49 Tryz.infoBo rfl (by decide) _ _ _ HO.out rfl [_] rfl (by simp [Value.oneCell']) rfl (by omega) (by omega) hz ?_))
      intro g cap w1 hown1 hb1
      have HO1 := Lib.hid hown1; clear hown1
      have HB1 := Lib.hid hb1; clear hb1
      go_wp2
      go_roundw
      case rel =>
        refine ⟨k + 1, by omega, by go_num, ?_, Below.trans HE.out HB1.out⟩
        have := HO1.out
        rw [OwBo, map_take_succB _ _ _ hlt, List.length_take_of_le (by omega)]
        simpa [hlt] using this
      case measure => simp [intOf]; omega
    · rw [List.take_of_length_le (by omega)] at hown
      have HO := Lib.hid hown; have HE := Lib.hid hext; clear hown hext
      go_wp2
      go_ret
      exact ⟨⟨_, rfl, HO.out⟩, HE.out⟩

end Go.Proofs.YthkfkfbfblppeaaGreat
