/- The verifier's own helpers on limbs: EqualNat, CopyNat, OverNat. Conditions: the arguments read as slices; what is overwritten is the call's own. -/
import Derived.Test.YtoicjiiifffciaaBigF
namespace Go.Proofs.Ytoicjiiifffciaa
set_option linter.unusedSimpArgs false
set_option linter.unusedVariables false
open Go.RowKit

/-- A result of the call's own: it lies in a block that is new. -/
def NewV (w w' : World) (v : Value) (l : List Int) : Prop := ∃ o, OwV w' o v l ∧ ∀ g, o = some g → w.heap.size ≤ g

theorem NewV.rd {w w' : World} {v : Value} {l : List Int} (h : NewV w w' v l) : RdI .u32 w' v l := by obtain ⟨o, h1, _⟩ := h; exact h1.rdI
theorem NewV.ext {w w' w2 : World} {v : Value} {l : List Int} (h : NewV w w' v l) (x : Ext w' w2) : NewV w w2 v l := by obtain ⟨o, h1, h2⟩ := h; exact ⟨o, h1.ext x, h2⟩
theorem NewV.from {w0 w w' : World} {v : Value} {l : List Int} (h : NewV w w' v l) (x : Ext w0 w) : NewV w0 w' v l := by obtain ⟨o, h1, h2⟩ := h; exact ⟨o, h1, fun g hg => Nat.le_trans x.size (h2 g hg)⟩
theorem NewV.of_own {w w' : World} {v : Value} {l : List Int} (h : w'.ownsRow w.heap.size 50 1 v l.length (l.map (Value.int .u32))) : NewV w w' v l := OwV.own h
theorem NewV.nil (w w' : World) : NewV w w' (.slice none 0 0) [] := ⟨none, .nil w', fun g h => by cases h⟩

set_option maxHeartbeats 400000 in
theorem equalLimbs_any (v1 v2 : Value) (l1 l2 : List Int) (w : World) (h1 : RdI .u32 w v1 l1) (h2 : RdI .u32 w v2 l2) :
    Calls Try.prog 55 #[v1, v2] w fun e w' => e = .returned (.bool (decide (l1 = l2))) ∧ Ext w w' := by
  obtain ⟨a1, c1, rfl, hc1, hm1, hr1⟩ := rdU h1
  obtain ⟨a2, c2, rfl, hc2, hm2, hr2⟩ := rdU h2
  clear h1 h2
  by_cases hlen : l1.length = l2.length
  · have H1 := Lib.hid hr1; clear hr1
    have H2 := Lib.hid hr2; clear hr2
    rw [← hlen]
    rw [← hlen] at H2 hc2
    have HL := Lib.hid hlen; clear hlen
    go_enter Try.func55, Try.ntmps55
    go_wp2
    go_loopw [5] (fun i wr => ∃ k : Nat, k ≤ l1.length ∧ i = .int .i64 k ∧ l1.take k = l2.take k ∧ ∃ n, wr = w.drewN n)
      (fun i _ => l1.length - (intOf i).toNat)
    case atStart => exact ⟨0, Nat.zero_le _, rfl, rfl, 0, rfl⟩
    case round =>
      obtain ⟨k, hk, rfl, htake, n, rfl⟩ := hrel
      have HT := Lib.hid htake; clear htake
      by_cases hlt : k < l1.length
      · obtain ⟨b1, o1, rfl, hb1, hx1⟩ := H1.out k hlt
        obtain ⟨b2, o2, rfl, hb2, hx2⟩ := H2.out k hlt
        go_wp2_with fail
        go_quiet (fail)
        go_wp2
        · have hne : (l1[k] != l2[k]?.getD 0) = true := by assumption
          go_ret
          refine ⟨ret_bool ?_, ((Ext.refl w).drewN _).drewN _⟩
          rw [eq_comm, decide_eq_false_iff_not]
          rintro rfl
          simp [hlt] at hne
        · have he : (l1[k] != l2[k]?.getD 0) = false := by assumption
          have hlt2 : k < l2.length := HL.out ▸ hlt
          go_roundw
          case rel => exact ⟨k + 1, by omega, by go_num, take_succ_eq HT.out hlt hlt2 (by simpa [hlt2] using he), _, rfl⟩
          case measure => simp [intOf]; omega
      · go_wp2
        go_ret
        refine ⟨ret_bool ?_, (Ext.refl w).drewN _⟩
        have := HT.out
        rw [List.take_of_length_le (by omega), List.take_of_length_le (by have := HL.out; omega)] at this
        simp [this]
  · have hb : (l1.length != l2.length) = true := by simpa using hlen
    go_enter Try.func55, Try.ntmps55
    go_wp2
    go_ret
    refine ⟨ret_bool ?_, Ext.refl w⟩
    rw [eq_comm, decide_eq_false_iff_not]
    rintro rfl
    exact hlen rfl

theorem equalNat_any (v1 v2 : Value) (l1 l2 : List Int) (w : World) (h1 : RdI .u32 w v1 l1) (h2 : RdI .u32 w v2 l2) :
    Calls Try.prog 23 #[v1, v2] w fun e w' => e = .returned (.bool (decide (l1 = l2))) ∧ Ext w w' := by
  have H1 := Lib.hid h1; have H2 := Lib.hid h2
  obtain ⟨a1, c1, rfl, hc1, hm1, hr1⟩ := rdU h1
  obtain ⟨a2, c2, rfl, hc2, hm2, hr2⟩ := rdU h2
  clear h1 h2 hr1 hr2
  go_enter Try.func23, Try.ntmps23
  go_wp2_with fail
  refine (equalLimbs_any _ _ l1 l2 _ H1.out H2.out).mono ?_
  rintro e w1 ⟨rfl, hx1⟩
  go_wp2
  go_ret
  exact ⟨rfl, hx1⟩

abbrev OwU (w : World) (B : Nat) (v : Value) (l : List Int) : Prop := w.ownsRow B 50 1 v l.length (l.map (Value.int .u32))

theorem map_take_succU {α β : Type} (f : α → β) (l : List α) (k : Nat) (h : k < l.length) : (l.take (k + 1)).map f = (l.take k).map f ++ [f l[k]] := by
  rw [List.take_succ_eq_append_getElem h, List.map_append]; rfl

set_option maxHeartbeats 400000 in
theorem copyLimbs_any (v1 : Value) (l1 : List Int) (w : World) (h1 : RdI .u32 w v1 l1) (hs : l1.length ≤ 1000000000) :
    Calls Try.prog 58 #[v1] w fun e w' => (∃ v, e = .returned v ∧ NewV w w' v l1) ∧ Ext w w' := by
  obtain ⟨a1, c1, rfl, hc1, hm1, hr1⟩ := rdU h1
  clear h1
  have H1 := Lib.hid hr1; clear hr1
  go_enter Try.func58, Try.ntmps58
  go_wp2
  go_loopw [3, 4] (fun v i wr => ∃ k : Nat, k ≤ l1.length ∧ i = .int .i64 k ∧ OwU wr w.heap.size v (l1.take k) ∧ Ext w wr)
    (fun _ i _ => l1.length - (intOf i).toNat)
  case atStart => exact ⟨0, Nat.zero_le _, rfl, World.ownsRow_nil _ _ _ _, Ext.refl w⟩
  case round =>
    obtain ⟨k, hk, rfl, hown, hext⟩ := hrel
    by_cases hlt : k < l1.length
    · obtain ⟨b1, o1, rfl, hb1, hx1⟩ := H1.out k hlt
      have hx2 := (hext.cell (p := ⟨b1, o1 + k, none⟩) hb1).trans hx1
      clear hx1
      have hz := hext.size
      have hl := List.length_take_of_le (Nat.le_of_lt hlt)
      rw [OwU, hl] at hown
      have HO := Lib.hid hown; clear hown
      have HE := Lib.hid hext; clear hext
      have HL := Lib.hid hl; clear hl
      go_wp2_with (at_builtin; (refine wpList_append_new wr rfl _ _ 22 rfl w.heap.size 50 (.int .u32 0) 1 4 Try.underlying22 Try.infoU rfl (by decide) _ _ _ HO.out rfl [_] rfl (by simp [Value.oneCell']) rfl (by omega) (by omega) hz ?_))
      intro g cap w1 hown1 hb1
      have HO1 := Lib.hid hown1; clear hown1
      have HB1 := Lib.hid hb1; clear hb1
      go_wp2
      go_roundw
      case rel =>
        refine ⟨k + 1, by omega, by go_num, ?_, Below.trans HE.out HB1.out⟩
        have := HO1.out
        rw [OwU, map_take_succU _ _ _ hlt, List.length_take_of_le (by omega)]
        simpa [hlt] using this
      case measure => simp [intOf]; omega
    · rw [List.take_of_length_le (by omega)] at hown
      have HO := Lib.hid (NewV.of_own hown); have HE := Lib.hid hext; clear hown hext
      go_wp2
      go_ret
      exact ⟨⟨_, rfl, HO.out⟩, HE.out⟩

theorem copyNat_any (v1 : Value) (l1 : List Int) (w : World) (h1 : RdI .u32 w v1 l1) (hs : l1.length ≤ 1000000000) :
    Calls Try.prog 26 #[v1] w fun e w' => (∃ v, e = .returned v ∧ NewV w w' v l1) ∧ Ext w w' := by
  have H1 := Lib.hid h1
  obtain ⟨a1, c1, rfl, hc1, hm1, hr1⟩ := rdU h1
  clear h1 hr1
  go_enter Try.func26, Try.ntmps26
  go_wp2_with fail
  refine (copyLimbs_any _ l1 _ H1.out hs).mono ?_
  rintro e w1 ⟨⟨v, rfl, ho⟩, hx1⟩
  have HO := Lib.hid ho; have HX := Lib.hid hx1; clear hx1 ho
  go_wp2
  go_ret
  exact ⟨⟨_, rfl, HO.out⟩, HX.out⟩

set_option maxHeartbeats 1000000 in
theorem overLimbs_any (o : Option Nat) (v : Value) (l : List Int) (w : World) (h : OwV w o v l) :
    Calls Try.prog 57 #[v] w fun e w' => e = .returned (.tuple #[]) ∧ Gr o w w' := by
  rcases h with ⟨rfl, rfl, a, ha, rfl⟩ | ⟨g, cap, rfl, rfl, h⟩
  · go_enter Try.func57, Try.ntmps57
    go_wp2_with fail
    go_loopw [2] (fun i wr => i = .int .i64 0 ∧ wr = w) (fun _ _ => 0)
    case atStart => exact ⟨rfl, rfl⟩
    case round =>
      obtain ⟨rfl, rfl⟩ := hrel
      go_wp2
      go_end0
      exact ⟨rfl, Gr.refl _ _⟩
  · have hle := h.le; have hmost := h.most
    have H := Lib.hid h; clear h
    go_enter Try.func57, Try.ntmps57
    go_wp2_with fail
    go_loopw [2] (fun i wr => ∃ (k : Nat) (lk : List Int), k ≤ l.length ∧ i = .int .i64 k ∧ Gr (some g) w wr ∧ lk.length = l.length ∧ RowU wr g cap lk) (fun i _ => l.length - (intOf i).toNat)
    case atStart => exact ⟨0, l, by omega, rfl, Gr.refl _ _, rfl, H.out⟩
    case round =>
      obtain ⟨k, lk, hk, rfl, hgr, hlk, hrow⟩ := hrel
      by_cases hlt : k < l.length
      · obtain ⟨y, hy⟩ : ∃ y, y = lk.getD k 0 := ⟨_, rfl⟩
        have c1 := hrow.getD (i := k) (by omega) hy
        have f1 := hrow.free; have l1 := hrow.lt
        have q1 : (0 : Int) ≤ (k : Int) := by omega
        have q2 : (k : Int) < (l.length : Int) := by omega
        have HG := Lib.hid hgr; have HR := Lib.hid hrow; have HK := Lib.hid hlk
        clear hgr hrow hlk hy
        go_wp2_with fail
        go_roundw
        case rel => exact ⟨k + 1, lk.set k 77, by omega, by go_num, HG.out.set _ _, (List.length_set).trans HK.out, HR.out.set k 77 (by have := HK.out; omega)⟩
        case measure => simp [intOf]; omega
      · have HG := Lib.hid hgr
        clear hgr hrow hlk
        go_wp2
        go_end0
        exact ⟨rfl, HG.out⟩

theorem overNat_any (o : Option Nat) (v : Value) (l : List Int) (w : World) (h : OwV w o v l) :
    Calls Try.prog 25 #[v] w fun e w' => e = .returned (.tuple #[]) ∧ Gr o w w' := by
  have H := Lib.hid h
  have hv : ∃ a n c, v = .slice a n c := by
    rcases h with ⟨_, _, a, ha, rfl⟩ | ⟨g, cap, _, rfl, _⟩
    · exact ⟨_, _, _, rfl⟩
    · exact ⟨_, _, _, rfl⟩
  obtain ⟨a, n, c, rfl⟩ := hv
  clear h
  go_enter Try.func25, Try.ntmps25
  go_wp2_with fail
  refine (overLimbs_any o _ l _ H.out).mono ?_
  rintro e w1 ⟨rfl, hx1⟩
  have HX := Lib.hid hx1; clear hx1
  go_wp2
  go_end0
  exact ⟨rfl, HX.out⟩

end Go.Proofs.Ytoicjiiifffciaa
