/- Walks of Least of advise and of its reference. Conditions: costs and booleans read as slices. -/
import Derived.Test.YtcmemdmfnflfiaaAdvF
import Derived.Test.YtcmemdmfnflfiaaRatSb
import Derived.Test.YtcmemdmfnflfiaaBoolS
namespace Go.Proofs.Ytcmemdmfnflfiaa
set_option linter.unusedSimpArgs false
set_option linter.unusedVariables false
open Go.RowKit

/-- What some masks allow. -/
def mskF (l : List (List Bool)) : Nat → Nat → Bool := fun j i => (l.getD j []).getD i false
def pickL (l : List (List Bool)) (n : Nat) : List Nat := pick (mskF l) l.length n
/-- What Least returns. -/
def leastS (costs : List RR) (all : List Bool) : Int × Int :=
  if costs.length = 0 then (0, 3) else if costs.length ≠ all.length then (0, 16) else if chkRs costs ≠ 0 then (0, chkRs costs)
  else match bestF costs (pickL [all] costs.length) with
    | none => (0, 9)
    | some i => ((i : Nat), 0)
theorem leastS_0 {costs : List RR} {all : List Bool} (h : costs.length = 0) : leastS costs all = (0, 3) := if_pos h
theorem leastS_1 {costs : List RR} {all : List Bool} (h : costs.length ≠ 0) (h2 : costs.length ≠ all.length) : leastS costs all = (0, 16) := by unfold leastS; rw [if_neg h, if_pos h2]
theorem leastS_2 {costs : List RR} {all : List Bool} (h : costs.length ≠ 0) (h2 : costs.length = all.length) (h3 : chkRs costs ≠ 0) : leastS costs all = (0, chkRs costs) := by unfold leastS; rw [if_neg h, if_neg (by simpa using h2), if_pos h3]
theorem leastS_3 {costs : List RR} {all : List Bool} (h : costs.length ≠ 0) (h2 : costs.length = all.length) (h3 : chkRs costs = 0) : leastS costs all = (if (bestF costs (pickL [all] costs.length)).isSome = true then (keyB (bestF costs (pickL [all] costs.length)), 0) else (0, 9)) := by
  unfold leastS
  rw [if_neg h, if_neg (by simpa using h2), if_neg (by simpa using h3)]
  cases bestF costs (pickL [all] costs.length) <;> rfl

/-- Masks of a list that lie in a row of the call's own. -/
theorem rdMs_one {w : World} {aa : Option Addr} {ca : Nat} {all : List Bool} {b : Nat} (h : Rd w (.slice aa all.length ca) (all.map Value.bool)) (hb : Blk w b #[.slice aa all.length ca] 37) {N : Nat} (hN : N ≤ all.length) : RdMs w.heap.size w (some ⟨b, 0, none⟩) 1 N (mskF [all]) := by
  intro j hj
  obtain rfl : j = 0 := by omega
  obtain ⟨a, cap, hv, hc, hm, hr⟩ := rdB_get h
  injection hv with e1 _ e3
  subst e1; subst e3
  refine ⟨b, 0, aa, all.length, ca, rfl, hb.lt, by have := hb.cell 0; simpa using this, hN, by omega, fun i hi => ?_⟩
  obtain ⟨b2, o2, e1, e2, e3⟩ := hr i (by omega)
  exact ⟨b2, o2, e1, e2, e3⟩

set_option maxHeartbeats 2000000 in
theorem least_any (vc va : Value) (costs : List RR) (all : List Bool) (w : World) (hc : RdRs w vc costs) (ha : Rd w va (all.map Value.bool)) (hl : LimRs costs) :
    Calls Try.prog 24 #[vc, va] w fun e w' => e = .returned (.tuple #[.int .i64 (leastS costs all).1, .int .i64 (leastS costs all).2]) ∧ Ext w w' := by
  have hck := fun W (x : Ext w W) => checkCosts_any vc costs W (hc.ext x) hl
  obtain ⟨a, cap, rfl, hcc, hcm, f, hr⟩ := hc.get
  obtain ⟨aa, ca, rfl, hac, ham, -⟩ := rdB_get ha
  by_cases h0 : costs.length = 0
  · have E := Lib.hid (leastS_0 (all := all) h0)
    have q1 : ((costs.length : Int) == 0) = true := by simp [h0]
    clear hck hc hr ha h0
    go_enter Try.func24, Try.ntmps24
    go_wp2_with fail
    go_ret2
    exact ⟨by rw [E.out]; rfl, Ext.refl w⟩
  · have q1 : ((costs.length : Int) == 0) = false := by simpa using h0
    by_cases h1 : costs.length = all.length
    · have q2 : ((costs.length : Int) != (all.length : Int)) = false := by simp [h1]
      by_cases h2 : chkRs costs = 0
      · have E := Lib.hid (leastS_3 h0 h1 h2)
        have hfi := fun W ma H hH hb0 hb1 (x : Ext w W) hms => firstC_any a costs cap f ma 1 1 (mskF [all]) H W hH hcc hcm (Nat.le_refl _) (by decide) hb0 hb1 hl (fun i hi => by
          obtain ⟨b, off, e1, e2, e3, e4, e5, e6⟩ := hr i hi
          exact ⟨b, off, e1, Nat.lt_of_lt_of_le e2 x.size, (x.cell (p := ⟨b, off + i * 3, none⟩) e2).trans e3, (x.cell (p := ⟨b, off + i * 3 + 1, none⟩) e2).trans e4, (x.cell (p := ⟨b, off + i * 3 + 2, none⟩) e2).trans e5, e6.ext x⟩) hms
        rw [h2] at hck
        have HCK := Lib.hid hck; have HA := Lib.hid ha; have H1 := Lib.hid h1
        obtain ⟨bb, hbb⟩ : ∃ b, b = bestF costs (pickL [all] costs.length) := ⟨_, rfl⟩
        unfold pickL at hbb
        rw [show [all].length = 1 from rfl] at hbb
        rw [← hbb] at hfi
        have E := Lib.hid (show leastS costs all = if bb.isSome = true then (keyB bb, 0) else (0, 9) by rw [E.out, hbb]; rfl)
        have HFI := Lib.hid hfi
        clear hck hc hr ha h0 h1 h2 hfi hbb
        go_enter Try.func24, Try.ntmps24
        go_wp2_with fail
        refine (HCK.out _ (Ext.refl w)).mono ?_
        rintro e w1 ⟨rfl, hx⟩
        have X1 := Lib.hid hx
        clear hx
        go_wp2_with fail
        refine (candidates_any a costs.length cap (some ⟨w1.heap.size, 0, none⟩) 1 1 _).mono ?_
        rintro e w2 ⟨rfl, hw2⟩
        have hxA : Ext w1 (w1.alloc (.cells #[.slice aa all.length ca] 37)) := (Ext.refl w1).alloc _
        have hx2 : Ext w1 w2 := by rw [hw2]; exact (hxA.alloc _).alloc _
        have hbm : Blk w2 w1.heap.size #[.slice aa all.length ca] 37 := by rw [hw2]; exact ((Blk.new w1 _ _).alloc _).alloc _
        have hb0 : Blk w2 (w1.heap.size + 1) #[.slice a costs.length cap] 66 := by
          rw [hw2]; have := (Blk.new (w1.alloc (.cells #[.slice aa all.length ca] 37)) #[.slice a costs.length cap] 66).alloc (.cells #[.slice (some ⟨w1.heap.size, 0, none⟩) 1 1] 165)
          rwa [World.size_alloc] at this
        have hb1 : Blk w2 (w1.heap.size + 1 + 1) #[.slice (some ⟨w1.heap.size, 0, none⟩) 1 1] 165 := by
          rw [hw2]; have := Blk.new ((w1.alloc (.cells #[.slice aa all.length ca] 37)).alloc (.cells #[.slice a costs.length cap] 66)) #[.slice (some ⟨w1.heap.size, 0, none⟩) 1 1] 165
          rwa [World.size_alloc, World.size_alloc] at this
        have X2 := Lib.hid (X1.out.trans hx2); have BM := Lib.hid hbm; have B0 := Lib.hid hb0; have B1 := Lib.hid hb1
        clear hw2 hxA hx2 hbm hb0 hb1
        go_wp2_with fail
        refine (HFI.out w2 (some ⟨w1.heap.size, 0, none⟩) (w1.heap.size + 1) B1.out.lt B0.out B1.out X2.out (rdMs_one (HA.out.ext X2.out) BM.out (by have := H1.out; omega))).mono ?_
        rintro e w3 ⟨rfl, hx⟩
        have X3 := Lib.hid (X2.out.trans hx)
        clear hx
        obtain ⟨fb, hfb⟩ : ∃ x, x = bb.isSome := ⟨_, rfl⟩
        have E2 := Lib.hid (show leastS costs all = if fb = true then (keyB bb, 0) else (0, 9) by rw [hfb]; exact E.out)
        rw [← hfb]
        clear hfb
        cases fb
        · go_wp2_with fail
          go_ret2
          exact ⟨by rw [E2.out]; rfl, X3.out⟩
        · go_wp2_with fail
          go_ret2
          exact ⟨by rw [E2.out]; rfl, X3.out⟩
      · have E := Lib.hid (leastS_2 h0 h1 h2)
        obtain ⟨cc, hcc0⟩ : ∃ c, c = chkRs costs := ⟨_, rfl⟩
        rw [← hcc0] at hck h2 E
        have q3 : (cc != 0) = true := by simpa using h2
        have HCK := Lib.hid hck
        clear hck hc hr ha h0 h1 h2 hcc0
        go_enter Try.func24, Try.ntmps24
        go_wp2_with fail
        refine (HCK.out _ (Ext.refl w)).mono ?_
        rintro e w1 ⟨rfl, hx⟩
        have X1 := Lib.hid hx
        clear hx
        go_wp2_with fail
        go_ret2
        exact ⟨by rw [E.out]; rfl, X1.out⟩
    · have q2 : ((costs.length : Int) != (all.length : Int)) = true := by simp only [bne_iff_ne]; omega
      have E := Lib.hid (leastS_1 h0 h1)
      clear hck hc hr ha h0 h1
      go_enter Try.func24, Try.ntmps24
      go_wp2_with fail
      go_ret2
      exact ⟨by rw [E.out]; rfl, Ext.refl w⟩



end Go.Proofs.Ytcmemdmfnflfiaa
