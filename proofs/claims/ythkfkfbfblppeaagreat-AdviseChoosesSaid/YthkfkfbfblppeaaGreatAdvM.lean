/- Walks of Least of advise and of its reference. Conditions: costs and booleans read as slices. -/
import Derived.Test.YthkfkfbfblppeaaGreatAdvF
import Derived.Test.YthkfkfbfblppeaaGreatRatSb
import Derived.Test.YthkfkfbfblppeaaGreatBoolS
namespace Go.Proofs.YthkfkfbfblppeaaGreat
set_option linter.unusedSimpArgs false
set_option linter.unusedVariables false
open Go.RowKit

/-- What some masks allow. -/
def mskF (l : List (List Bool)) : Nat → Nat → Bool := fun j i => (l.getD j []).getD i false
def pickL (l : List (List Bool)) (n : Nat) : List Nat := pick (mskF l) l.length n
/-- What Least returns. -/
def leastS (costs : List RR) (all : List Bool) : Int × Int :=
  if costs.length = 0 then (0, 3) else if costs.length ≠ all.length then (0, 16) else if chkRs costs ≠ 0 then (0, chkRs costs)
  else match bestF costs (pickL [all] costs.length) with
    | none => (0, 9)
    | some i => ((i : Nat), 0)
theorem leastS_0 {costs : List RR} {all : List Bool} (h : costs.length = 0) : leastS costs all = (0, 3) := if_pos h
theorem leastS_1 {costs : List RR} {all : List Bool} (h : costs.length ≠ 0) (h2 : costs.length ≠ all.length) : leastS costs all = (0, 16) := by unfold leastS; rw [if_neg h, if_pos h2]
theorem leastS_2 {costs : List RR} {all : List Bool} (h : costs.length ≠ 0) (h2 : costs.length = all.length) (h3 : chkRs costs ≠ 0) : leastS costs all = (0, chkRs costs) := by unfold leastS; rw [if_neg h, if_neg (by simpa using h2), if_pos h3]
theorem leastS_3 {costs : List RR} {all : List Bool} (h : costs.length ≠ 0) (h2 : costs.length = all.length) (h3 : chkRs costs = 0) : leastS costs all = (if (bestF costs (pickL [all] costs.length)).isSome = true then (keyB (bestF costs (pickL [all] costs.length)), 0) else (0, 9)) := by
  unfold leastS
  rw [if_neg h, if_neg (by simpa using h2), if_neg (by simpa using h3)]
  cases bestF costs (pickL [all] costs.length) <;> rfl

/-- Masks of a list that lie in a row of the call's own. -/
theorem rdMs_one {w : World} {aa : Option Addr} {ca : Nat} {all : List Bool} {b : Nat} (h : Rd w (.slice aa all.length ca) (all.map Value.bool)) (hb : Blk w b #[.slice aa all.length ca] 49) {N : Nat} (hN : N ≤ all.length) : RdMs w.heap.size w (some ⟨b, 0, none⟩) 1 N (mskF [all]) := by
  intro j hj
  obtain rfl : j = 0 := by omega
  obtain ⟨a, cap, hv, hc, hm, hr⟩ := rdB_get h
  injection hv with e1 _ e3
  subst e1; subst e3
  refine ⟨b, 0, aa, all.length, ca, rfl, hb.lt, by have := hb.cell 0; simpa using this, hN, by omega, fun i hi => ?_⟩
  obtain ⟨b2, o2, e1, e2, e3⟩ := hr i (by omega)
  exact ⟨b2, o2, e1, e2, e3⟩

set_option maxHeartbeats 2000000 in
theorem least_any (vc va : Value) (costs : List RR) (all : List Bool) (w : World) (hc : RdRs w vc costs) (ha : Rd w va (all.map Value.bool)) (hl : LimRs costs) :
    Calls Tryz.prog 81 #[vc, va] w fun e w' => e = .returned (.tuple #[.int .i64 (leastS costs all).1, .int .i64 (leastS costs all).2]) ∧ Ext w w' := by
  have hck := fun W (x : Ext w W) => checkCosts_any vc costs W (hc.ext x) hl
  obtain ⟨a, cap, rfl, hcc, hcm, f, hr⟩ := hc.get
  obtain ⟨aa, ca, rfl, hac, ham, -⟩ := rdB_get ha
  by_cases h0 : costs.length = 0
  · have E := Lib.hid (leastS_0 (all := all) h0)
    have q1 : ((costs.length : Int) == 0) = true := by simp [h0]
    clear hck hc hr ha h0
    go_enter Tryz.func81, Tryz.ntmps81
    go_wp2_with fail
    go_ret2
    exact ⟨by rw [E.out]; rfl, Ext.refl w⟩
  · have q1 : ((costs.length : Int) == 0) = false := by simpa using h0
    by_cases h1 : costs.length = all.length
    · have q2 : ((costs.length : Int) != (all.length : Int)) = false := by simp [h1]
      by_cases h2 : chkRs costs = 0
      · have E := Lib.hid (leastS_3 h0 h1 h2)
        have hfi := fun W ma H hH hb0 hb1 (x : Ext w W) hms => firstC_any a costs cap f ma 1 1 (mskF [all]) H W hH hcc hcm (Nat.le_refl _) (by decide) hb0 hb1 hl (fun i hi => by
          obtain ⟨b, off, e1, e2, e3, e4, e5, e6⟩ := hr i hi
          exact ⟨b, off, e1, Nat.lt_of_lt_of_le e2 x.size, (x.cell (p := ⟨b, off + i * 3, none⟩) e2).trans e3, (x.cell (p := ⟨b, off + i * 3 + 1, none⟩) e2).trans e4, (x.cell (p := ⟨b, off + i * 3 + 2, none⟩) e2).trans e5, e6.ext x⟩) hms
        rw [h2] at hck
        have HCK := Lib.hid hck; have HA := Lib.hid ha; have H1 := Lib.hid h1
        obtain ⟨bb, hbb⟩ : ∃ b, b = bestF costs (pickL [all] costs.length) := ⟨_, rfl⟩
        unfold pickL at hbb
        rw [show [all].length = 1 from rfl] at hbb
        rw [← hbb] at hfi
        have E := Lib.hid (show leastS costs all = if bb.isSome = true then (keyB bb, 0) else (0, 9) by rw [E.out, hbb]; rfl)
        have HFI := Lib.hid hfi
        clear hck hc hr ha h0 h1 h2 hfi hbb
        go_enter Tryz.func81, Tryz.ntmps81
        go_wp2_with fail
        refine (HCK.out _ (Ext.refl w)).mono ?_
        rintro e w1 ⟨rfl, hx⟩
        have X1 := Lib.hid hx
        clear hx
        go_wp2_with fail
        refine (candidates_any a costs.length cap (some ⟨w1.heap.size, 0, none⟩) 1 1 _).mono ?_
        rintro e w2 ⟨rfl, hw2⟩
        have hxA : Ext w1 (w1.alloc (.cells #[.slice aa all.length ca] 49)) := (Ext.refl w1).alloc _
        have hx2 : Ext w1 w2 := by rw [hw2]; exact (hxA.alloc _).alloc _
        have hbm : Blk w2 w1.heap.size #[.slice aa all.length ca] 49 := by rw [hw2]; exact ((Blk.new w1 _ _).alloc _).alloc _
        have hb0 : Blk w2 (w1.heap.size + 1) #[.slice a costs.length cap] 48 := by
          rw [hw2]; have := (Blk.new (w1.alloc (.cells #[.slice aa all.length ca] 49)) #[.slice a costs.length cap] 48).alloc (.cells #[.slice (some ⟨w1.heap.size, 0, none⟩) 1 1] 193)
          rwa [World.size_alloc] at this
        have hb1 : Blk w2 (w1.heap.size + 1 + 1) #[.slice (some ⟨w1.heap.size, 0, none⟩) 1 1] 193 := by
          rw [hw2]; have := Blk.new ((w1.alloc (.cells #[.slice aa all.length ca] 49)).alloc (.cells #[.slice a costs.length cap] 48)) #[.slice (some ⟨w1.heap.size, 0, none⟩) 1 1] 193
          rwa [World.size_alloc, World.size_alloc] at this
        have X2 := Lib.hid (X1.out.trans hx2); have BM := Lib.hid hbm; have B0 := Lib.hid hb0; have B1 := Lib.hid hb1
        clear hw2 hxA hx2 hbm hb0 hb1
        go_wp2_with fail
        refine (HFI.out w2 (some ⟨w1.heap.size, 0, none⟩) (w1.heap.size + 1) B1.out.lt B0.out B1.out X2.out (rdMs_one (HA.out.ext X2.out) BM.out (by have := H1.out; omega))).mono ?_
        rintro e w3 ⟨rfl, hx⟩
        have X3 := Lib.hid (X2.out.trans hx)
        clear hx
        obtain ⟨fb, hfb⟩ : ∃ x, x = bb.isSome := ⟨_, rfl⟩
        have E2 := Lib.hid (show leastS costs all = if fb = true then (keyB bb, 0) else (0, 9) by rw [hfb]; exact E.out)
        rw [← hfb]
        clear hfb
        cases fb
        · go_wp2_with fail
          go_ret2
          exact ⟨by rw [E2.out]; rfl, X3.out⟩
        · go_wp2_with fail
          go_ret2
          exact ⟨by rw [E2.out]; rfl, X3.out⟩
      · have E := Lib.hid (leastS_2 h0 h1 h2)
        obtain ⟨cc, hcc0⟩ : ∃ c, c = chkRs costs := ⟨_, rfl⟩
        rw [← hcc0] at hck h2 E
        have q3 : (cc != 0) = true := by simpa using h2
        have HCK := Lib.hid hck
        clear hck hc hr ha h0 h1 h2 hcc0
        go_enter Tryz.func81, Tryz.ntmps81
        go_wp2_with fail
        refine (HCK.out _ (Ext.refl w)).mono ?_
        rintro e w1 ⟨rfl, hx⟩
        have X1 := Lib.hid hx
        clear hx
        go_wp2_with fail
        go_ret2
        exact ⟨by rw [E.out]; rfl, X1.out⟩
    · have q2 : ((costs.length : Int) != (all.length : Int)) = true := by simp only [bne_iff_ne]; omega
      have E := Lib.hid (leastS_1 h0 h1)
      clear hck hc hr ha h0 h1
      go_enter Tryz.func81, Tryz.ntmps81
      go_wp2_with fail
      go_ret2
      exact ⟨by rw [E.out]; rfl, Ext.refl w⟩

/-- What the reference's least returns. -/
def idxB (b : Option Nat) : Int := match b with | none => -1 | some i => (i : Nat)

set_option maxHeartbeats 2000000 in
theorem refLeast0_any (vc va : Value) (costs : List RR) (all : List Bool) (w : World) (hc : RdRs w vc costs) (ha : Rd w va (all.map Value.bool)) (hl : LimRs costs) (hla : costs.length ≤ all.length) :
    Calls Tryz.prog 88 #[vc, va] w fun e w' => e = .returned (.int .i64 (idxB (bestF costs (pickL [all] costs.length)))) ∧ Ext w w' := by
  obtain ⟨a, cap, rfl, hcc, hcm, f, hr⟩ := hc.get
  obtain ⟨aa, ca, rfl, hac, ham, hra⟩ := rdB_get ha
  have HR := Lib.hid hr; have HA := Lib.hid hra; have HL := Lib.hid hl
  have hpk : ∀ k, pickL [all] (k + 1) = if all.getD k false = true then pickL [all] k ++ [k] else pickL [all] k := fun k => by
    have e : allow (mskF [all]) [all].length k = all.getD k false := by
      unfold allow mskF; simp
    by_cases h : all.getD k false = true
    · rw [if_pos h]; exact pick_yes (by rw [e, h])
    · rw [if_neg h]; exact pick_no (by rw [e]; simpa using h)
  have HPK := Lib.hid hpk
  clear hc hr hra ha hl hpk
  go_enter Tryz.func88, Tryz.ntmps88
  go_wp2_with fail
  go_loopw [5, 6] (fun b i wr => ∃ k : Nat, k ≤ costs.length ∧ i = .int .i64 k ∧ (∃ bb, bb = bestF costs (pickL [all] k) ∧ (∀ j, bb = some j → j < costs.length) ∧ b = .int .i64 (idxB bb)) ∧ Ext w wr) (fun _ i _ => costs.length - (intOf i).toNat)
  case atStart => exact ⟨0, Nat.zero_le _, rfl, ⟨none, rfl, (fun j h => by cases h), rfl⟩, Ext.refl w⟩
  case round =>
    obtain ⟨k, hk, rfl, ⟨bb, hbb, hbj, rfl⟩, hext⟩ := hrel
    have HX := Lib.hid hext; have HBB := Lib.hid hbb
    by_cases hlt : k < costs.length
    · obtain ⟨b, off, rfl, hb, x0, x1, x2, hrd⟩ := HR.out k hlt
      obtain ⟨b2, o2, rfl, hb2, z0⟩ := HA.out k (by omega)
      have y0 := (hext.cell (p := ⟨b, off + k * 3, none⟩) hb).trans x0
      have y1 := (hext.cell (p := ⟨b, off + k * 3 + 1, none⟩) hb).trans x1
      have y2 := (hext.cell (p := ⟨b, off + k * 3 + 2, none⟩) hb).trans x2
      have y3 := (hext.cell (p := ⟨b2, o2 + k, none⟩) hb2).trans z0
      have q1 : (0 : Int) ≤ (k : Int) := by omega
      have q2 : (k : Int) < (costs.length : Int) := by omega
      have q3 : (k : Int) < (all.length : Int) := by omega
      have hpk := HPK.out k
      have hrk := hrd
      have hlk := HL.out k hlt
      obtain ⟨r, hrr⟩ : ∃ r, r = costs.getD k zR := ⟨_, rfl⟩
      obtain ⟨fk, hfk⟩ : ∃ y, y = f k := ⟨_, rfl⟩
      obtain ⟨al, hal⟩ : ∃ y, y = all.getD k false := ⟨_, rfl⟩
      rw [← hrr] at y0 y1 y2 hrk hlk
      rw [← hfk] at y1 y2 hrk
      rw [← hal] at y3 hpk
      have HRR := Lib.hid hrr; have HPKk := Lib.hid hpk; have HRK := Lib.hid hrk; have HLK := Lib.hid hlk
      have hbs := bestF_snoc costs (pickL [all] k) k
      rw [← hbb] at hbs
      have HBS := Lib.hid hbs
      have lb1 : b < wr.heap.size := by have := hext.size; omega
      have hzz := hext.size
      clear x0 x1 x2 z0 hrr hfk hal hpk hrd hrk hlk hext hbb hbs
      cases al
      · have hN : bb = bestF costs (pickL [all] (k + 1)) := by rw [HPKk.out, if_neg (by decide)]; exact HBB.out
        have HN := Lib.hid hN
        clear hN
        go_wp2_with fail
        go_roundw
        case rel => exact ⟨k + 1, by omega, by go_num, ⟨bb, HN.out, hbj, rfl⟩, HX.out⟩
        case measure => simp [intOf]; omega
      · have hN : stepB costs bb k = bestF costs (pickL [all] (k + 1)) := by rw [HPKk.out, if_pos rfl]; exact HBS.out.symm
        have HN := Lib.hid hN
        clear hN
        cases bb with
        | none =>
          have q4 : idxB none = -1 := rfl
          rw [q4]
          clear q4
          go_wp2_with fail
          go_roundw
          case rel => exact ⟨k + 1, by omega, by go_num, ⟨some k, HN.out, (fun j h => by cases h; omega), rfl⟩, HX.out⟩
          case measure => simp [intOf]; omega
        | some j =>
          have hj := hbj j rfl
          obtain ⟨b', off', hbo, hb', x0, x1, x2, hrd⟩ := HR.out j hj
          simp only [Option.some.injEq, Addr.mk.injEq, and_true] at hbo
          obtain ⟨rfl, rfl⟩ := hbo
          have y4 := (HX.out.cell (p := ⟨b, off + j * 3, none⟩) hb).trans x0
          have y5 := (HX.out.cell (p := ⟨b, off + j * 3 + 1, none⟩) hb).trans x1
          have y6 := (HX.out.cell (p := ⟨b, off + j * 3 + 2, none⟩) hb).trans x2
          have hlj := HL.out j hj
          have hst : stepB costs (some j) k = if ltR (costs.getD k zR) (costs.getD j zR) = true then some k else some j := rfl
          obtain ⟨rj, hrj⟩ : ∃ r, r = costs.getD j zR := ⟨_, rfl⟩
          obtain ⟨fj, hfj⟩ : ∃ y, y = f j := ⟨_, rfl⟩
          rw [← HRR.out, ← hrj] at hst
          rw [← hrj] at y4 y5 y6 hlj hrd
          rw [← hfj] at y5 y6 hrd
          have hcm := fun W (x : Ext wr W) => refCmp6_any _ _ r rj W (HRK.out.ext (HX.out.trans x)) (hrd.ext (HX.out.trans x)) HLK.out hlj
          unfold ltR at hst
          obtain ⟨cm, hcm0⟩ : ∃ c, c = cmpR r rj := ⟨_, rfl⟩
          rw [← hcm0] at hcm hst
          obtain ⟨cm1, cm2⟩ := cm
          dsimp only at hcm hst
          have HCM := Lib.hid hcm; have HST := Lib.hid hst; have HJ := Lib.hid hj
          have q4 : idxB (some j) = (j : Int) := rfl
          have q5 : (0 : Int) ≤ (j : Int) := by omega
          have q6 : (j : Int) < (costs.length : Int) := by omega
          rw [q4]
          clear q4 hcm hst hcm0 hrd hrj hfj hlj x0 x1 x2 hj hb'
          go_wp2_with fail
          (refine wp_region_qxtE 10 2 0 (by kernel_rfl) (by kernel_rfl) (fun _ _ d _ _ h => by cases d <;> exact h) ?_; simp only [Nat.reduceAdd, Nat.reduceSub, List.take_succ_cons, List.take_zero, List.take_nil, List.drop_succ_cons, List.drop_zero]; (repeat (go_big_quiet_step ((go_at_call 150; exact quietE (HCM.out _ (Later.ext _)))))); refine wpQuiet_nil ?_; (try dsimp only); (repeat (go_big_quiet_step (fail))); refine wpQuiet_nil ?_; (try dsimp only); (repeat (go_big_quiet_step (fail))); refine wpQuiet_nil ?_; rintro w1 ⟨⟨_, hx1⟩, rfl⟩; (try dsimp only); have hz1 := hx1.size; (try simp only [World.size_alloc, World.size_setCell, World.size_drew, size_drewN] at hz1); obtain ⟨hc1, hf1⟩ := hx1.old (B := w.heap.size) (by (try simp only [World.size_alloc, World.size_setCell, World.size_drew, size_drewN]); omega))
          have HX1 := Lib.hid (HX.out.trans hx1)
          clear hx1
          by_cases hc : cm1 < 0
          · have q7 : ¬ (0 : Int) ≤ cm1 := by omega
            have hN2 := HN.out.symm.trans HST.out
            rw [if_pos (by simpa using hc)] at hN2
            have HN2 := Lib.hid hN2
            clear hN2 hc
            go_wp2_with fail
            go_roundw
            case rel => exact ⟨k + 1, by omega, by go_num, ⟨some k, HN2.out.symm, (fun j h => by cases h; omega), rfl⟩, HX1.out⟩
            case measure => simp [intOf]; omega
          · have q7 : (0 : Int) ≤ cm1 := by omega
            have hN2 := HN.out.symm.trans HST.out
            rw [if_neg (by simpa using hc)] at hN2
            have HN2 := Lib.hid hN2
            clear hN2 hc
            go_wp2_with fail
            go_roundw
            case rel => exact ⟨k + 1, by omega, by go_num, ⟨some j, HN2.out.symm, (fun i h => by cases h; exact HJ.out), rfl⟩, HX1.out⟩
            case measure => simp [intOf]; omega
    · have hkl : k = costs.length := by omega
      have HKL := Lib.hid hkl
      clear hext hbb hkl
      go_wp2_with fail
      go_ret
      exact ⟨ret_int (by rw [HBB.out, HKL.out]), HX.out⟩


end Go.Proofs.YthkfkfbfblppeaaGreat
