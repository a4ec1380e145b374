/- Walk of first over candidates of advise. Conditions: the costs and masks lie in old memory. -/
import Derived.Test.YthkfkfbfblppeaaGreatAdvL
import Derived.Test.YthkfkfbfblppeaaGreatGD
namespace Go.Proofs.YthkfkfbfblppeaaGreat
set_option linter.unusedSimpArgs false
set_option linter.unusedVariables false
open Go.RowKit Go.Shelf
attribute [local go_sem] Oper.semAt_some

/-- The better of what was found and number i. -/
def stepB (costs : List RR) (b : Option Nat) (i : Nat) : Option Nat :=
  match b with
  | none => some i
  | some j => if ltR (costs.getD i zR) (costs.getD j zR) = true then some i else some j
/-- The first of the least. -/
def bestF (costs : List RR) (xs : List Nat) : Option Nat := xs.foldl (stepB costs) none
theorem bestF_snoc (costs : List RR) (xs : List Nat) (i : Nat) : bestF costs (xs ++ [i]) = stepB costs (bestF costs xs) i := by unfold bestF; rw [List.foldl_append]; rfl
/-- The cells of the best one. -/
def cellsB (costs : List RR) (f : Nat → (Option Addr × Nat) × (Option Addr × Nat)) (b : Option Nat) : Array Value :=
  match b with
  | none => #[.bool false, .slice none 0 0, .slice none 0 0]
  | some j => #[.bool (costs.getD j zR).neg, .slice (f j).1.1 (costs.getD j zR).num.length (f j).1.2, .slice (f j).2.1 (costs.getD j zR).den.length (f j).2.2]
def keyB (b : Option Nat) : Int := ((b.getD 0 : Nat) : Int)

/-- What the rounds of first keep. -/
def FirI (costs : List RR) (f : Nat → (Option Addr × Nat) × (Option Addr × Nat)) (w : World) (pre : List Nat) (W : World) : Prop :=
  Ext w W ∧ (∀ j, bestF costs pre = some j → j < costs.length) ∧ Blk W w.heap.size #[.func (.func 99) #[] #[]] 69 ∧ Blk W (w.heap.size + 1) #[.int .i64 (keyB (bestF costs pre))] 3 ∧
    Blk W (w.heap.size + 2) #[.bool (bestF costs pre).isSome] 4 ∧ Blk W (w.heap.size + 3) (cellsB costs f (bestF costs pre)) 62

/-- Before the body of a round. -/
def FirAx (costs : List RR) (f : Nat → (Option Addr × Nat) × (Option Addr × Nat)) (w : World) (m : Nat) (pre : List Nat) (x : Nat) (a1 : Act) (W : World) : Prop :=
  FirI costs f w pre W ∧ x < costs.length ∧ ∃ bx, m + 1 < bx ∧ Blk W bx #[.bool (costs.getD x zR).neg, .slice (f x).1.1 (costs.getD x zR).num.length (f x).1.2, .slice (f x).2.1 (costs.getD x zR).den.length (f x).2.2] 62 ∧
    ∃ t0 t1 t2 t9 t10 t11 t12 t13 t14 t15 t16 t17 t18 t19 t20 t21 t22 t23 : Value,
    a1 = { tmps := #[t0, t1, t2, .pointer (some ⟨w.heap.size, 0, none⟩), .pointer (some ⟨w.heap.size + 1, 0, none⟩), .pointer (some ⟨w.heap.size + 2, 0, none⟩), .pointer (some ⟨w.heap.size + 3, 0, none⟩), .int .i64 x, .pointer (some ⟨bx, 0, none⟩), t9, t10, t11, t12, t13, t14, t15, t16, t17, t18, t19, t20, t21, t22, t23], defers := [] }

theorem FirI.kz {costs : List RR} {f : Nat → (Option Addr × Nat) × (Option Addr × Nat)} {w : World} {pre : List Nat} {A B : World} {m : Nat} (h : FirI costs f w pre A) (k : Kz m A B) (hm : w.heap.size + 3 < m) : FirI costs f w pre B := by
  obtain ⟨h1, h2, h3, h4, h5, h6⟩ := h
  exact ⟨h1.kz k (by omega), h2, h3.kz k (by omega), h4.kz k (by omega), h5.kz k (by omega), h6.kz k (by omega)⟩
theorem FirI.ext {costs : List RR} {f : Nat → (Option Addr × Nat) × (Option Addr × Nat)} {w : World} {pre : List Nat} {A B : World} (h : FirI costs f w pre A) (k : Ext A B) : FirI costs f w pre B := by
  obtain ⟨h1, h2, h3, h4, h5, h6⟩ := h
  exact ⟨h1.trans k, h2, h3.ext k, h4.ext k, h5.ext k, h6.ext k⟩

theorem Fr.below {p : Nat → Prop} {A B : World} {B0 : Nat} (k : Fr p A B) (h : ∀ i, i < B0 → ¬ p i) (hA : B0 ≤ A.heap.size) : Below B0 A B :=
  ⟨k.zero.os, k.zero.tape, k.zero.output, k.zero.size, fun i hi => k.block i (Nat.lt_of_lt_of_le hi hA) (h i hi)⟩
theorem Fr.drew {p : Nat → Prop} {A B : World} (k : Fr p A B) : Fr p A B.drew := ⟨k.zero.drew, k.block⟩
theorem cellsB_three (costs : List RR) (f : Nat → (Option Addr × Nat) × (Option Addr × Nat)) (b : Option Nat) : ∃ x y z, cellsB costs f b = #[x, y, z] := by
  cases b with
  | none => exact ⟨_, _, _, rfl⟩
  | some j => exact ⟨_, _, _, rfl⟩

set_option maxRecDepth 100000 in
set_option maxHeartbeats 4000000 in
theorem firstC_any (a : Option Addr) (costs : List RR) (c : Nat) (f : Nat → (Option Addr × Nat) × (Option Addr × Nat)) (ma : Option Addr) (M mc : Nat) (ms : Nat → Nat → Bool) (H : Nat) (w : World)
    (hH : H + 1 < w.heap.size) (hc : costs.length ≤ c) (hm : c ≤ 9223372036854775807) (hM : M ≤ mc) (hmc : mc ≤ 9223372036854775807)
    (hb0 : Blk w H #[.slice a costs.length c] 48) (hb1 : Blk w (H + 1) #[.slice ma M mc] 193) (hl : LimRs costs)
    (hr : ∀ i, i < costs.length → ∃ b off, a = some ⟨b, off, none⟩ ∧ b < w.heap.size ∧ w.cell? ⟨b, off + i * 3, none⟩ = some (.bool (costs.getD i zR).neg) ∧ w.cell? ⟨b, off + i * 3 + 1, none⟩ = some (.slice (f i).1.1 (costs.getD i zR).num.length (f i).1.2) ∧ w.cell? ⟨b, off + i * 3 + 2, none⟩ = some (.slice (f i).2.1 (costs.getD i zR).den.length (f i).2.2) ∧
      RdR w (.agg #[.bool (costs.getD i zR).neg, .slice (f i).1.1 (costs.getD i zR).num.length (f i).1.2, .slice (f i).2.1 (costs.getD i zR).den.length (f i).2.2]) (costs.getD i zR))
    (hms : RdMs w.heap.size w ma M costs.length ms) :
    Calls Tryz.prog 97 #[.func (.func 155) #[] #[.pointer (some ⟨H, 0, none⟩), .pointer (some ⟨H + 1, 0, none⟩)], .func (.func 99) #[] #[]] w fun e w' =>
      e = .returned (.tuple #[.int .i64 (keyB (bestF costs (pick ms M costs.length))), .bool (bestF costs (pick ms M costs.length)).isSome]) ∧ Ext w w' := by
  have HR := Lib.hid hr; have HMS := Lib.hid hms; have HB0 := Lib.hid hb0; have HB1 := Lib.hid hb1; have HL := Lib.hid hl
  clear hr hms hb0 hb1 hl
  obtain ⟨w3, hw3⟩ : ∃ w3, w3 = (((w.alloc (.cells #[.func (.func 99) #[] #[]] 69)).alloc (.cells #[.int .i64 0] 3)).alloc (.cells #[.bool false] 4)).alloc (.cells #[.bool false, .slice none 0 0, .slice none 0 0] 62) := ⟨_, rfl⟩
  have hx3 : Ext w w3 := by rw [hw3]; exact ((((Ext.refl w).alloc _).alloc _).alloc _).alloc _
  have hs3 : w3.heap.size = w.heap.size + 4 := by rw [hw3]; simp
  have k0 : Blk w3 w.heap.size #[.func (.func 99) #[] #[]] 69 := by rw [hw3]; exact (((Blk.new w _ _).alloc _).alloc _).alloc _
  have k1 : Blk w3 (w.heap.size + 1) #[.int .i64 0] 3 := by
    rw [hw3]; have := ((Blk.new (w.alloc (.cells #[.func (.func 99) #[] #[]] 69)) #[.int .i64 0] 3).alloc (.cells #[.bool false] 4)).alloc (.cells #[.bool false, .slice none 0 0, .slice none 0 0] 62)
    rwa [World.size_alloc] at this
  have k2 : Blk w3 (w.heap.size + 2) #[.bool false] 4 := by
    rw [hw3]; have := (Blk.new ((w.alloc (.cells #[.func (.func 99) #[] #[]] 69)).alloc (.cells #[.int .i64 0] 3)) #[.bool false] 4).alloc (.cells #[.bool false, .slice none 0 0, .slice none 0 0] 62)
    rwa [World.size_alloc, World.size_alloc] at this
  have k3 : Blk w3 (w.heap.size + 3) #[.bool false, .slice none 0 0, .slice none 0 0] 62 := by
    rw [hw3]; have := Blk.new (((w.alloc (.cells #[.func (.func 99) #[] #[]] 69)).alloc (.cells #[.int .i64 0] 3)).alloc (.cells #[.bool false] 4)) #[.bool false, .slice none 0 0, .slice none 0 0] 62
    rwa [World.size_alloc, World.size_alloc, World.size_alloc] at this
  have I0 : FirI costs f w [] w3 := ⟨hx3, (fun j h => by cases h), k0, k1, k2, k3⟩
  have HI0 := Lib.hid I0; have HX3 := Lib.hid hx3; have HW3 := Lib.hid hw3; have HS3 := Lib.hid hs3
  clear I0 hx3 hw3 hs3 k0 k1 k2 k3
  refine (callsIn_wide (n := 8)).1 ?_
  refine callsIn_of_wp_marks Tryz.func97 rfl trivial ?_ rfl
  simp only [Tryz.ntmps97, List.size_toArray, List.length_cons, List.length_nil, Nat.reduceAdd, Nat.reduceSub, Array.replicate_succ, Array.replicate_zero, List.push_toArray, List.append_toArray, List.nil_append, List.cons_append]
  gi_wp2_with fail
  rw [← HW3.out]
  have hseq : ∀ W1, Ext w3 W1 → UpSeq Fence.wide 7 Tryz.prog 155 #[.pointer (some ⟨H, 0, none⟩), .pointer (some ⟨H + 1, 0, none⟩)] w.heap.size (fun i : Nat => #[.int .i64 i, .agg #[.bool (costs.getD i zR).neg, .slice (f i).1.1 (costs.getD i zR).num.length (f i).1.2, .slice (f i).2.1 (costs.getD i zR).den.length (f i).2.2]])
      (fun pre i _ => i < costs.length ∧ pre = pick ms M i ∧ allow ms M i = true) (fun xs => xs = pick ms M costs.length) (w3.heap.size + 1) W1 := by
    intro W1 hx
    have hx1 := HX3.out.trans hx
    refine candidates1_seq 7 (by omega) a costs c f ma M mc ms H w.heap.size _ W1 hH hx1.size hc hm hM hmc (HB0.out.ext hx1) (HB1.out.ext hx1) ?_ ?_
    · intro i hi
      obtain ⟨b, off, e1, e2, e3, e4, e5, _⟩ := HR.out i hi
      exact ⟨b, off, e1, e2, (hx1.cell (p := ⟨b, off + i * 3, none⟩) e2).trans e3, (hx1.cell (p := ⟨b, off + i * 3 + 1, none⟩) e2).trans e4, (hx1.cell (p := ⟨b, off + i * 3 + 2, none⟩) e2).trans e5⟩
    · intro j hj
      obtain ⟨b, off, aj, nj, cj, e1, e2, e3, e4, e5, e6⟩ := HMS.out j hj
      refine ⟨b, off, aj, nj, cj, e1, e2, (hx1.cell (p := ⟨b, off + j, none⟩) e2).trans e3, e4, e5, fun i hi => ?_⟩
      obtain ⟨b2, o2, g1, g2, g3⟩ := e6 i hi
      exact ⟨b2, o2, g1, g2, (hx1.cell (p := ⟨b2, o2 + i, none⟩) g2).trans g3⟩
  have hrd : ∀ i, i < costs.length → ∀ W, Ext w W → RdR W (.agg #[.bool (costs.getD i zR).neg, .slice (f i).1.1 (costs.getD i zR).num.length (f i).1.2, .slice (f i).2.1 (costs.getD i zR).den.length (f i).2.2]) (costs.getD i zR) := by
    intro i hi W x
    obtain ⟨b, off, _, _, _, _, _, h⟩ := HR.out i hi
    exact h.ext x
  have HRD := Lib.hid hrd; have HSEQ := Lib.hid hseq
  clear hrd hseq
  have hm3 : w.heap.size + 3 < w3.heap.size := by have := HS3.out; omega
  refine wpIn_range_up rfl (by omega) (gf := 155) (lb := #[.pointer (some ⟨H, 0, none⟩), .pointer (some ⟨H + 1, 0, none⟩)]) rfl trivial (enters_of Tryz.func155 (by kernel_rfl) rfl) w.heap.size (by omega) HSEQ.out (fun _ => rfl)
    (FirI costs f w) (fun _ _ _ => False) (fun pre A B h k => h.kz k hm3) (fun c pre A B h _ => h) HI0.out (FirAx costs f w w3.heap.size) ?hAx ?hassign ?hbody ?hdone ?hstop
  case hAx =>
    rintro pre x a1 A B ⟨h1, h2, bx, h3, h4, h5⟩ z
    exact ⟨h1.kz z hm3, h2, bx, h3, h4.kz z (by omega), h5⟩
  case hassign =>
    rintro ll pre x W K h1 ⟨h2, h3, h4⟩ hlt hK
    have H2 := Lib.hid h2
    clear h2
    gi_wp2_with fail
    refine hK _ _ ((Ext.refl W).alloc _) ⟨h1.ext ((Ext.refl W).alloc _), H2.out, W.heap.size, hlt, Blk.new W _ _, _, _, _, _, _, _, _, _, _, _, _, _, _, _, _, _, _, _, rfl⟩
  case hbody =>
    rintro ll pre x a1 W ⟨⟨h1, h2, h3, h4, h5, h6⟩, hx, bx, hbx, h7, t0, t1, t2, t9, t10, t11, t12, t13, t14, t15, t16, t17, t18, t19, t20, t21, t22, t23, rfl⟩ hlt
    have hrx := HRD.out x hx
    have hlx := HL.out x hx
    obtain ⟨r, hrr⟩ : ∃ r, r = costs.getD x zR := ⟨_, rfl⟩
    obtain ⟨fx, hfx⟩ : ∃ y, y = f x := ⟨_, rfl⟩
    rw [← hrr, ← hfx] at h7 hrx
    rw [← hrr] at hlx
    have hbn := bestF_snoc costs pre x
    have hcB : cellsB costs f (some x) = #[.bool r.neg, .slice fx.1.1 r.num.length fx.1.2, .slice fx.2.1 r.den.length fx.2.2] := by rw [hrr, hfx]; rfl
    have hwW := h1.size
    obtain ⟨bp, hbp⟩ : ∃ b, b = bestF costs pre := ⟨_, rfl⟩
    rw [← hbp] at h2 h4 h5 h6 hbn
    clear hbp
    have HX := Lib.hid hx; have HBN := Lib.hid hbn; have HCB := Lib.hid hcB; have HRX := Lib.hid hrx; have HLX := Lib.hid hlx
    have HI1 := Lib.hid h1; have HI3 := Lib.hid h3; have HI4 := Lib.hid h4; have HI5 := Lib.hid h5; have HI6 := Lib.hid h6; have HI7 := Lib.hid h7
    have e7 := h7.cell; have l7 := h7.lt; have e5 := h5.cell; have l5 := h5.lt; have f5 := h5.free; have l4 := h4.lt; have f4 := h4.free; have l6 := h6.lt; have f6 := h6.free; have e3 := h3.cell; have l3 := h3.lt
    -- what the last region leaves
    have fin : ∀ w1, Ext W w1 → bestF costs (pre ++ [x]) = some x →
        upPost w.heap.size w3.heap.size (FirI costs f w) (fun _ _ _ => False) (pre ++ [x]) W .normal { tmps := #[], defers := [] } (((((w1.setCell ⟨w.heap.size + 1, 0, none⟩ (.int .i64 x)).setCell ⟨w.heap.size + 3, 0, none⟩ (.bool r.neg)).setCell ⟨w.heap.size + 3, 1, none⟩ (.slice fx.1.1 r.num.length fx.1.2)).setCell ⟨w.heap.size + 3, 2, none⟩ (.slice fx.2.1 r.den.length fx.2.2)).setCell ⟨w.heap.size + 2, 0, none⟩ (.bool true)).drew := by
      intro w1 hx1 hb1
      have hfr : Fr (fun i => w.heap.size < i ∧ i ≤ w.heap.size + 3) W (((((w1.setCell ⟨w.heap.size + 1, 0, none⟩ (.int .i64 x)).setCell ⟨w.heap.size + 3, 0, none⟩ (.bool r.neg)).setCell ⟨w.heap.size + 3, 1, none⟩ (.slice fx.1.1 r.num.length fx.1.2)).setCell ⟨w.heap.size + 3, 2, none⟩ (.slice fx.2.1 r.den.length fx.2.2)).setCell ⟨w.heap.size + 2, 0, none⟩ (.bool true)).drew :=
        Fr.drew <| (((((Fr.ext hx1).set (by dsimp only; omega) _).set (by dsimp only; omega) _).set (by dsimp only; omega) _).set (by dsimp only; omega) _).set (by dsimp only; omega) _
      refine ⟨Kd.of_fr hfr hlt (fun h => by omega) (fun h => by omega), hfr.below (fun i hi h => by omega) hwW, HI1.out.fr hfr (fun i hi h => by omega), ?_, HI3.out.fr hfr (fun h => by omega), ?_, ?_, ?_⟩
      · intro j hj; rw [hb1] at hj; injection hj with hj; subst hj; exact HX.out
      · rw [hb1]
        have h := ((((((HI4.out.ext hx1).set 0 (.int .i64 x)).setOther (a := ⟨w.heap.size + 3, 0, none⟩) (by dsimp only; omega) (.bool r.neg)).setOther (a := ⟨w.heap.size + 3, 1, none⟩) (by dsimp only; omega) (.slice fx.1.1 r.num.length fx.1.2)).setOther (a := ⟨w.heap.size + 3, 2, none⟩) (by dsimp only; omega) (.slice fx.2.1 r.den.length fx.2.2)).setOther (a := ⟨w.heap.size + 2, 0, none⟩) (by dsimp only; omega) (.bool true))
        exact h
      · rw [hb1]
        have h := ((((((HI5.out.ext hx1).setOther (a := ⟨w.heap.size + 1, 0, none⟩) (by dsimp only; omega) (.int .i64 x)).setOther (a := ⟨w.heap.size + 3, 0, none⟩) (by dsimp only; omega) (.bool r.neg)).setOther (a := ⟨w.heap.size + 3, 1, none⟩) (by dsimp only; omega) (.slice fx.1.1 r.num.length fx.1.2)).setOther (a := ⟨w.heap.size + 3, 2, none⟩) (by dsimp only; omega) (.slice fx.2.1 r.den.length fx.2.2)).set 0 (.bool true))
        exact h
      · rw [hb1, HCB.out]
        obtain ⟨z0, z1, z2, hz⟩ := cellsB_three costs f bp
        have h6 := HI6.out
        rw [hz] at h6
        have h := ((((((h6.ext hx1).setOther (a := ⟨w.heap.size + 1, 0, none⟩) (by dsimp only; omega) (.int .i64 x)).set 0 (.bool r.neg)).set 1 (.slice fx.1.1 r.num.length fx.1.2)).set 2 (.slice fx.2.1 r.den.length fx.2.2)).setOther (a := ⟨w.heap.size + 2, 0, none⟩) (by dsimp only; omega) (.bool true))
        exact h
    have FIN := Lib.hid fin
    have HR0 := Lib.hid hrr
    clear h1 h3 h4 h5 h6 h7 hx hrr hfx hbn hcB hrx hlx fin
    cases bp with
    | none =>
      have hb1 : Hid (bestF costs (pre ++ [x]) = some x) := Lib.hid HBN.out
      have h6 : Blk W (w.heap.size + 3) #[.bool false, .slice none 0 0, .slice none 0 0] 62 := HI6.out
      have e6 := h6.cell; have e4 := HI4.out.cell
      clear h6
      gi_wp2_with fail
      refine ⟨fun _ h => (by cases h), ?_⟩
      gi_wp2_with fail
      gi_region
      all_goals (gi_wp2; exact FIN.out _ (Ext.refl _) hb1.out)
    | some j =>
      have hj := h2 j rfl
      have hrr0 := HR0.out
      have HJ := Lib.hid hj
      have hrj := HRD.out j hj
      have hlj := HL.out j hj
      obtain ⟨rj, hrr⟩ : ∃ r, r = costs.getD j zR := ⟨_, rfl⟩
      obtain ⟨fj, hfj⟩ : ∃ y, y = f j := ⟨_, rfl⟩
      have e6 : Blk W (w.heap.size + 3) #[.bool rj.neg, .slice fj.1.1 rj.num.length fj.1.2, .slice fj.2.1 rj.den.length fj.2.2] 62 := by rw [hrr, hfj]; exact HI6.out
      rw [← hrr, ← hfj] at hrj
      rw [← hrr] at hlj
      have hst : stepB costs (some j) x = if ltR r rj = true then some x else some j := by rw [hrr, hrr0]; rfl
      have hb1 := HBN.out.trans hst
      have hsm := fun W' (x' : Ext W W') => smaller_any _ _ r rj W' (HRX.out W' (HI1.out.trans x')) (hrj W' (HI1.out.trans x')) HLX.out hlj
      obtain ⟨lt, hlt0⟩ : ∃ lt, lt = ltR r rj := ⟨_, rfl⟩
      rw [← hlt0] at hsm hb1
      have HR6 := Lib.hid (And.intro hrr hfj)
      have HSM := Lib.hid hsm; have HB1 := Lib.hid hb1; have HI6 := Lib.hid e6
      have e6 := e6.cell
      clear hst hb1 hsm hlt0 hrr hrr0 hfj hrj hlj h2 hj
      gi_wp2_with fail
      refine ⟨trivial, CallsIn.inRound ll ((callsIn_wide.2 (HSM.out _ (Ext.refl _))).mono ?_)⟩
      rintro e w4 ⟨rfl, hx4⟩
      have h4 := HI4.out.ext hx4; have h5 := HI5.out.ext hx4; have h6 := HI6.out.ext hx4; have h7 := HI7.out.ext hx4
      have HX4 := Lib.hid hx4
      clear e7 l7 e5 l5 f5 l4 f4 l6 f6 e3 l3 e6 hx4
      have e7 := h7.cell; have l7 := h7.lt; have e4 := h4.cell; have e5 := h5.cell; have e6 := h6.cell; have l5 := h5.lt; have f5 := h5.free; have l4 := h4.lt; have f4 := h4.free; have l6 := h6.lt; have f6 := h6.free
      clear h4 h5 h6 h7
      have hw4 : w.heap.size ≤ w4.heap.size := by omega
      cases lt
      · have HB2 := Lib.hid (show bestF costs (pre ++ [x]) = some j from HB1.out)
        gi_wp2
        refine ⟨Kd.of_ext HX4.out hlt, HX4.out.mono hwW, HI1.out.trans HX4.out, ?_, HI3.out.ext HX4.out, ?_, ?_, ?_⟩
        · intro j' hj'; rw [HB2.out] at hj'; injection hj' with hj'; subst hj'; exact HJ.out
        · rw [HB2.out]; exact HI4.out.ext HX4.out
        · rw [HB2.out]; exact HI5.out.ext HX4.out
        · rw [HB2.out]; have := HI6.out.ext HX4.out; rw [HR6.out.1, HR6.out.2] at this; exact this
      · have HB2 := Lib.hid (show bestF costs (pre ++ [x]) = some x from HB1.out)
        gi_wp2_with fail
        gi_region
        all_goals (gi_wp2; exact FIN.out _ HX4.out HB2.out)
  case hdone =>
    rintro xs W rfl ⟨h1, h2, h3, h4, h5, h6⟩ hD
    obtain ⟨b, hb⟩ : ∃ b, b = bestF costs (pick ms M costs.length) := ⟨_, rfl⟩
    rw [← hb] at h4 h5
    have HB := Lib.hid hb
    have HI1 := Lib.hid h1; have HI4 := Lib.hid h4; have HI5 := Lib.hid h5; have HD := Lib.hid hD
    have e4 := h4.cell; have e5 := h5.cell; have l4 := h4.lt; have l5 := h5.lt; have f4 := h4.free; have f5 := h5.free
    have hw0 := h1.size
    have lm : w3.heap.size < W.heap.size := (Array.getElem?_eq_some_iff.1 hD).1
    clear h1 h2 h3 h4 h5 h6 hb hD
    gi_wp2_with fail
    gi_region
    gi_wp2
    have hDW : ((W.setCell ⟨w.heap.size + 1, 0, none⟩ (.int .i64 (keyB b))).setCell ⟨w.heap.size + 1 + 1, 0, none⟩ (.bool b.isSome)).drew.heap[w3.heap.size]? = some (.deferred (some [])) := (Below.heap_setCell _ _ _ _ (by dsimp only; omega)).trans ((Below.heap_setCell _ _ _ _ (by dsimp only; omega)).trans HD.out)
    have b1 : Blk (((W.setCell ⟨w.heap.size + 1, 0, none⟩ (.int .i64 (keyB b))).setCell ⟨w.heap.size + 1 + 1, 0, none⟩ (.bool b.isSome)).drew.putObj w3.heap.size (.deferred none)) (w.heap.size + 1) #[.int .i64 (keyB b)] 3 := (World.putObj_heap_other (by omega)).trans ((HI4.out.set 0 (.int .i64 (keyB b))).setOther (a := ⟨w.heap.size + 1 + 1, 0, none⟩) (by dsimp only; omega) (.bool b.isSome))
    have b2 : Blk (((W.setCell ⟨w.heap.size + 1, 0, none⟩ (.int .i64 (keyB b))).setCell ⟨w.heap.size + 1 + 1, 0, none⟩ (.bool b.isSome)).drew.putObj w3.heap.size (.deferred none)) (w.heap.size + 1 + 1) #[.bool b.isSome] 4 := (World.putObj_heap_other (by omega)).trans ((HI5.out.setOther (a := ⟨w.heap.size + 1, 0, none⟩) (by dsimp only; omega) (.int .i64 (keyB b))).set 0 (.bool b.isSome))
    have c1 := b1.cell; have c2 := b2.cell
    refine ⟨by simp, .inl ⟨_, _, rfl, run_takeDeferred hDW, ?_⟩⟩
    refine ⟨.tuple #[.int .i64 (keyB b), .bool b.isSome], by (simp only [results, Tryz.results97]; go_simp), by rw [HB.out], ?_⟩
    exact (((HI1.out.set (by dsimp only; omega) _).set (by dsimp only; omega) _).drew).kz (Kz.put0 (m := w3.heap.size) _ _) (by omega)
  case hstop =>
    rintro c xs W h _
    exact h.elim

end Go.Proofs.YthkfkfbfblppeaaGreat
